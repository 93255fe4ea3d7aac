/-
  The contract of a book's Apart, where lists of these kinds alone were kept: Ints, Tiers.
-/
import Derived.Test.YtaenpcglaenlaaaBookIAdd
import Derived.Test.YtaenpcglaenlaaaBookRAdd
import Derived.Test.YtaenpcglaenlaaaBookNil
namespace Go.Proofs.Ytaenpcglaenlaaa
open Go.RowKit
set_option linter.unusedVariables false
set_option linter.unusedSimpArgs false

theorem BKC.at {w : World} {p k : Nat} {cs : Array Value} {T : TypeId} {fr : Nat × Nat} {v : Value} (h : w.heap[p]? = some (.cells cs T fr)) (hc : cs[k]? = some v) : w.cell? ⟨p, k, none⟩ = some v := by rw [cell_of_row w p _ _ _ _ h]; exact hc
set_option maxRecDepth 100000 in
set_option maxHeartbeats 16000000 in
theorem apart_any {w : World} {B p : Nat} {cs : Array Value} {ni : Nat} {vsi usi : Nat → Value} {lsi : Nat → List Int} (hi : BB_i w B p cs ni vsi usi lsi) {nr : Nat} {vsr usr : Nat → Value} {lsr : Nat → List TierV} (hr : BB_r w B p cs nr vsr usr lsr) (hc : ∀ k, (k < 16 ∧ k ≠ 2 ∧ k ≠ 3 ∧ k ≠ 8 ∧ k ≠ 9) → cs[k]? = some (.slice none 0 0)) (hB : B ≤ p) :
    Calls Try.prog 31 #[.pointer (some ⟨p, 0, none⟩)] w (fun x w' => x = .returned (.bool true) ∧ Below B w w') := by
  have HC := Lib.hid (show w.heap[p]? = some (.cells cs 58) ∧ ∀ k, (k < 16 ∧ k ≠ 2 ∧ k ≠ 3 ∧ k ≠ 8 ∧ k ≠ 9) → cs[k]? = some (.slice none 0 0) from ⟨hi.bk.blk, hc⟩)
  have HX := Lib.hid (Below.refl B w)
  have HZ := Lib.hid hi.bk.base
  have HBi := Lib.hid hi.bk
  obtain ⟨uvi, hui, huri, husi, -⟩ := hi.was
  have HWi := Lib.hid (show cs[3]? = some uvi ∧ OwnL w B 25 1 uvi ni ((List.range ni).map usi) ∧ ∀ i, i < ni → OwnL w B 3 1 (usi i) (lsi i).length ((lsi i).map (Value.int .i64)) from ⟨hui, huri, husi⟩)
  obtain ⟨lvi, hlvi, -⟩ := hi.bk.row
  have HLi := Lib.hid hlvi
  have HNi := Lib.hid (And.intro hi.bk.few hi.bk.short)
  have HBr := Lib.hid hr.bk
  obtain ⟨uvr, hur, hurr, husr, -⟩ := hr.was
  have HWr := Lib.hid (show cs[9]? = some uvr ∧ OwnL w B 22 1 uvr nr ((List.range nr).map usr) ∧ ∀ i, i < nr → OwnL w B 32 4 (usr i) (lsr i).length (flatT (lsr i)) from ⟨hur, hurr, husr⟩)
  obtain ⟨lvr, hlvr, -⟩ := hr.bk.row
  have HLr := Lib.hid hlvr
  have HNr := Lib.hid (And.intro hr.bk.few hr.bk.short)
  clear hc hB hi hui huri husi hlvi hr hur hurr husr hlvr
  go_enter Try.func31, Try.ntmps31
  -- stillTexts
  go_wp2_with fail
  refine (stillTexts_nil p _ (BKC.at HC.out.1 (HC.out.2 0 (by decide)))).mono ?_
  rintro e w1 ⟨rfl, hb1⟩
  replace HWi := Lib.hid (show _ ∧ _ ∧ _ from ⟨HWi.out.1, HWi.out.2.1.below hb1, fun i hi => (HWi.out.2.2 i hi).below hb1⟩)
  replace HWr := Lib.hid (show _ ∧ _ ∧ _ from ⟨HWr.out.1, HWr.out.2.1.below hb1, fun i hi => (HWr.out.2.2 i hi).below hb1⟩)
  replace HC := Lib.hid (⟨heap_step HC.out.1 hb1, HC.out.2⟩ : _ ∧ _)
  replace HX := Lib.hid (HX.out.trans (hb1.mono HZ.out))
  replace HZ := Lib.hid (Nat.le_trans HZ.out hb1.size)
  replace HBi := Lib.hid (HBi.out.below hb1)
  replace HBr := Lib.hid (HBr.out.below hb1)
  clear hb1
  -- stillInts
  go_wp2_with fail
  refine (still_i HBi.out HWi.out.1 HWi.out.2.1 (fun i hi => ints_of_ownL (HWi.out.2.2 i hi) (HBi.out.ok i hi))).mono ?_
  rintro e w1 ⟨rfl, hb1⟩
  replace HWi := Lib.hid (show _ ∧ _ ∧ _ from ⟨HWi.out.1, HWi.out.2.1.below hb1, fun i hi => (HWi.out.2.2 i hi).below hb1⟩)
  replace HWr := Lib.hid (show _ ∧ _ ∧ _ from ⟨HWr.out.1, HWr.out.2.1.below hb1, fun i hi => (HWr.out.2.2 i hi).below hb1⟩)
  replace HC := Lib.hid (⟨heap_step HC.out.1 hb1, HC.out.2⟩ : _ ∧ _)
  replace HX := Lib.hid (HX.out.trans (hb1.mono HZ.out))
  replace HZ := Lib.hid (Nat.le_trans HZ.out hb1.size)
  replace HBi := Lib.hid (HBi.out.below hb1)
  replace HBr := Lib.hid (HBr.out.below hb1)
  clear hb1
  -- stillRecords
  go_wp2_with fail
  refine (stillRecords_nil p _ (BKC.at HC.out.1 (HC.out.2 4 (by decide)))).mono ?_
  rintro e w1 ⟨rfl, hb1⟩
  replace HWi := Lib.hid (show _ ∧ _ ∧ _ from ⟨HWi.out.1, HWi.out.2.1.below hb1, fun i hi => (HWi.out.2.2 i hi).below hb1⟩)
  replace HWr := Lib.hid (show _ ∧ _ ∧ _ from ⟨HWr.out.1, HWr.out.2.1.below hb1, fun i hi => (HWr.out.2.2 i hi).below hb1⟩)
  replace HC := Lib.hid (⟨heap_step HC.out.1 hb1, HC.out.2⟩ : _ ∧ _)
  replace HX := Lib.hid (HX.out.trans (hb1.mono HZ.out))
  replace HZ := Lib.hid (Nat.le_trans HZ.out hb1.size)
  replace HBi := Lib.hid (HBi.out.below hb1)
  replace HBr := Lib.hid (HBr.out.below hb1)
  clear hb1
  -- stillSamples
  go_wp2_with fail
  refine (stillSamples_nil p _ (BKC.at HC.out.1 (HC.out.2 6 (by decide)))).mono ?_
  rintro e w1 ⟨rfl, hb1⟩
  replace HWi := Lib.hid (show _ ∧ _ ∧ _ from ⟨HWi.out.1, HWi.out.2.1.below hb1, fun i hi => (HWi.out.2.2 i hi).below hb1⟩)
  replace HWr := Lib.hid (show _ ∧ _ ∧ _ from ⟨HWr.out.1, HWr.out.2.1.below hb1, fun i hi => (HWr.out.2.2 i hi).below hb1⟩)
  replace HC := Lib.hid (⟨heap_step HC.out.1 hb1, HC.out.2⟩ : _ ∧ _)
  replace HX := Lib.hid (HX.out.trans (hb1.mono HZ.out))
  replace HZ := Lib.hid (Nat.le_trans HZ.out hb1.size)
  replace HBi := Lib.hid (HBi.out.below hb1)
  replace HBr := Lib.hid (HBr.out.below hb1)
  clear hb1
  -- stillTiers
  go_wp2_with fail
  refine (still_r HBr.out HWr.out.1 HWr.out.2.1 (fun i hi => tiers_of_ownL (HWr.out.2.2 i hi) (HBr.out.ok i hi))).mono ?_
  rintro e w1 ⟨rfl, hb1⟩
  replace HWi := Lib.hid (show _ ∧ _ ∧ _ from ⟨HWi.out.1, HWi.out.2.1.below hb1, fun i hi => (HWi.out.2.2 i hi).below hb1⟩)
  replace HWr := Lib.hid (show _ ∧ _ ∧ _ from ⟨HWr.out.1, HWr.out.2.1.below hb1, fun i hi => (HWr.out.2.2 i hi).below hb1⟩)
  replace HC := Lib.hid (⟨heap_step HC.out.1 hb1, HC.out.2⟩ : _ ∧ _)
  replace HX := Lib.hid (HX.out.trans (hb1.mono HZ.out))
  replace HZ := Lib.hid (Nat.le_trans HZ.out hb1.size)
  replace HBi := Lib.hid (HBi.out.below hb1)
  replace HBr := Lib.hid (HBr.out.below hb1)
  clear hb1
  -- stillErrnos
  go_wp2_with fail
  refine (stillErrnos_nil p _ (BKC.at HC.out.1 (HC.out.2 10 (by decide)))).mono ?_
  rintro e w1 ⟨rfl, hb1⟩
  replace HWi := Lib.hid (show _ ∧ _ ∧ _ from ⟨HWi.out.1, HWi.out.2.1.below hb1, fun i hi => (HWi.out.2.2 i hi).below hb1⟩)
  replace HWr := Lib.hid (show _ ∧ _ ∧ _ from ⟨HWr.out.1, HWr.out.2.1.below hb1, fun i hi => (HWr.out.2.2 i hi).below hb1⟩)
  replace HC := Lib.hid (⟨heap_step HC.out.1 hb1, HC.out.2⟩ : _ ∧ _)
  replace HX := Lib.hid (HX.out.trans (hb1.mono HZ.out))
  replace HZ := Lib.hid (Nat.le_trans HZ.out hb1.size)
  replace HBi := Lib.hid (HBi.out.below hb1)
  replace HBr := Lib.hid (HBr.out.below hb1)
  clear hb1
  -- stillWords
  go_wp2_with fail
  refine (stillWords_nil p _ (BKC.at HC.out.1 (HC.out.2 12 (by decide)))).mono ?_
  rintro e w1 ⟨rfl, hb1⟩
  replace HWi := Lib.hid (show _ ∧ _ ∧ _ from ⟨HWi.out.1, HWi.out.2.1.below hb1, fun i hi => (HWi.out.2.2 i hi).below hb1⟩)
  replace HWr := Lib.hid (show _ ∧ _ ∧ _ from ⟨HWr.out.1, HWr.out.2.1.below hb1, fun i hi => (HWr.out.2.2 i hi).below hb1⟩)
  replace HC := Lib.hid (⟨heap_step HC.out.1 hb1, HC.out.2⟩ : _ ∧ _)
  replace HX := Lib.hid (HX.out.trans (hb1.mono HZ.out))
  replace HZ := Lib.hid (Nat.le_trans HZ.out hb1.size)
  replace HBi := Lib.hid (HBi.out.below hb1)
  replace HBr := Lib.hid (HBr.out.below hb1)
  clear hb1
  -- stillSteps
  go_wp2_with fail
  refine (stillSteps_nil p _ (BKC.at HC.out.1 (HC.out.2 14 (by decide)))).mono ?_
  rintro e w1 ⟨rfl, hb1⟩
  replace HWi := Lib.hid (show _ ∧ _ ∧ _ from ⟨HWi.out.1, HWi.out.2.1.below hb1, fun i hi => (HWi.out.2.2 i hi).below hb1⟩)
  replace HWr := Lib.hid (show _ ∧ _ ∧ _ from ⟨HWr.out.1, HWr.out.2.1.below hb1, fun i hi => (HWr.out.2.2 i hi).below hb1⟩)
  replace HC := Lib.hid (⟨heap_step HC.out.1 hb1, HC.out.2⟩ : _ ∧ _)
  replace HX := Lib.hid (HX.out.trans (hb1.mono HZ.out))
  replace HZ := Lib.hid (Nat.le_trans HZ.out hb1.size)
  replace HBi := Lib.hid (HBi.out.below hb1)
  replace HBr := Lib.hid (HBr.out.below hb1)
  clear hb1
  clear HWi HWr
  -- putSteps
  go_wp2_with fail
  refine (putSteps_nil p _ (BKC.at HC.out.1 (HC.out.2 14 (by decide)))).mono ?_
  rintro e w1 ⟨rfl, hb1⟩
  replace HC := Lib.hid (⟨heap_step HC.out.1 hb1, HC.out.2⟩ : _ ∧ _)
  replace HX := Lib.hid (HX.out.trans (hb1.mono HZ.out))
  replace HZ := Lib.hid (Nat.le_trans HZ.out hb1.size)
  replace HBi := Lib.hid (HBi.out.below hb1)
  replace HBr := Lib.hid (HBr.out.below hb1)
  clear hb1
  -- putTexts
  go_wp2_with fail
  refine (putTexts_nil p _ (BKC.at HC.out.1 (HC.out.2 0 (by decide)))).mono ?_
  rintro e w1 ⟨rfl, hb1⟩
  replace HC := Lib.hid (⟨heap_step HC.out.1 hb1, HC.out.2⟩ : _ ∧ _)
  replace HX := Lib.hid (HX.out.trans (hb1.mono HZ.out))
  replace HZ := Lib.hid (Nat.le_trans HZ.out hb1.size)
  replace HBi := Lib.hid (HBi.out.below hb1)
  replace HBr := Lib.hid (HBr.out.below hb1)
  clear hb1
  -- putInts
  go_wp2_with fail
  refine (put_i HBi.out).mono ?_
  rintro e w1 ⟨rfl, hbk, hb1, ht⟩
  replace HC := Lib.hid (⟨hbk.blk, HC.out.2⟩ : _ ∧ _)
  replace HX := Lib.hid (HX.out.trans hb1)
  replace HZ := Lib.hid hbk.base
  replace HBi := Lib.hid hbk
  replace HBr := Lib.hid (HBr.out.other ht (by decide) (by decide) (by decide))
  clear hb1 hbk ht
  -- putRecords
  go_wp2_with fail
  refine (putRecords_nil p _ (BKC.at HC.out.1 (HC.out.2 4 (by decide)))).mono ?_
  rintro e w1 ⟨rfl, hb1⟩
  replace HC := Lib.hid (⟨heap_step HC.out.1 hb1, HC.out.2⟩ : _ ∧ _)
  replace HX := Lib.hid (HX.out.trans (hb1.mono HZ.out))
  replace HZ := Lib.hid (Nat.le_trans HZ.out hb1.size)
  replace HBi := Lib.hid (HBi.out.below hb1)
  replace HBr := Lib.hid (HBr.out.below hb1)
  clear hb1
  -- putSamples
  go_wp2_with fail
  refine (putSamples_nil p _ (BKC.at HC.out.1 (HC.out.2 6 (by decide)))).mono ?_
  rintro e w1 ⟨rfl, hb1⟩
  replace HC := Lib.hid (⟨heap_step HC.out.1 hb1, HC.out.2⟩ : _ ∧ _)
  replace HX := Lib.hid (HX.out.trans (hb1.mono HZ.out))
  replace HZ := Lib.hid (Nat.le_trans HZ.out hb1.size)
  replace HBi := Lib.hid (HBi.out.below hb1)
  replace HBr := Lib.hid (HBr.out.below hb1)
  clear hb1
  -- putTiers
  go_wp2_with fail
  refine (put_r HBr.out).mono ?_
  rintro e w1 ⟨rfl, hbk, hb1, ht⟩
  replace HC := Lib.hid (⟨hbk.blk, HC.out.2⟩ : _ ∧ _)
  replace HX := Lib.hid (HX.out.trans hb1)
  replace HZ := Lib.hid hbk.base
  replace HBr := Lib.hid hbk
  replace HBi := Lib.hid (HBi.out.other ht (by decide) (by decide) (by decide))
  clear hb1 hbk ht
  -- putErrnos
  go_wp2_with fail
  refine (putErrnos_nil p _ (BKC.at HC.out.1 (HC.out.2 10 (by decide)))).mono ?_
  rintro e w1 ⟨rfl, hb1⟩
  replace HC := Lib.hid (⟨heap_step HC.out.1 hb1, HC.out.2⟩ : _ ∧ _)
  replace HX := Lib.hid (HX.out.trans (hb1.mono HZ.out))
  replace HZ := Lib.hid (Nat.le_trans HZ.out hb1.size)
  replace HBi := Lib.hid (HBi.out.below hb1)
  replace HBr := Lib.hid (HBr.out.below hb1)
  clear hb1
  -- putWords
  go_wp2_with fail
  refine (putWords_nil p _ (BKC.at HC.out.1 (HC.out.2 12 (by decide)))).mono ?_
  rintro e w1 ⟨rfl, hb1⟩
  replace HC := Lib.hid (⟨heap_step HC.out.1 hb1, HC.out.2⟩ : _ ∧ _)
  replace HX := Lib.hid (HX.out.trans (hb1.mono HZ.out))
  replace HZ := Lib.hid (Nat.le_trans HZ.out hb1.size)
  replace HBi := Lib.hid (HBi.out.below hb1)
  replace HBr := Lib.hid (HBr.out.below hb1)
  clear hb1
  -- growTexts
  go_wp2_with fail
  refine (growTexts_nil p _ (BKC.at HC.out.1 (HC.out.2 0 (by decide)))).mono ?_
  rintro e w1 ⟨rfl, hb1⟩
  replace HC := Lib.hid (⟨heap_step HC.out.1 hb1, HC.out.2⟩ : _ ∧ _)
  replace HX := Lib.hid (HX.out.trans (hb1.mono HZ.out))
  replace HZ := Lib.hid (Nat.le_trans HZ.out hb1.size)
  replace HBi := Lib.hid (HBi.out.below hb1)
  replace HBr := Lib.hid (HBr.out.below hb1)
  clear hb1
  -- growInts
  go_wp2_with fail
  refine (grow_i HBi.out (fun i hi => by rw [marksI_len])).mono ?_
  rintro e w1 ⟨gvi, gsi, rfl, hgr, hgs, hbk, hb1, ht⟩
  replace HC := Lib.hid (⟨hbk.blk, HC.out.2⟩ : _ ∧ _)
  replace HX := Lib.hid (HX.out.trans hb1)
  replace HBr := Lib.hid (HBr.out.other ht (by decide) (by decide) (by decide))
  have HGi := Lib.hid (And.intro (hgr.mono HZ.out) hgs)
  obtain ⟨gai, gci, rfl⟩ := hgr.form
  replace HZ := Lib.hid hbk.base
  replace HBi := Lib.hid hbk
  clear hb1 hbk ht hgr hgs
  -- growRecords
  go_wp2_with fail
  refine (growRecords_nil p _ (BKC.at HC.out.1 (HC.out.2 4 (by decide)))).mono ?_
  rintro e w1 ⟨rfl, hb1⟩
  replace HGi := Lib.hid (show _ ∧ _ from ⟨HGi.out.1.below hb1, fun i hi => (HGi.out.2 i hi).below hb1⟩)
  replace HC := Lib.hid (⟨heap_step HC.out.1 hb1, HC.out.2⟩ : _ ∧ _)
  replace HX := Lib.hid (HX.out.trans (hb1.mono HZ.out))
  replace HZ := Lib.hid (Nat.le_trans HZ.out hb1.size)
  replace HBi := Lib.hid (HBi.out.below hb1)
  replace HBr := Lib.hid (HBr.out.below hb1)
  clear hb1
  -- growSamples
  go_wp2_with fail
  refine (growSamples_nil p _ (BKC.at HC.out.1 (HC.out.2 6 (by decide)))).mono ?_
  rintro e w1 ⟨rfl, hb1⟩
  replace HGi := Lib.hid (show _ ∧ _ from ⟨HGi.out.1.below hb1, fun i hi => (HGi.out.2 i hi).below hb1⟩)
  replace HC := Lib.hid (⟨heap_step HC.out.1 hb1, HC.out.2⟩ : _ ∧ _)
  replace HX := Lib.hid (HX.out.trans (hb1.mono HZ.out))
  replace HZ := Lib.hid (Nat.le_trans HZ.out hb1.size)
  replace HBi := Lib.hid (HBi.out.below hb1)
  replace HBr := Lib.hid (HBr.out.below hb1)
  clear hb1
  -- growTiers
  go_wp2_with fail
  refine (grow_r HBr.out (fun i hi => by rw [marksR_len])).mono ?_
  rintro e w1 ⟨gvr, gsr, rfl, hgr, hgs, hbk, hb1, ht⟩
  replace HC := Lib.hid (⟨hbk.blk, HC.out.2⟩ : _ ∧ _)
  replace HX := Lib.hid (HX.out.trans hb1)
  replace HBi := Lib.hid (HBi.out.other ht (by decide) (by decide) (by decide))
  replace HGi := Lib.hid (show _ ∧ _ from ⟨ht.other HGi.out.1 (by decide), fun i hi => ht.other (HGi.out.2 i hi) (by decide)⟩)
  have HGr := Lib.hid (And.intro (hgr.mono HZ.out) hgs)
  obtain ⟨gar, gcr, rfl⟩ := hgr.form
  replace HZ := Lib.hid hbk.base
  replace HBr := Lib.hid hbk
  clear hb1 hbk ht hgr hgs
  -- growErrnos
  go_wp2_with fail
  refine (growErrnos_nil p _ (BKC.at HC.out.1 (HC.out.2 10 (by decide)))).mono ?_
  rintro e w1 ⟨rfl, hb1⟩
  replace HGi := Lib.hid (show _ ∧ _ from ⟨HGi.out.1.below hb1, fun i hi => (HGi.out.2 i hi).below hb1⟩)
  replace HGr := Lib.hid (show _ ∧ _ from ⟨HGr.out.1.below hb1, fun i hi => (HGr.out.2 i hi).below hb1⟩)
  replace HC := Lib.hid (⟨heap_step HC.out.1 hb1, HC.out.2⟩ : _ ∧ _)
  replace HX := Lib.hid (HX.out.trans (hb1.mono HZ.out))
  replace HZ := Lib.hid (Nat.le_trans HZ.out hb1.size)
  replace HBi := Lib.hid (HBi.out.below hb1)
  replace HBr := Lib.hid (HBr.out.below hb1)
  clear hb1
  -- growWords
  go_wp2_with fail
  refine (growWords_nil p _ (BKC.at HC.out.1 (HC.out.2 12 (by decide)))).mono ?_
  rintro e w1 ⟨rfl, hb1⟩
  replace HGi := Lib.hid (show _ ∧ _ from ⟨HGi.out.1.below hb1, fun i hi => (HGi.out.2 i hi).below hb1⟩)
  replace HGr := Lib.hid (show _ ∧ _ from ⟨HGr.out.1.below hb1, fun i hi => (HGr.out.2 i hi).below hb1⟩)
  replace HC := Lib.hid (⟨heap_step HC.out.1 hb1, HC.out.2⟩ : _ ∧ _)
  replace HX := Lib.hid (HX.out.trans (hb1.mono HZ.out))
  replace HZ := Lib.hid (Nat.le_trans HZ.out hb1.size)
  replace HBi := Lib.hid (HBi.out.below hb1)
  replace HBr := Lib.hid (HBr.out.below hb1)
  clear hb1
  -- growSteps
  go_wp2_with fail
  refine (growSteps_nil p _ (BKC.at HC.out.1 (HC.out.2 14 (by decide)))).mono ?_
  rintro e w1 ⟨rfl, hb1⟩
  replace HGi := Lib.hid (show _ ∧ _ from ⟨HGi.out.1.below hb1, fun i hi => (HGi.out.2 i hi).below hb1⟩)
  replace HGr := Lib.hid (show _ ∧ _ from ⟨HGr.out.1.below hb1, fun i hi => (HGr.out.2 i hi).below hb1⟩)
  replace HC := Lib.hid (⟨heap_step HC.out.1 hb1, HC.out.2⟩ : _ ∧ _)
  replace HX := Lib.hid (HX.out.trans (hb1.mono HZ.out))
  replace HZ := Lib.hid (Nat.le_trans HZ.out hb1.size)
  replace HBi := Lib.hid (HBi.out.below hb1)
  replace HBr := Lib.hid (HBr.out.below hb1)
  clear hb1
  -- markedTexts 0
  go_wp2_with fail
  refine (markedTexts_nil _).mono ?_
  rintro e w1 ⟨rfl, hb1⟩
  replace HGi := Lib.hid (show _ ∧ _ from ⟨HGi.out.1.below hb1, fun i hi => (HGi.out.2 i hi).below hb1⟩)
  replace HGr := Lib.hid (show _ ∧ _ from ⟨HGr.out.1.below hb1, fun i hi => (HGr.out.2 i hi).below hb1⟩)
  replace HC := Lib.hid (⟨heap_step HC.out.1 hb1, HC.out.2⟩ : _ ∧ _)
  replace HX := Lib.hid (HX.out.trans (hb1.mono HZ.out))
  replace HZ := Lib.hid (Nat.le_trans HZ.out hb1.size)
  replace HBi := Lib.hid (HBi.out.below hb1)
  replace HBr := Lib.hid (HBr.out.below hb1)
  clear hb1
  -- markedTexts 1
  have ckTexts := BKC.at HC.out.1 (HC.out.2 0 (by decide))
  go_wp2_with fail
  refine (markedTexts_nil _).mono ?_
  rintro e w1 ⟨rfl, hb1⟩
  replace HGi := Lib.hid (show _ ∧ _ from ⟨HGi.out.1.below hb1, fun i hi => (HGi.out.2 i hi).below hb1⟩)
  replace HGr := Lib.hid (show _ ∧ _ from ⟨HGr.out.1.below hb1, fun i hi => (HGr.out.2 i hi).below hb1⟩)
  replace HC := Lib.hid (⟨heap_step HC.out.1 hb1, HC.out.2⟩ : _ ∧ _)
  replace HX := Lib.hid (HX.out.trans (hb1.mono HZ.out))
  replace HZ := Lib.hid (Nat.le_trans HZ.out hb1.size)
  replace HBi := Lib.hid (HBi.out.below hb1)
  replace HBr := Lib.hid (HBr.out.below hb1)
  clear hb1
  -- markedInts 0
  go_wp2_with fail
  refine (marked_i (ns := fun i => (marksI i 0 (lsi i).length).length + 72) HGi.out.1 (fun i hi => marked_at_i (HGi.out.2 i hi) (by have := HNi.out.1; omega) (by have := HNi.out.2 i hi; rw [marksI_len]; omega)) (by have := HNi.out.1; omega) (fun i hi => ?_)).mono ?_
  · have := HNi.out.2 i hi; rw [marksI_len]; omega
  rintro e w1 ⟨rfl, hb1⟩
  replace HGi := Lib.hid (show _ ∧ _ from ⟨HGi.out.1.below hb1, fun i hi => (HGi.out.2 i hi).below hb1⟩)
  replace HGr := Lib.hid (show _ ∧ _ from ⟨HGr.out.1.below hb1, fun i hi => (HGr.out.2 i hi).below hb1⟩)
  replace HC := Lib.hid (⟨heap_step HC.out.1 hb1, HC.out.2⟩ : _ ∧ _)
  replace HX := Lib.hid (HX.out.trans (hb1.mono HZ.out))
  replace HZ := Lib.hid (Nat.le_trans HZ.out hb1.size)
  replace HBi := Lib.hid (HBi.out.below hb1)
  replace HBr := Lib.hid (HBr.out.below hb1)
  clear hb1
  -- markedInts 1
  have cli := (HBi.out.at HLi.out)
  obtain ⟨lai, lci, hlfi⟩ := cli.2.form
  have cmi := cli.1
  rw [hlfi] at cmi
  have HRi := Lib.hid cli.2
  rw [hlfi] at HRi
  clear cli hlfi
  go_wp2_with fail
  refine (marked_i (ns := fun i => (lsi i).length) HRi.out (fun i hi => HBi.out.list hi) (by have := HNi.out.1; omega) (fun i hi => ?_)).mono ?_
  · have := HNi.out.2 i hi; omega
  rintro e w1 ⟨rfl, hb1⟩
  replace HGi := Lib.hid (show _ ∧ _ from ⟨HGi.out.1.below hb1, fun i hi => (HGi.out.2 i hi).below hb1⟩)
  replace HGr := Lib.hid (show _ ∧ _ from ⟨HGr.out.1.below hb1, fun i hi => (HGr.out.2 i hi).below hb1⟩)
  replace HC := Lib.hid (⟨heap_step HC.out.1 hb1, HC.out.2⟩ : _ ∧ _)
  replace HX := Lib.hid (HX.out.trans (hb1.mono HZ.out))
  replace HZ := Lib.hid (Nat.le_trans HZ.out hb1.size)
  replace HBi := Lib.hid (HBi.out.below hb1)
  replace HBr := Lib.hid (HBr.out.below hb1)
  clear hb1
  -- markedRecords 0
  go_wp2_with fail
  refine (markedRecords_nil _).mono ?_
  rintro e w1 ⟨rfl, hb1⟩
  replace HGi := Lib.hid (show _ ∧ _ from ⟨HGi.out.1.below hb1, fun i hi => (HGi.out.2 i hi).below hb1⟩)
  replace HGr := Lib.hid (show _ ∧ _ from ⟨HGr.out.1.below hb1, fun i hi => (HGr.out.2 i hi).below hb1⟩)
  replace HC := Lib.hid (⟨heap_step HC.out.1 hb1, HC.out.2⟩ : _ ∧ _)
  replace HX := Lib.hid (HX.out.trans (hb1.mono HZ.out))
  replace HZ := Lib.hid (Nat.le_trans HZ.out hb1.size)
  replace HBi := Lib.hid (HBi.out.below hb1)
  replace HBr := Lib.hid (HBr.out.below hb1)
  clear hb1
  -- markedRecords 1
  have ckRecords := BKC.at HC.out.1 (HC.out.2 4 (by decide))
  go_wp2_with fail
  refine (markedRecords_nil _).mono ?_
  rintro e w1 ⟨rfl, hb1⟩
  replace HGi := Lib.hid (show _ ∧ _ from ⟨HGi.out.1.below hb1, fun i hi => (HGi.out.2 i hi).below hb1⟩)
  replace HGr := Lib.hid (show _ ∧ _ from ⟨HGr.out.1.below hb1, fun i hi => (HGr.out.2 i hi).below hb1⟩)
  replace HC := Lib.hid (⟨heap_step HC.out.1 hb1, HC.out.2⟩ : _ ∧ _)
  replace HX := Lib.hid (HX.out.trans (hb1.mono HZ.out))
  replace HZ := Lib.hid (Nat.le_trans HZ.out hb1.size)
  replace HBi := Lib.hid (HBi.out.below hb1)
  replace HBr := Lib.hid (HBr.out.below hb1)
  clear hb1
  -- markedSamples 0
  go_wp2_with fail
  refine (markedSamples_nil _).mono ?_
  rintro e w1 ⟨rfl, hb1⟩
  replace HGi := Lib.hid (show _ ∧ _ from ⟨HGi.out.1.below hb1, fun i hi => (HGi.out.2 i hi).below hb1⟩)
  replace HGr := Lib.hid (show _ ∧ _ from ⟨HGr.out.1.below hb1, fun i hi => (HGr.out.2 i hi).below hb1⟩)
  replace HC := Lib.hid (⟨heap_step HC.out.1 hb1, HC.out.2⟩ : _ ∧ _)
  replace HX := Lib.hid (HX.out.trans (hb1.mono HZ.out))
  replace HZ := Lib.hid (Nat.le_trans HZ.out hb1.size)
  replace HBi := Lib.hid (HBi.out.below hb1)
  replace HBr := Lib.hid (HBr.out.below hb1)
  clear hb1
  -- markedSamples 1
  have ckSamples := BKC.at HC.out.1 (HC.out.2 6 (by decide))
  go_wp2_with fail
  refine (markedSamples_nil _).mono ?_
  rintro e w1 ⟨rfl, hb1⟩
  replace HGi := Lib.hid (show _ ∧ _ from ⟨HGi.out.1.below hb1, fun i hi => (HGi.out.2 i hi).below hb1⟩)
  replace HGr := Lib.hid (show _ ∧ _ from ⟨HGr.out.1.below hb1, fun i hi => (HGr.out.2 i hi).below hb1⟩)
  replace HC := Lib.hid (⟨heap_step HC.out.1 hb1, HC.out.2⟩ : _ ∧ _)
  replace HX := Lib.hid (HX.out.trans (hb1.mono HZ.out))
  replace HZ := Lib.hid (Nat.le_trans HZ.out hb1.size)
  replace HBi := Lib.hid (HBi.out.below hb1)
  replace HBr := Lib.hid (HBr.out.below hb1)
  clear hb1
  -- markedTiers 0
  go_wp2_with fail
  refine (marked_r (ns := fun i => (marksR i 0 (lsr i).length).length + 72) HGr.out.1 (fun i hi => marked_at_r (HGr.out.2 i hi) (by have := HNr.out.1; omega) (by have := HNr.out.2 i hi; rw [marksR_len]; omega)) (by have := HNr.out.1; omega) (fun i hi => ?_)).mono ?_
  · have := HNr.out.2 i hi; rw [marksR_len]; omega
  rintro e w1 ⟨rfl, hb1⟩
  replace HGi := Lib.hid (show _ ∧ _ from ⟨HGi.out.1.below hb1, fun i hi => (HGi.out.2 i hi).below hb1⟩)
  replace HGr := Lib.hid (show _ ∧ _ from ⟨HGr.out.1.below hb1, fun i hi => (HGr.out.2 i hi).below hb1⟩)
  replace HC := Lib.hid (⟨heap_step HC.out.1 hb1, HC.out.2⟩ : _ ∧ _)
  replace HX := Lib.hid (HX.out.trans (hb1.mono HZ.out))
  replace HZ := Lib.hid (Nat.le_trans HZ.out hb1.size)
  replace HBi := Lib.hid (HBi.out.below hb1)
  replace HBr := Lib.hid (HBr.out.below hb1)
  clear hb1
  -- markedTiers 1
  have clr := (HBr.out.at HLr.out)
  obtain ⟨lar, lcr, hlfr⟩ := clr.2.form
  have cmr := clr.1
  rw [hlfr] at cmr
  have HRr := Lib.hid clr.2
  rw [hlfr] at HRr
  clear clr hlfr
  go_wp2_with fail
  refine (marked_r (ns := fun i => (lsr i).length) HRr.out (fun i hi => HBr.out.list hi) (by have := HNr.out.1; omega) (fun i hi => ?_)).mono ?_
  · have := HNr.out.2 i hi; omega
  rintro e w1 ⟨rfl, hb1⟩
  replace HGi := Lib.hid (show _ ∧ _ from ⟨HGi.out.1.below hb1, fun i hi => (HGi.out.2 i hi).below hb1⟩)
  replace HGr := Lib.hid (show _ ∧ _ from ⟨HGr.out.1.below hb1, fun i hi => (HGr.out.2 i hi).below hb1⟩)
  replace HC := Lib.hid (⟨heap_step HC.out.1 hb1, HC.out.2⟩ : _ ∧ _)
  replace HX := Lib.hid (HX.out.trans (hb1.mono HZ.out))
  replace HZ := Lib.hid (Nat.le_trans HZ.out hb1.size)
  replace HBi := Lib.hid (HBi.out.below hb1)
  replace HBr := Lib.hid (HBr.out.below hb1)
  clear hb1
  -- markedErrnos 0
  go_wp2_with fail
  refine (markedErrnos_nil _).mono ?_
  rintro e w1 ⟨rfl, hb1⟩
  replace HGi := Lib.hid (show _ ∧ _ from ⟨HGi.out.1.below hb1, fun i hi => (HGi.out.2 i hi).below hb1⟩)
  replace HGr := Lib.hid (show _ ∧ _ from ⟨HGr.out.1.below hb1, fun i hi => (HGr.out.2 i hi).below hb1⟩)
  replace HC := Lib.hid (⟨heap_step HC.out.1 hb1, HC.out.2⟩ : _ ∧ _)
  replace HX := Lib.hid (HX.out.trans (hb1.mono HZ.out))
  replace HZ := Lib.hid (Nat.le_trans HZ.out hb1.size)
  replace HBi := Lib.hid (HBi.out.below hb1)
  replace HBr := Lib.hid (HBr.out.below hb1)
  clear hb1
  -- markedErrnos 1
  have ckErrnos := BKC.at HC.out.1 (HC.out.2 10 (by decide))
  go_wp2_with fail
  refine (markedErrnos_nil _).mono ?_
  rintro e w1 ⟨rfl, hb1⟩
  replace HGi := Lib.hid (show _ ∧ _ from ⟨HGi.out.1.below hb1, fun i hi => (HGi.out.2 i hi).below hb1⟩)
  replace HGr := Lib.hid (show _ ∧ _ from ⟨HGr.out.1.below hb1, fun i hi => (HGr.out.2 i hi).below hb1⟩)
  replace HC := Lib.hid (⟨heap_step HC.out.1 hb1, HC.out.2⟩ : _ ∧ _)
  replace HX := Lib.hid (HX.out.trans (hb1.mono HZ.out))
  replace HZ := Lib.hid (Nat.le_trans HZ.out hb1.size)
  replace HBi := Lib.hid (HBi.out.below hb1)
  replace HBr := Lib.hid (HBr.out.below hb1)
  clear hb1
  -- markedWords 0
  go_wp2_with fail
  refine (markedWords_nil _).mono ?_
  rintro e w1 ⟨rfl, hb1⟩
  replace HGi := Lib.hid (show _ ∧ _ from ⟨HGi.out.1.below hb1, fun i hi => (HGi.out.2 i hi).below hb1⟩)
  replace HGr := Lib.hid (show _ ∧ _ from ⟨HGr.out.1.below hb1, fun i hi => (HGr.out.2 i hi).below hb1⟩)
  replace HC := Lib.hid (⟨heap_step HC.out.1 hb1, HC.out.2⟩ : _ ∧ _)
  replace HX := Lib.hid (HX.out.trans (hb1.mono HZ.out))
  replace HZ := Lib.hid (Nat.le_trans HZ.out hb1.size)
  replace HBi := Lib.hid (HBi.out.below hb1)
  replace HBr := Lib.hid (HBr.out.below hb1)
  clear hb1
  -- markedWords 1
  have ckWords := BKC.at HC.out.1 (HC.out.2 12 (by decide))
  go_wp2_with fail
  refine (markedWords_nil _).mono ?_
  rintro e w1 ⟨rfl, hb1⟩
  replace HGi := Lib.hid (show _ ∧ _ from ⟨HGi.out.1.below hb1, fun i hi => (HGi.out.2 i hi).below hb1⟩)
  replace HGr := Lib.hid (show _ ∧ _ from ⟨HGr.out.1.below hb1, fun i hi => (HGr.out.2 i hi).below hb1⟩)
  replace HC := Lib.hid (⟨heap_step HC.out.1 hb1, HC.out.2⟩ : _ ∧ _)
  replace HX := Lib.hid (HX.out.trans (hb1.mono HZ.out))
  replace HZ := Lib.hid (Nat.le_trans HZ.out hb1.size)
  replace HBi := Lib.hid (HBi.out.below hb1)
  replace HBr := Lib.hid (HBr.out.below hb1)
  clear hb1
  -- markedSteps 0
  go_wp2_with fail
  refine (markedSteps_nil _).mono ?_
  rintro e w1 ⟨rfl, hb1⟩
  replace HGi := Lib.hid (show _ ∧ _ from ⟨HGi.out.1.below hb1, fun i hi => (HGi.out.2 i hi).below hb1⟩)
  replace HGr := Lib.hid (show _ ∧ _ from ⟨HGr.out.1.below hb1, fun i hi => (HGr.out.2 i hi).below hb1⟩)
  replace HC := Lib.hid (⟨heap_step HC.out.1 hb1, HC.out.2⟩ : _ ∧ _)
  replace HX := Lib.hid (HX.out.trans (hb1.mono HZ.out))
  replace HZ := Lib.hid (Nat.le_trans HZ.out hb1.size)
  replace HBi := Lib.hid (HBi.out.below hb1)
  replace HBr := Lib.hid (HBr.out.below hb1)
  clear hb1
  -- markedSteps 1
  have ckSteps := BKC.at HC.out.1 (HC.out.2 14 (by decide))
  go_wp2_with fail
  refine (markedSteps_nil _).mono ?_
  rintro e w1 ⟨rfl, hb1⟩
  replace HGi := Lib.hid (show _ ∧ _ from ⟨HGi.out.1.below hb1, fun i hi => (HGi.out.2 i hi).below hb1⟩)
  replace HGr := Lib.hid (show _ ∧ _ from ⟨HGr.out.1.below hb1, fun i hi => (HGr.out.2 i hi).below hb1⟩)
  replace HC := Lib.hid (⟨heap_step HC.out.1 hb1, HC.out.2⟩ : _ ∧ _)
  replace HX := Lib.hid (HX.out.trans (hb1.mono HZ.out))
  replace HZ := Lib.hid (Nat.le_trans HZ.out hb1.size)
  replace HBi := Lib.hid (HBi.out.below hb1)
  replace HBr := Lib.hid (HBr.out.below hb1)
  clear hb1
  go_wp2
  go_ret
  exact ⟨rfl, HX.out⟩
end Go.Proofs.Ytaenpcglaenlaaa
