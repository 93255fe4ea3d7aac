/-
  The contract of a book's Apart, where lists of these kinds alone were kept: Texts.
-/
import Derived.Test.YtjcggkfinhkcoaaGreatBookTAdd
import Derived.Test.YtjcggkfinhkcoaaGreatBookNil
namespace Go.Proofs.YtjcggkfinhkcoaaGreat
open Go.RowKit
set_option linter.unusedVariables false
set_option linter.unusedSimpArgs false

theorem BKC.at {w : World} {p k : Nat} {cs : Array Value} {T : TypeId} {fr : Nat × Nat} {v : Value} (h : w.heap[p]? = some (.cells cs T fr)) (hc : cs[k]? = some v) : w.cell? ⟨p, k, none⟩ = some v := by rw [cell_of_row w p _ _ _ _ h]; exact hc
set_option maxRecDepth 100000 in
set_option maxHeartbeats 16000000 in
theorem apart_any {w : World} {B p : Nat} {cs : Array Value} {nt : Nat} {vst ust : Nat → Value} {lst : Nat → List ByteArray} (ht : BB_t w B p cs nt vst ust lst) (hc : ∀ k, (k < 16 ∧ k ≠ 0 ∧ k ≠ 1) → cs[k]? = some (.slice none 0 0)) (hB : B ≤ p) :
    Calls Tryz.prog 20 #[.pointer (some ⟨p, 0, none⟩)] w (fun x w' => x = .returned (.bool true) ∧ Below B w w') := by
  have HC := Lib.hid (show w.heap[p]? = some (.cells cs 43) ∧ ∀ k, (k < 16 ∧ k ≠ 0 ∧ k ≠ 1) → cs[k]? = some (.slice none 0 0) from ⟨ht.bk.blk, hc⟩)
  have HX := Lib.hid (Below.refl B w)
  have HZ := Lib.hid ht.bk.base
  have HBt := Lib.hid ht.bk
  obtain ⟨uvt, hut, hurt, hust, -⟩ := ht.was
  have HWt := Lib.hid (show cs[1]? = some uvt ∧ OwnL w B 32 1 uvt nt ((List.range nt).map ust) ∧ ∀ i, i < nt → OwnL w B 9 1 (ust i) (lst i).length ((lst i).map Value.string) from ⟨hut, hurt, hust⟩)
  obtain ⟨lvt, hlvt, -⟩ := ht.bk.row
  have HLt := Lib.hid hlvt
  have HNt := Lib.hid (And.intro ht.bk.few ht.bk.short)
  clear hc hB ht hut hurt hust hlvt
  go_enter Tryz.func20, Tryz.ntmps20
  -- stillTexts
  go_wp2_with fail
  refine (still_t HBt.out HWt.out.1 HWt.out.2.1 (fun i hi => texts_of_ownL (HWt.out.2.2 i hi) (HBt.out.ok i hi))).mono ?_
  rintro e w1 ⟨rfl, hb1⟩
  replace HWt := Lib.hid (show _ ∧ _ ∧ _ from ⟨HWt.out.1, HWt.out.2.1.below hb1, fun i hi => (HWt.out.2.2 i hi).below hb1⟩)
  replace HC := Lib.hid (⟨heap_step HC.out.1 hb1, HC.out.2⟩ : _ ∧ _)
  replace HX := Lib.hid (HX.out.trans (hb1.mono HZ.out))
  replace HZ := Lib.hid (Nat.le_trans HZ.out hb1.size)
  replace HBt := Lib.hid (HBt.out.below hb1)
  clear hb1
  -- stillInts
  go_wp2_with fail
  refine (stillInts_nil p _ (BKC.at HC.out.1 (HC.out.2 2 (by decide)))).mono ?_
  rintro e w1 ⟨rfl, hb1⟩
  replace HWt := Lib.hid (show _ ∧ _ ∧ _ from ⟨HWt.out.1, HWt.out.2.1.below hb1, fun i hi => (HWt.out.2.2 i hi).below hb1⟩)
  replace HC := Lib.hid (⟨heap_step HC.out.1 hb1, HC.out.2⟩ : _ ∧ _)
  replace HX := Lib.hid (HX.out.trans (hb1.mono HZ.out))
  replace HZ := Lib.hid (Nat.le_trans HZ.out hb1.size)
  replace HBt := Lib.hid (HBt.out.below hb1)
  clear hb1
  -- stillRecords
  go_wp2_with fail
  refine (stillRecords_nil p _ (BKC.at HC.out.1 (HC.out.2 4 (by decide)))).mono ?_
  rintro e w1 ⟨rfl, hb1⟩
  replace HWt := Lib.hid (show _ ∧ _ ∧ _ from ⟨HWt.out.1, HWt.out.2.1.below hb1, fun i hi => (HWt.out.2.2 i hi).below hb1⟩)
  replace HC := Lib.hid (⟨heap_step HC.out.1 hb1, HC.out.2⟩ : _ ∧ _)
  replace HX := Lib.hid (HX.out.trans (hb1.mono HZ.out))
  replace HZ := Lib.hid (Nat.le_trans HZ.out hb1.size)
  replace HBt := Lib.hid (HBt.out.below hb1)
  clear hb1
  -- stillSamples
  go_wp2_with fail
  refine (stillSamples_nil p _ (BKC.at HC.out.1 (HC.out.2 6 (by decide)))).mono ?_
  rintro e w1 ⟨rfl, hb1⟩
  replace HWt := Lib.hid (show _ ∧ _ ∧ _ from ⟨HWt.out.1, HWt.out.2.1.below hb1, fun i hi => (HWt.out.2.2 i hi).below hb1⟩)
  replace HC := Lib.hid (⟨heap_step HC.out.1 hb1, HC.out.2⟩ : _ ∧ _)
  replace HX := Lib.hid (HX.out.trans (hb1.mono HZ.out))
  replace HZ := Lib.hid (Nat.le_trans HZ.out hb1.size)
  replace HBt := Lib.hid (HBt.out.below hb1)
  clear hb1
  -- stillTiers
  go_wp2_with fail
  refine (stillTiers_nil p _ (BKC.at HC.out.1 (HC.out.2 8 (by decide)))).mono ?_
  rintro e w1 ⟨rfl, hb1⟩
  replace HWt := Lib.hid (show _ ∧ _ ∧ _ from ⟨HWt.out.1, HWt.out.2.1.below hb1, fun i hi => (HWt.out.2.2 i hi).below hb1⟩)
  replace HC := Lib.hid (⟨heap_step HC.out.1 hb1, HC.out.2⟩ : _ ∧ _)
  replace HX := Lib.hid (HX.out.trans (hb1.mono HZ.out))
  replace HZ := Lib.hid (Nat.le_trans HZ.out hb1.size)
  replace HBt := Lib.hid (HBt.out.below hb1)
  clear hb1
  -- stillErrnos
  go_wp2_with fail
  refine (stillErrnos_nil p _ (BKC.at HC.out.1 (HC.out.2 10 (by decide)))).mono ?_
  rintro e w1 ⟨rfl, hb1⟩
  replace HWt := Lib.hid (show _ ∧ _ ∧ _ from ⟨HWt.out.1, HWt.out.2.1.below hb1, fun i hi => (HWt.out.2.2 i hi).below hb1⟩)
  replace HC := Lib.hid (⟨heap_step HC.out.1 hb1, HC.out.2⟩ : _ ∧ _)
  replace HX := Lib.hid (HX.out.trans (hb1.mono HZ.out))
  replace HZ := Lib.hid (Nat.le_trans HZ.out hb1.size)
  replace HBt := Lib.hid (HBt.out.below hb1)
  clear hb1
  -- stillWords
  go_wp2_with fail
  refine (stillWords_nil p _ (BKC.at HC.out.1 (HC.out.2 12 (by decide)))).mono ?_
  rintro e w1 ⟨rfl, hb1⟩
  replace HWt := Lib.hid (show _ ∧ _ ∧ _ from ⟨HWt.out.1, HWt.out.2.1.below hb1, fun i hi => (HWt.out.2.2 i hi).below hb1⟩)
  replace HC := Lib.hid (⟨heap_step HC.out.1 hb1, HC.out.2⟩ : _ ∧ _)
  replace HX := Lib.hid (HX.out.trans (hb1.mono HZ.out))
  replace HZ := Lib.hid (Nat.le_trans HZ.out hb1.size)
  replace HBt := Lib.hid (HBt.out.below hb1)
  clear hb1
  -- stillSteps
  go_wp2_with fail
  refine (stillSteps_nil p _ (BKC.at HC.out.1 (HC.out.2 14 (by decide)))).mono ?_
  rintro e w1 ⟨rfl, hb1⟩
  replace HWt := Lib.hid (show _ ∧ _ ∧ _ from ⟨HWt.out.1, HWt.out.2.1.below hb1, fun i hi => (HWt.out.2.2 i hi).below hb1⟩)
  replace HC := Lib.hid (⟨heap_step HC.out.1 hb1, HC.out.2⟩ : _ ∧ _)
  replace HX := Lib.hid (HX.out.trans (hb1.mono HZ.out))
  replace HZ := Lib.hid (Nat.le_trans HZ.out hb1.size)
  replace HBt := Lib.hid (HBt.out.below hb1)
  clear hb1
  clear HWt
  -- putSteps
  go_wp2_with fail
  refine (putSteps_nil p _ (BKC.at HC.out.1 (HC.out.2 14 (by decide)))).mono ?_
  rintro e w1 ⟨rfl, hb1⟩
  replace HC := Lib.hid (⟨heap_step HC.out.1 hb1, HC.out.2⟩ : _ ∧ _)
  replace HX := Lib.hid (HX.out.trans (hb1.mono HZ.out))
  replace HZ := Lib.hid (Nat.le_trans HZ.out hb1.size)
  replace HBt := Lib.hid (HBt.out.below hb1)
  clear hb1
  -- putTexts
  go_wp2_with fail
  refine (put_t HBt.out).mono ?_
  rintro e w1 ⟨rfl, hbk, hb1, ht⟩
  replace HC := Lib.hid (⟨hbk.blk, HC.out.2⟩ : _ ∧ _)
  replace HX := Lib.hid (HX.out.trans hb1)
  replace HZ := Lib.hid hbk.base
  replace HBt := Lib.hid hbk
  clear hb1 hbk ht
  -- putInts
  go_wp2_with fail
  refine (putInts_nil p _ (BKC.at HC.out.1 (HC.out.2 2 (by decide)))).mono ?_
  rintro e w1 ⟨rfl, hb1⟩
  replace HC := Lib.hid (⟨heap_step HC.out.1 hb1, HC.out.2⟩ : _ ∧ _)
  replace HX := Lib.hid (HX.out.trans (hb1.mono HZ.out))
  replace HZ := Lib.hid (Nat.le_trans HZ.out hb1.size)
  replace HBt := Lib.hid (HBt.out.below hb1)
  clear hb1
  -- putRecords
  go_wp2_with fail
  refine (putRecords_nil p _ (BKC.at HC.out.1 (HC.out.2 4 (by decide)))).mono ?_
  rintro e w1 ⟨rfl, hb1⟩
  replace HC := Lib.hid (⟨heap_step HC.out.1 hb1, HC.out.2⟩ : _ ∧ _)
  replace HX := Lib.hid (HX.out.trans (hb1.mono HZ.out))
  replace HZ := Lib.hid (Nat.le_trans HZ.out hb1.size)
  replace HBt := Lib.hid (HBt.out.below hb1)
  clear hb1
  -- putSamples
  go_wp2_with fail
  refine (putSamples_nil p _ (BKC.at HC.out.1 (HC.out.2 6 (by decide)))).mono ?_
  rintro e w1 ⟨rfl, hb1⟩
  replace HC := Lib.hid (⟨heap_step HC.out.1 hb1, HC.out.2⟩ : _ ∧ _)
  replace HX := Lib.hid (HX.out.trans (hb1.mono HZ.out))
  replace HZ := Lib.hid (Nat.le_trans HZ.out hb1.size)
  replace HBt := Lib.hid (HBt.out.below hb1)
  clear hb1
  -- putTiers
  go_wp2_with fail
  refine (putTiers_nil p _ (BKC.at HC.out.1 (HC.out.2 8 (by decide)))).mono ?_
  rintro e w1 ⟨rfl, hb1⟩
  replace HC := Lib.hid (⟨heap_step HC.out.1 hb1, HC.out.2⟩ : _ ∧ _)
  replace HX := Lib.hid (HX.out.trans (hb1.mono HZ.out))
  replace HZ := Lib.hid (Nat.le_trans HZ.out hb1.size)
  replace HBt := Lib.hid (HBt.out.below hb1)
  clear hb1
  -- putErrnos
  go_wp2_with fail
  refine (putErrnos_nil p _ (BKC.at HC.out.1 (HC.out.2 10 (by decide)))).mono ?_
  rintro e w1 ⟨rfl, hb1⟩
  replace HC := Lib.hid (⟨heap_step HC.out.1 hb1, HC.out.2⟩ : _ ∧ _)
  replace HX := Lib.hid (HX.out.trans (hb1.mono HZ.out))
  replace HZ := Lib.hid (Nat.le_trans HZ.out hb1.size)
  replace HBt := Lib.hid (HBt.out.below hb1)
  clear hb1
  -- putWords
  go_wp2_with fail
  refine (putWords_nil p _ (BKC.at HC.out.1 (HC.out.2 12 (by decide)))).mono ?_
  rintro e w1 ⟨rfl, hb1⟩
  replace HC := Lib.hid (⟨heap_step HC.out.1 hb1, HC.out.2⟩ : _ ∧ _)
  replace HX := Lib.hid (HX.out.trans (hb1.mono HZ.out))
  replace HZ := Lib.hid (Nat.le_trans HZ.out hb1.size)
  replace HBt := Lib.hid (HBt.out.below hb1)
  clear hb1
  -- growTexts
  go_wp2_with fail
  refine (grow_t HBt.out (fun i hi => by rw [marksT_len])).mono ?_
  rintro e w1 ⟨gvt, gst, rfl, hgr, hgs, hbk, hb1, ht⟩
  replace HC := Lib.hid (⟨hbk.blk, HC.out.2⟩ : _ ∧ _)
  replace HX := Lib.hid (HX.out.trans hb1)
  have HGt := Lib.hid (And.intro (hgr.mono HZ.out) hgs)
  obtain ⟨gat, gct, rfl⟩ := hgr.form
  replace HZ := Lib.hid hbk.base
  replace HBt := Lib.hid hbk
  clear hb1 hbk ht hgr hgs
  -- growInts
  go_wp2_with fail
  refine (growInts_nil p _ (BKC.at HC.out.1 (HC.out.2 2 (by decide)))).mono ?_
  rintro e w1 ⟨rfl, hb1⟩
  replace HGt := Lib.hid (show _ ∧ _ from ⟨HGt.out.1.below hb1, fun i hi => (HGt.out.2 i hi).below hb1⟩)
  replace HC := Lib.hid (⟨heap_step HC.out.1 hb1, HC.out.2⟩ : _ ∧ _)
  replace HX := Lib.hid (HX.out.trans (hb1.mono HZ.out))
  replace HZ := Lib.hid (Nat.le_trans HZ.out hb1.size)
  replace HBt := Lib.hid (HBt.out.below hb1)
  clear hb1
  -- growRecords
  go_wp2_with fail
  refine (growRecords_nil p _ (BKC.at HC.out.1 (HC.out.2 4 (by decide)))).mono ?_
  rintro e w1 ⟨rfl, hb1⟩
  replace HGt := Lib.hid (show _ ∧ _ from ⟨HGt.out.1.below hb1, fun i hi => (HGt.out.2 i hi).below hb1⟩)
  replace HC := Lib.hid (⟨heap_step HC.out.1 hb1, HC.out.2⟩ : _ ∧ _)
  replace HX := Lib.hid (HX.out.trans (hb1.mono HZ.out))
  replace HZ := Lib.hid (Nat.le_trans HZ.out hb1.size)
  replace HBt := Lib.hid (HBt.out.below hb1)
  clear hb1
  -- growSamples
  go_wp2_with fail
  refine (growSamples_nil p _ (BKC.at HC.out.1 (HC.out.2 6 (by decide)))).mono ?_
  rintro e w1 ⟨rfl, hb1⟩
  replace HGt := Lib.hid (show _ ∧ _ from ⟨HGt.out.1.below hb1, fun i hi => (HGt.out.2 i hi).below hb1⟩)
  replace HC := Lib.hid (⟨heap_step HC.out.1 hb1, HC.out.2⟩ : _ ∧ _)
  replace HX := Lib.hid (HX.out.trans (hb1.mono HZ.out))
  replace HZ := Lib.hid (Nat.le_trans HZ.out hb1.size)
  replace HBt := Lib.hid (HBt.out.below hb1)
  clear hb1
  -- growTiers
  go_wp2_with fail
  refine (growTiers_nil p _ (BKC.at HC.out.1 (HC.out.2 8 (by decide)))).mono ?_
  rintro e w1 ⟨rfl, hb1⟩
  replace HGt := Lib.hid (show _ ∧ _ from ⟨HGt.out.1.below hb1, fun i hi => (HGt.out.2 i hi).below hb1⟩)
  replace HC := Lib.hid (⟨heap_step HC.out.1 hb1, HC.out.2⟩ : _ ∧ _)
  replace HX := Lib.hid (HX.out.trans (hb1.mono HZ.out))
  replace HZ := Lib.hid (Nat.le_trans HZ.out hb1.size)
  replace HBt := Lib.hid (HBt.out.below hb1)
  clear hb1
  -- growErrnos
  go_wp2_with fail
  refine (growErrnos_nil p _ (BKC.at HC.out.1 (HC.out.2 10 (by decide)))).mono ?_
  rintro e w1 ⟨rfl, hb1⟩
  replace HGt := Lib.hid (show _ ∧ _ from ⟨HGt.out.1.below hb1, fun i hi => (HGt.out.2 i hi).below hb1⟩)
  replace HC := Lib.hid (⟨heap_step HC.out.1 hb1, HC.out.2⟩ : _ ∧ _)
  replace HX := Lib.hid (HX.out.trans (hb1.mono HZ.out))
  replace HZ := Lib.hid (Nat.le_trans HZ.out hb1.size)
  replace HBt := Lib.hid (HBt.out.below hb1)
  clear hb1
  -- growWords
  go_wp2_with fail
  refine (growWords_nil p _ (BKC.at HC.out.1 (HC.out.2 12 (by decide)))).mono ?_
  rintro e w1 ⟨rfl, hb1⟩
  replace HGt := Lib.hid (show _ ∧ _ from ⟨HGt.out.1.below hb1, fun i hi => (HGt.out.2 i hi).below hb1⟩)
  replace HC := Lib.hid (⟨heap_step HC.out.1 hb1, HC.out.2⟩ : _ ∧ _)
  replace HX := Lib.hid (HX.out.trans (hb1.mono HZ.out))
  replace HZ := Lib.hid (Nat.le_trans HZ.out hb1.size)
  replace HBt := Lib.hid (HBt.out.below hb1)
  clear hb1
  -- growSteps
  go_wp2_with fail
  refine (growSteps_nil p _ (BKC.at HC.out.1 (HC.out.2 14 (by decide)))).mono ?_
  rintro e w1 ⟨rfl, hb1⟩
  replace HGt := Lib.hid (show _ ∧ _ from ⟨HGt.out.1.below hb1, fun i hi => (HGt.out.2 i hi).below hb1⟩)
  replace HC := Lib.hid (⟨heap_step HC.out.1 hb1, HC.out.2⟩ : _ ∧ _)
  replace HX := Lib.hid (HX.out.trans (hb1.mono HZ.out))
  replace HZ := Lib.hid (Nat.le_trans HZ.out hb1.size)
  replace HBt := Lib.hid (HBt.out.below hb1)
  clear hb1
  -- markedTexts 0
  go_wp2_with fail
  refine (marked_t (ns := fun i => (marksT i 0 (lst i).length).length + 72) HGt.out.1 (fun i hi => marked_at_t (HGt.out.2 i hi) (by have := HNt.out.1; omega) (by have := HNt.out.2 i hi; rw [marksT_len]; omega)) (by have := HNt.out.1; omega) (fun i hi => ?_)).mono ?_
  · have := HNt.out.2 i hi; rw [marksT_len]; omega
  rintro e w1 ⟨rfl, hb1⟩
  replace HGt := Lib.hid (show _ ∧ _ from ⟨HGt.out.1.below hb1, fun i hi => (HGt.out.2 i hi).below hb1⟩)
  replace HC := Lib.hid (⟨heap_step HC.out.1 hb1, HC.out.2⟩ : _ ∧ _)
  replace HX := Lib.hid (HX.out.trans (hb1.mono HZ.out))
  replace HZ := Lib.hid (Nat.le_trans HZ.out hb1.size)
  replace HBt := Lib.hid (HBt.out.below hb1)
  clear hb1
  -- markedTexts 1
  have clt := (HBt.out.at HLt.out)
  obtain ⟨lat, lct, hlft⟩ := clt.2.form
  have cmt := clt.1
  rw [hlft] at cmt
  have HRt := Lib.hid clt.2
  rw [hlft] at HRt
  clear clt hlft
  go_wp2_with fail
  refine (marked_t (ns := fun i => (lst i).length) HRt.out (fun i hi => HBt.out.list hi) (by have := HNt.out.1; omega) (fun i hi => ?_)).mono ?_
  · have := HNt.out.2 i hi; omega
  rintro e w1 ⟨rfl, hb1⟩
  replace HGt := Lib.hid (show _ ∧ _ from ⟨HGt.out.1.below hb1, fun i hi => (HGt.out.2 i hi).below hb1⟩)
  replace HC := Lib.hid (⟨heap_step HC.out.1 hb1, HC.out.2⟩ : _ ∧ _)
  replace HX := Lib.hid (HX.out.trans (hb1.mono HZ.out))
  replace HZ := Lib.hid (Nat.le_trans HZ.out hb1.size)
  replace HBt := Lib.hid (HBt.out.below hb1)
  clear hb1
  -- markedInts 0
  go_wp2_with fail
  refine (markedInts_nil _).mono ?_
  rintro e w1 ⟨rfl, hb1⟩
  replace HGt := Lib.hid (show _ ∧ _ from ⟨HGt.out.1.below hb1, fun i hi => (HGt.out.2 i hi).below hb1⟩)
  replace HC := Lib.hid (⟨heap_step HC.out.1 hb1, HC.out.2⟩ : _ ∧ _)
  replace HX := Lib.hid (HX.out.trans (hb1.mono HZ.out))
  replace HZ := Lib.hid (Nat.le_trans HZ.out hb1.size)
  replace HBt := Lib.hid (HBt.out.below hb1)
  clear hb1
  -- markedInts 1
  have ckInts := BKC.at HC.out.1 (HC.out.2 2 (by decide))
  go_wp2_with fail
  refine (markedInts_nil _).mono ?_
  rintro e w1 ⟨rfl, hb1⟩
  replace HGt := Lib.hid (show _ ∧ _ from ⟨HGt.out.1.below hb1, fun i hi => (HGt.out.2 i hi).below hb1⟩)
  replace HC := Lib.hid (⟨heap_step HC.out.1 hb1, HC.out.2⟩ : _ ∧ _)
  replace HX := Lib.hid (HX.out.trans (hb1.mono HZ.out))
  replace HZ := Lib.hid (Nat.le_trans HZ.out hb1.size)
  replace HBt := Lib.hid (HBt.out.below hb1)
  clear hb1
  -- markedRecords 0
  go_wp2_with fail
  refine (markedRecords_nil _).mono ?_
  rintro e w1 ⟨rfl, hb1⟩
  replace HGt := Lib.hid (show _ ∧ _ from ⟨HGt.out.1.below hb1, fun i hi => (HGt.out.2 i hi).below hb1⟩)
  replace HC := Lib.hid (⟨heap_step HC.out.1 hb1, HC.out.2⟩ : _ ∧ _)
  replace HX := Lib.hid (HX.out.trans (hb1.mono HZ.out))
  replace HZ := Lib.hid (Nat.le_trans HZ.out hb1.size)
  replace HBt := Lib.hid (HBt.out.below hb1)
  clear hb1
  -- markedRecords 1
  have ckRecords := BKC.at HC.out.1 (HC.out.2 4 (by decide))
  go_wp2_with fail
  refine (markedRecords_nil _).mono ?_
  rintro e w1 ⟨rfl, hb1⟩
  replace HGt := Lib.hid (show _ ∧ _ from ⟨HGt.out.1.below hb1, fun i hi => (HGt.out.2 i hi).below hb1⟩)
  replace HC := Lib.hid (⟨heap_step HC.out.1 hb1, HC.out.2⟩ : _ ∧ _)
  replace HX := Lib.hid (HX.out.trans (hb1.mono HZ.out))
  replace HZ := Lib.hid (Nat.le_trans HZ.out hb1.size)
  replace HBt := Lib.hid (HBt.out.below hb1)
  clear hb1
  -- markedSamples 0
  go_wp2_with fail
  refine (markedSamples_nil _).mono ?_
  rintro e w1 ⟨rfl, hb1⟩
  replace HGt := Lib.hid (show _ ∧ _ from ⟨HGt.out.1.below hb1, fun i hi => (HGt.out.2 i hi).below hb1⟩)
  replace HC := Lib.hid (⟨heap_step HC.out.1 hb1, HC.out.2⟩ : _ ∧ _)
  replace HX := Lib.hid (HX.out.trans (hb1.mono HZ.out))
  replace HZ := Lib.hid (Nat.le_trans HZ.out hb1.size)
  replace HBt := Lib.hid (HBt.out.below hb1)
  clear hb1
  -- markedSamples 1
  have ckSamples := BKC.at HC.out.1 (HC.out.2 6 (by decide))
  go_wp2_with fail
  refine (markedSamples_nil _).mono ?_
  rintro e w1 ⟨rfl, hb1⟩
  replace HGt := Lib.hid (show _ ∧ _ from ⟨HGt.out.1.below hb1, fun i hi => (HGt.out.2 i hi).below hb1⟩)
  replace HC := Lib.hid (⟨heap_step HC.out.1 hb1, HC.out.2⟩ : _ ∧ _)
  replace HX := Lib.hid (HX.out.trans (hb1.mono HZ.out))
  replace HZ := Lib.hid (Nat.le_trans HZ.out hb1.size)
  replace HBt := Lib.hid (HBt.out.below hb1)
  clear hb1
  -- markedTiers 0
  go_wp2_with fail
  refine (markedTiers_nil _).mono ?_
  rintro e w1 ⟨rfl, hb1⟩
  replace HGt := Lib.hid (show _ ∧ _ from ⟨HGt.out.1.below hb1, fun i hi => (HGt.out.2 i hi).below hb1⟩)
  replace HC := Lib.hid (⟨heap_step HC.out.1 hb1, HC.out.2⟩ : _ ∧ _)
  replace HX := Lib.hid (HX.out.trans (hb1.mono HZ.out))
  replace HZ := Lib.hid (Nat.le_trans HZ.out hb1.size)
  replace HBt := Lib.hid (HBt.out.below hb1)
  clear hb1
  -- markedTiers 1
  have ckTiers := BKC.at HC.out.1 (HC.out.2 8 (by decide))
  go_wp2_with fail
  refine (markedTiers_nil _).mono ?_
  rintro e w1 ⟨rfl, hb1⟩
  replace HGt := Lib.hid (show _ ∧ _ from ⟨HGt.out.1.below hb1, fun i hi => (HGt.out.2 i hi).below hb1⟩)
  replace HC := Lib.hid (⟨heap_step HC.out.1 hb1, HC.out.2⟩ : _ ∧ _)
  replace HX := Lib.hid (HX.out.trans (hb1.mono HZ.out))
  replace HZ := Lib.hid (Nat.le_trans HZ.out hb1.size)
  replace HBt := Lib.hid (HBt.out.below hb1)
  clear hb1
  -- markedErrnos 0
  go_wp2_with fail
  refine (markedErrnos_nil _).mono ?_
  rintro e w1 ⟨rfl, hb1⟩
  replace HGt := Lib.hid (show _ ∧ _ from ⟨HGt.out.1.below hb1, fun i hi => (HGt.out.2 i hi).below hb1⟩)
  replace HC := Lib.hid (⟨heap_step HC.out.1 hb1, HC.out.2⟩ : _ ∧ _)
  replace HX := Lib.hid (HX.out.trans (hb1.mono HZ.out))
  replace HZ := Lib.hid (Nat.le_trans HZ.out hb1.size)
  replace HBt := Lib.hid (HBt.out.below hb1)
  clear hb1
  -- markedErrnos 1
  have ckErrnos := BKC.at HC.out.1 (HC.out.2 10 (by decide))
  go_wp2_with fail
  refine (markedErrnos_nil _).mono ?_
  rintro e w1 ⟨rfl, hb1⟩
  replace HGt := Lib.hid (show _ ∧ _ from ⟨HGt.out.1.below hb1, fun i hi => (HGt.out.2 i hi).below hb1⟩)
  replace HC := Lib.hid (⟨heap_step HC.out.1 hb1, HC.out.2⟩ : _ ∧ _)
  replace HX := Lib.hid (HX.out.trans (hb1.mono HZ.out))
  replace HZ := Lib.hid (Nat.le_trans HZ.out hb1.size)
  replace HBt := Lib.hid (HBt.out.below hb1)
  clear hb1
  -- markedWords 0
  go_wp2_with fail
  refine (markedWords_nil _).mono ?_
  rintro e w1 ⟨rfl, hb1⟩
  replace HGt := Lib.hid (show _ ∧ _ from ⟨HGt.out.1.below hb1, fun i hi => (HGt.out.2 i hi).below hb1⟩)
  replace HC := Lib.hid (⟨heap_step HC.out.1 hb1, HC.out.2⟩ : _ ∧ _)
  replace HX := Lib.hid (HX.out.trans (hb1.mono HZ.out))
  replace HZ := Lib.hid (Nat.le_trans HZ.out hb1.size)
  replace HBt := Lib.hid (HBt.out.below hb1)
  clear hb1
  -- markedWords 1
  have ckWords := BKC.at HC.out.1 (HC.out.2 12 (by decide))
  go_wp2_with fail
  refine (markedWords_nil _).mono ?_
  rintro e w1 ⟨rfl, hb1⟩
  replace HGt := Lib.hid (show _ ∧ _ from ⟨HGt.out.1.below hb1, fun i hi => (HGt.out.2 i hi).below hb1⟩)
  replace HC := Lib.hid (⟨heap_step HC.out.1 hb1, HC.out.2⟩ : _ ∧ _)
  replace HX := Lib.hid (HX.out.trans (hb1.mono HZ.out))
  replace HZ := Lib.hid (Nat.le_trans HZ.out hb1.size)
  replace HBt := Lib.hid (HBt.out.below hb1)
  clear hb1
  -- markedSteps 0
  go_wp2_with fail
  refine (markedSteps_nil _).mono ?_
  rintro e w1 ⟨rfl, hb1⟩
  replace HGt := Lib.hid (show _ ∧ _ from ⟨HGt.out.1.below hb1, fun i hi => (HGt.out.2 i hi).below hb1⟩)
  replace HC := Lib.hid (⟨heap_step HC.out.1 hb1, HC.out.2⟩ : _ ∧ _)
  replace HX := Lib.hid (HX.out.trans (hb1.mono HZ.out))
  replace HZ := Lib.hid (Nat.le_trans HZ.out hb1.size)
  replace HBt := Lib.hid (HBt.out.below hb1)
  clear hb1
  -- markedSteps 1
  have ckSteps := BKC.at HC.out.1 (HC.out.2 14 (by decide))
  go_wp2_with fail
  refine (markedSteps_nil _).mono ?_
  rintro e w1 ⟨rfl, hb1⟩
  replace HGt := Lib.hid (show _ ∧ _ from ⟨HGt.out.1.below hb1, fun i hi => (HGt.out.2 i hi).below hb1⟩)
  replace HC := Lib.hid (⟨heap_step HC.out.1 hb1, HC.out.2⟩ : _ ∧ _)
  replace HX := Lib.hid (HX.out.trans (hb1.mono HZ.out))
  replace HZ := Lib.hid (Nat.le_trans HZ.out hb1.size)
  replace HBt := Lib.hid (HBt.out.below hb1)
  clear hb1
  go_wp2
  go_ret
  exact ⟨rfl, HX.out⟩
end Go.Proofs.YtjcggkfinhkcoaaGreat
