/-
  The contract of super.Get.
-/
import Derived.Test.YtabkeggcaacldaaSuper2
import Derived.Test.YtabkeggcaacldaaUnpack
namespace Go.Proofs.Ytabkeggcaacldaa
open Go.RowKit
set_option linter.unusedVariables false
set_option linter.unusedSimpArgs false

def rd8 (l : List UInt8) (k : Nat) : Int := leVal ((l.drop k).take 8)
theorem rd8_bd (l : List UInt8) (k : Nat) : 0 ≤ rd8 l k ∧ rd8 l k ≤ 18446744073709551615 := by
  have h := leVal_bd ((l.drop k).take 8)
  have h2 := pow256 ((l.drop k).take 8).length (List.length_take_le _ _)
  unfold rd8; omega
theorem i64of_bd (x : Int) (h0 : 0 ≤ x) (h1 : x ≤ 18446744073709551615) : -9223372036854775808 ≤ i64of x ∧ i64of x ≤ 9223372036854775807 := by unfold i64of; split <;> omega
def svOf (l : List UInt8) : SV := ⟨rd8 l 0, i64of (rd8 l 8), i64of (rd8 l 16)⟩
theorem svOf_ok (l : List UInt8) : (svOf l).ok := by
  unfold svOf SV.ok I64
  have h0 := rd8_bd l 0; have h1 := rd8_bd l 8; have h2 := rd8_bd l 16
  exact ⟨h0, i64of_bd _ h1.1 h1.2, i64of_bd _ h2.1 h2.2⟩
/-- Where Get stands. -/
structure GS (w0 : World) (u : Nat) (l : List UInt8) (s : ByteArray) (k : Nat) (w : World) : Prop where
  un : UnpAt w u 0 s
  li : s.data.toList = l.drop k
  sz : s.size + k = l.length
  b : w.heap[w0.heap.size]? = some (.cells #[.int .u64 SV.zero.gen, .int .i64 SV.zero.blocks, .int .i64 SV.zero.bytes] 24)
  bel : Below w0.heap.size w0 w
  lt : w0.heap.size < u
theorem GS.step {w0 w w' : World} {u k : Nat} {l : List UInt8} {s : ByteArray} (h : GS w0 u l s k w) (ho : Only u w w') (hU : UnpAt w' u 0 (s.extract 8 s.size)) (h8 : 8 ≤ s.size := by omega) : GS w0 u l (s.extract 8 s.size) (k + 8) w' := by
  have hlt := heap_lt (show w.heap[u]? = _ from h.un)
  have hb := ho.below (Nat.le_of_lt hlt)
  have hd : (s.extract 8 s.size).data.toList = l.drop (k + 8) := by
    rw [extract_list, ← List.drop_drop, ← h.li]
    rw [List.take_of_length_le (by simp)]
  refine ⟨hU, hd, ?_, below_at hb h.lt h.b, h.bel.trans (hb.mono (Nat.le_of_lt h.lt)), h.lt⟩
  have := h.sz
  simp; omega
def G (w0 : World) (u : Nat) (l : List UInt8) (k : Nat) (w : World) : Prop := ∃ s, GS w0 u l s k w
theorem int_at {w0 w : World} {u k : Nat} {l : List UInt8} (h : G w0 u l k w) (hk : k + 8 ≤ l.length) (hl : l.length ≤ 1000000) :
    Calls Try.prog 38 #[.pointer (some ⟨u, 0, none⟩)] w (fun e' w' => e' = .returned (.int .i64 (i64of (rd8 l k))) ∧ G w0 u l (k + 8) w') := by
  obtain ⟨s, h⟩ := h
  have hz := h.sz
  refine (int_some u s w h.un (by omega) (by omega)).mono ?_
  rintro e w1 ⟨rfl, hU, ho⟩
  exact ⟨by rw [h.li]; rfl, _, h.step ho hU (by omega)⟩
theorem word_at {w0 w : World} {u k : Nat} {l : List UInt8} (h : G w0 u l k w) (hk : k + 8 ≤ l.length) (hl : l.length ≤ 1000000) :
    Calls Try.prog 37 #[.pointer (some ⟨u, 0, none⟩)] w (fun e' w' => e' = .returned (.int .u64 (rd8 l k)) ∧ G w0 u l (k + 8) w') := by
  obtain ⟨s, h⟩ := h
  have hz := h.sz
  refine (word_some u s w h.un (by omega) (by omega)).mono ?_
  rintro e w1 ⟨rfl, hU, ho⟩
  exact ⟨by rw [h.li]; rfl, _, h.step ho hU (by omega)⟩
theorem G.b {w0 w : World} {u k : Nat} {l : List UInt8} (h : G w0 u l k w) : w.heap[w0.heap.size]? = some (.cells #[.int .u64 SV.zero.gen, .int .i64 SV.zero.blocks, .int .i64 SV.zero.bytes] 24) := by obtain ⟨s, h⟩ := h; exact h.b
theorem G.bel {w0 w : World} {u k : Nat} {l : List UInt8} (h : G w0 u l k w) : Below w0.heap.size w0 w := by obtain ⟨s, h⟩ := h; exact h.bel

/-- The superblock that a block's bytes make, and whether they are one. -/
def bodyOf (b : ByteArray) : ByteArray := (b.extract 0 252).extract 8 (b.extract 0 252).size
def getS (b : ByteArray) : SV := svOf (bodyOf b).data.toList
def openE (b : ByteArray) : Bool := decide (b.extract 252 256 = fourS (crcSum (b.extract 0 252).data.toList))
def getR (b : ByteArray) : SV × Int :=
  if b.size ≠ 256 then (SV.zero, 5) else if openE b = false then (SV.zero, 7) else if (getS b).may ∧ putS (getS b) = b then (getS b, 0) else (SV.zero, 6)
def getV (b : ByteArray) : Value := .tuple #[(getR b).1.val, .int .i64 (getR b).2]

theorem set3 {w : World} {b : Nat} {x0 x1 x2 y0 y1 y2 : Value} {T : TypeId} (h : w.heap[b]? = some (.cells #[x0, x1, x2] T)) : (((w.setCell ⟨b, 0, none⟩ y0).setCell ⟨b, 1, none⟩ y1).setCell ⟨b, 2, none⟩ y2).heap[b]? = some (.cells #[y0, y1, y2] T) := by
  have h1 : (w.setCell ⟨b, 0, none⟩ y0).heap[b]? = some (.cells #[y0, x1, x2] T) := set_heap h _
  have h2 : ((w.setCell ⟨b, 0, none⟩ y0).setCell ⟨b, 1, none⟩ y1).heap[b]? = some (.cells #[y0, y1, x2] T) := set_heap h1 _
  exact set_heap h2 _
theorem set3_bel {w w' : World} {b : Nat} {y0 y1 y2 : Value} (h : Below w.heap.size w w') (hb : w.heap.size ≤ b) : Below w.heap.size w (((w'.setCell ⟨b, 0, none⟩ y0).setCell ⟨b, 1, none⟩ y1).setCell ⟨b, 2, none⟩ y2) := bel_set (bel_set (bel_set h hb) hb) hb

set_option maxRecDepth 100000 in
theorem get_size (b : ByteArray) (w : World) (hs : b.size ≠ 256) (hs2 : b.size ≤ 9223372036854775807) : Calls Try.prog 14 #[.string b] w (RetB w (getV b)) := by
  have HV := Lib.hid (show getV b = .tuple #[SV.zero.val, .int .i64 5] by unfold getV getR; rw [if_pos hs])
  rw [HV.out]
  have hne : ((b.size : Int) != 256) = true := by simp; omega
  clear hs HV
  simp only [SV.val, SV.zero]
  go_enter Try.func14, Try.ntmps14
  go_wp2
  refine bodyPost_ret (v := .tuple #[_, .int .i64 5]) (results_row_tmp Try.results14 _ _ w.heap.size 24 _ (0, 0) _ _ rfl rfl (heap_alloc_new _ _) Try.underlying24 rfl (by kernel_rfl)) rfl ?_
  exact ⟨rfl, bel_new _ _⟩

set_option maxRecDepth 100000 in
set_option maxHeartbeats 2000000 in
theorem get_bad (b : ByteArray) (w : World) (hs : b.size = 256) (ho : openE b = false) : Calls Try.prog 14 #[.string b] w (RetB w (getV b)) := by
  have HV := Lib.hid (show getV b = .tuple #[SV.zero.val, .int .i64 7] by unfold getV getR; rw [if_neg (by simp [hs]), if_pos ho])
  rw [HV.out]
  have hne : ((b.size : Int) != 256) = false := by simp [hs]
  have HC := fun w => open_long b _ _ 252 w (by rw [hs]) (by decide) rfl rfl
  unfold openE at ho
  rw [show (252 + 4) = 256 from rfl, if_neg (of_decide_eq_false ho)] at HC
  have HC' := Lib.hid HC
  clear hs ho HV HC
  simp only [SV.val, SV.zero]
  go_enter Try.func14, Try.ntmps14
  go_wp2_with fail
  refine (HC'.out _).mono ?_
  rintro e w1 ⟨rfl, hb1⟩
  have hz : w1.heap[w.heap.size]? = some (.cells #[.int .u64 SV.zero.gen, .int .i64 SV.zero.blocks, .int .i64 SV.zero.bytes] 24) := heap_step (heap_alloc_new w _) hb1
  have HZ := Lib.hid hz
  have HB := Lib.hid (chain (bel_new w _) hb1)
  obtain ⟨c0, c1, c2⟩ := cells3 hz
  have f0 := frozen_row (o := 0) hz
  have f1 := frozen_row (o := 1) hz
  have f2 := frozen_row (o := 2) hz
  clear hz hb1
  go_wp2
  refine bodyPost_ret (v := .tuple #[_, .int .i64 7]) (results_row_tmp Try.results14 _ _ w.heap.size 24 _ (0, 0) _ _ rfl rfl (set3 HZ.out) Try.underlying24 rfl (by kernel_rfl)) rfl ?_
  exact ⟨rfl, set3_bel HB.out (Nat.le_refl _)⟩

theorem get_fine (b : ByteArray) (hs : b.size = 256) (ho : openE b = true) : ((getS b).may ∧ putS (getS b) = b → getV b = .tuple #[(getS b).val, .int .i64 0]) ∧ (¬ ((getS b).may ∧ putS (getS b) = b) → getV b = .tuple #[SV.zero.val, .int .i64 6]) := by
  unfold getV getR
  rw [if_neg (by simp [hs]), if_neg (by rw [ho]; decide)]
  constructor
  · intro h; rw [if_pos h]
  · intro h; rw [if_neg h]
set_option maxRecDepth 100000 in
set_option maxHeartbeats 2000000 in
theorem get_good (b : ByteArray) (w : World) (hs : b.size = 256) (ho : openE b = true) : Calls Try.prog 14 #[.string b] w (RetB w (getV b)) := by
  have HV := Lib.hid (get_fine b hs ho)
  have hne : ((b.size : Int) != 256) = false := by simp [hs]
  have HC := fun w => open_long b _ _ 252 w (by rw [hs]) (by decide) rfl rfl
  have hxs : (b.extract 0 252).size = 252 := by simp; omega
  unfold openE at ho
  rw [show (252 + 4) = 256 from rfl, if_pos (of_decide_eq_true ho)] at HC
  have HBO : bodyOf b = (b.extract 0 252).extract 8 (b.extract 0 252).size := rfl
  obtain ⟨x, hx⟩ : ∃ x, x = b.extract 0 252 := ⟨_, rfl⟩
  rw [← hx] at HC hxs HBO
  have HC' := Lib.hid HC
  have HX := Lib.hid HBO
  have hx8 : 8 ≤ x.size := by omega
  have hbl : (bodyOf b).data.toList.length = 244 := by
    rw [HBO]; simp; omega
  have hbz : (bodyOf b).size = 244 := by rw [HBO]; simp; omega
  have HBL := Lib.hid hbl
  have HBZ := Lib.hid hbz
  have HG := Lib.hid (show getS b = svOf (bodyOf b).data.toList from rfl)
  clear hs ho HC hx HBO hbl hbz hxs
  go_enter Try.func14, Try.ntmps14
  go_wp2_with fail
  refine (HC'.out _).mono ?_
  rintro e w1 ⟨rfl, hb1⟩
  have HZ1 := Lib.hid (show w1.heap[w.heap.size]? = some (.cells #[.int .u64 SV.zero.gen, .int .i64 SV.zero.blocks, .int .i64 SV.zero.bytes] 24) from heap_step (heap_alloc_new w _) hb1)
  have HB1 := Lib.hid (chain (bel_new w _) hb1)
  clear hb1
  go_wp2_with fail
  rw [← HX.out]
  refine (from_any (bodyOf b) _ (by rw [HBZ.out]; decide)).mono ?_
  rintro e w2 ⟨u, rfl, hu, hU, hb⟩
  have G0 := Lib.hid (show G w u (bodyOf b).data.toList 0 w2 from ⟨bodyOf b, hU, by simp, by simp, heap_step HZ1.out hb, chain HB1.out hb, by have := heap_lt HZ1.out; omega⟩)
  clear hu hU hb
  obtain ⟨l, hl⟩ : ∃ l, l = (bodyOf b).data.toList := ⟨_, rfl⟩
  rw [← hl] at G0 HBL HG
  clear hl HX
  go_wp2_with fail
  refine (word_at G0.out (by rw [HBL.out]; decide) (by rw [HBL.out]; decide)).mono ?_
  rintro e w3 ⟨rfl, hG⟩
  have G1 := Lib.hid hG; clear hG
  go_wp2_with fail
  refine (int_at G1.out (by rw [HBL.out]; decide) (by rw [HBL.out]; decide)).mono ?_
  rintro e w4 ⟨rfl, hG⟩
  have G2 := Lib.hid hG; clear hG
  go_wp2_with fail
  refine (int_at G2.out (by rw [HBL.out]; decide) (by rw [HBL.out]; decide)).mono ?_
  rintro e w5 ⟨rfl, hG⟩
  have G3 := Lib.hid hG; clear hG
  go_wp2_with fail
  have hlt5 := heap_lt G3.out.b
  have HZ5 := Lib.hid ((Below.heap_alloc w5 (.cells #[.int .u64 (svOf l).gen, .int .i64 (svOf l).blocks, .int .i64 (svOf l).bytes] 24) _ hlt5).trans G3.out.b)
  have HA5 := Lib.hid (heap_alloc_new w5 (.cells #[.int .u64 (svOf l).gen, .int .i64 (svOf l).blocks, .int .i64 (svOf l).bytes] 24))
  have HB5 := Lib.hid (show Below w.heap.size w _ from chain G3.out.bel (bel_new w5 (.cells #[.int .u64 (svOf l).gen, .int .i64 (svOf l).blocks, .int .i64 (svOf l).bytes] 24)))
  clear hlt5
  by_cases hm : (svOf l).may
  · have HM := Lib.hid hm
    clear hm
    refine (put_yes (svOf l) _ (svOf_ok l) HM.out).mono ?_
    rintro e w6 ⟨rfl, hb6⟩
    have hz6 := heap_step (w' := w6) HZ5.out hb6
    have ha6 := heap_step HA5.out hb6
    have HZ := Lib.hid hz6
    have HB := Lib.hid (chain HB5.out hb6)
    obtain ⟨c0, c1, c2⟩ := cells3 hz6
    obtain ⟨e0, e1, e2⟩ := cells3 ha6
    simp only [svOf] at e0 e1 e2
    have f0 := frozen_row (o := 0) hz6
    have f1 := frozen_row (o := 1) hz6
    have f2 := frozen_row (o := 2) hz6
    clear hz6 ha6 hb6
    by_cases he : putS (svOf l) = b
    · have HE := Lib.hid (HV.out.1 ⟨HG.out ▸ HM.out, HG.out ▸ he⟩)
      rw [he]
      have hq1 : (b.toList != b.toList) = false := by simp
      clear he
      go_wp2
      refine bodyPost_ret (v := .tuple #[_, .int .i64 0]) (results_row_tmp Try.results14 _ _ w.heap.size 24 _ (0, 0) _ _ rfl rfl (set3 HZ.out) Try.underlying24 rfl (by kernel_rfl)) rfl ?_
      exact ⟨by rw [HE.out, HG.out]; rfl, set3_bel HB.out (Nat.le_refl _)⟩
    · have HE := Lib.hid (HV.out.2 (fun h => he (HG.out ▸ h.2)))
      have hq1 : ((putS (svOf l)).toList != b.toList) = true := by simp only [bne_iff_ne, ne_eq]; exact fun h => he (toList_inj h)
      have hq2 : ((putS (svOf l)).toList == b.toList) = false := by simp only [beq_eq_false_iff_ne]; exact fun h => he (toList_inj h)
      clear he
      go_wp2
      refine bodyPost_ret (v := .tuple #[_, .int .i64 6]) (results_row_tmp Try.results14 _ _ w.heap.size 24 _ (0, 0) _ _ rfl rfl (set3 HZ.out) Try.underlying24 rfl (by kernel_rfl)) rfl ?_
      exact ⟨by rw [HE.out]; rfl, set3_bel HB.out (Nat.le_refl _)⟩
  · have HM := Lib.hid hm
    clear hm
    have HE := Lib.hid (HV.out.2 (fun h => HM.out (HG.out ▸ h.1)))
    refine (put_no (svOf l) _ (svOf_ok l) HM.out).mono ?_
    rintro e w6 ⟨rfl, hb6⟩
    have hz6 := heap_step (w' := w6) HZ5.out hb6
    have ha6 := heap_step HA5.out hb6
    have HZ := Lib.hid hz6
    have HB := Lib.hid (chain HB5.out hb6)
    obtain ⟨c0, c1, c2⟩ := cells3 hz6
    obtain ⟨e0, e1, e2⟩ := cells3 ha6
    simp only [svOf] at e0 e1 e2
    have f0 := frozen_row (o := 0) hz6
    have f1 := frozen_row (o := 1) hz6
    have f2 := frozen_row (o := 2) hz6
    clear hz6 ha6 hb6
    go_wp2
    refine bodyPost_ret (v := .tuple #[_, .int .i64 6]) (results_row_tmp Try.results14 _ _ w.heap.size 24 _ (0, 0) _ _ rfl rfl (set3 HZ.out) Try.underlying24 rfl (by kernel_rfl)) rfl ?_
    exact ⟨by rw [HE.out]; rfl, set3_bel HB.out (Nat.le_refl _)⟩
/-- Get, of every bytes. -/
theorem get_any (b : ByteArray) (w : World) (hs2 : b.size ≤ 9223372036854775807) : Calls Try.prog 14 #[.string b] w (RetB w (getV b)) := by
  by_cases hs : b.size = 256
  · cases ho : openE b with
    | false => exact get_bad b w hs ho
    | true => exact get_good b w hs ho
  · exact get_size b w hs hs2
end Go.Proofs.Ytabkeggcaacldaa
