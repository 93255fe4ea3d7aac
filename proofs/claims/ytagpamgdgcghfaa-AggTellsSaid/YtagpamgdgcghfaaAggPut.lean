/-
  The contracts of agg.Put and agg.Get.
-/
import Derived.Test.YtagpamgdgcghfaaAggMerge
import Derived.Test.YtagpamgdgcghfaaUnpack
namespace Go.Proofs.Ytagpamgdgcghfaa
open Go.RowKit
set_option linter.unusedVariables false
set_option linter.unusedSimpArgs false

def putBytes (A : AggV) : List UInt8 := [] ++ intBytes [A.c, A.hi] ++ wordBytes [A.lo] ++ intBytes [A.mn, A.mx]

set_option maxRecDepth 100000 in
set_option maxHeartbeats 1000000 in
theorem put_none (A : AggV) (w : World) (hA : A.valid = false) : Calls Try.prog 17 #[A.val] w (RetB w (.tuple #[.string ByteArray.empty, .int .i64 1])) := by
  simp only [AggV.val]
  go_enter Try.func17, Try.ntmps17
  go_wp2_with fail
  refine (valid_val A _).mono ?_
  rintro e w1 ⟨rfl, hb1⟩
  rw [hA]
  go_wp2
  go_ret2
  exact ⟨rfl, chain (bel_alloc (Below.refl _ _) (Nat.le_refl _)) hb1⟩

/-- Where Put stands: its Packer in block p, its argument in the first block. -/
structure PS (w0 : World) (A : AggV) (p : Nat) (l : List UInt8) (w : World) : Prop where
  pk : PackAt w p 0 l
  b : w.heap[w0.heap.size]? = some (.cells #[.int .i64 A.c, .int .i64 A.hi, .int .u64 A.lo, .int .i64 A.mn, .int .i64 A.mx] 26)
  bel : Below w0.heap.size w0 w
  lt : w0.heap.size < p
theorem PS.step {w0 w w' w'' : World} {A : AggV} {p : Nat} {l l' : List UInt8} (h : PS w0 A p l w) (hb : Below w.heap.size w w') (hs : PackStep p w' w'') (hP : PackAt w'' p 0 l') : PS w0 A p l' w'' := by
  have h1 := hs.below (h.pk.keep hb)
  exact ⟨hP, below_at h1 h.lt (heap_step h.b hb), (bel_step h.bel hb h.bel.size).trans (h1.mono (Nat.le_of_lt h.lt)), h.lt⟩

set_option maxRecDepth 100000 in
set_option maxHeartbeats 1000000 in
theorem put_some (A : AggV) (w : World) (hA : A.valid = true) (hok : A.ok) : Calls Try.prog 17 #[A.val] w (RetB w (.tuple #[.string (strOf (putBytes A)), .int .i64 0])) := by
  have HOK := Lib.hid hok
  clear hok
  simp only [AggV.val]
  go_enter Try.func17, Try.ntmps17
  go_wp2_with fail
  refine (valid_val A _).mono ?_
  rintro e w1 ⟨rfl, hb1⟩
  rw [hA]
  have hB1 : w1.heap[w.heap.size]? = _ := heap_step (heap_alloc_new w (.cells #[.int .i64 A.c, .int .i64 A.hi, .int .u64 A.lo, .int .i64 A.mn, .int .i64 A.mx] 26)) hb1
  have hs1 : w.heap.size < w1.heap.size := heap_lt hB1
  have hbel1 : Below w.heap.size w w1 := chain (bel_alloc (Below.refl _ _) (Nat.le_refl _)) hb1
  have Q0 := Lib.hid (show PS w A w1.heap.size [] (w1.alloc (.cells #[.int .i64 0, .slice none 0 0] 56)) from ⟨pack_new w1, (Below.heap_alloc w1 _ _ hs1).trans hB1, bel_step hbel1 (bel_new _ _) (Nat.le_of_lt hs1), hs1⟩)
  clear hbel1 hA hb1 hB1
  obtain ⟨c0, c1, c2, c3, c4⟩ := agg_cells Q0.out.b
  go_wp2_with fail
  refine (ints_any _ _ [A.c, A.hi] _ _ (Q0.out.pk.keep (bel_new _ _)) (ints_out_new Q0.out.pk (by simp) rfl (by have := HOK.out; unfold AggV.ok at this; simp; omega) (by simp)) (by simp)).mono ?_
  rintro e w2 ⟨rfl, hP, hs⟩
  have Q1 := Lib.hid (Q0.out.step (bel_new _ _) hs hP)
  clear hP hs c0 c1 c2 c3 c4
  obtain ⟨c0, c1, c2, c3, c4⟩ := agg_cells Q1.out.b
  go_wp2_with fail
  refine (words_any _ _ [A.lo] _ _ (Q1.out.pk.keep (bel_new _ _)) (words_out_new Q1.out.pk (by simp) rfl (by have := HOK.out; unfold AggV.ok at this; simp; omega)) (by simp [intBytes_length])).mono ?_
  rintro e w3 ⟨rfl, hP, hs⟩
  have Q2 := Lib.hid (Q1.out.step (bel_new _ _) hs hP)
  clear hP hs c0 c1 c2 c3 c4
  obtain ⟨c0, c1, c2, c3, c4⟩ := agg_cells Q2.out.b
  go_wp2_with fail
  refine (ints_any _ _ [A.mn, A.mx] _ _ (Q2.out.pk.keep (bel_new _ _)) (ints_out_new Q2.out.pk (by simp) rfl (by have := HOK.out; unfold AggV.ok at this; simp; omega) (by simp)) (by simp [intBytes_length, wordBytes_length])).mono ?_
  rintro e w4 ⟨rfl, hP, hs⟩
  have Q3 := Lib.hid (Q2.out.step (bel_new _ _) hs hP)
  clear hP hs c0 c1 c2 c3 c4
  obtain ⟨c0, c1, c2, c3, c4⟩ := agg_cells Q3.out.b
  go_wp2_with fail
  refine (done_ok _ _ _ Q3.out.pk).mono ?_
  rintro e w5 ⟨rfl, hb5⟩
  go_wp2
  go_ret2
  exact ⟨rfl, chain Q3.out.bel hb5⟩

/-- The aggregate that 40 bytes make. -/
def rd8 (l : List UInt8) (k : Nat) : Int := leVal ((l.drop k).take 8)
def getAgg (l : List UInt8) : AggV := ⟨i64of (rd8 l 0), i64of (rd8 l 8), rd8 l 16, i64of (rd8 l 24), i64of (rd8 l 32)⟩
theorem rd8_bd (l : List UInt8) (k : Nat) : 0 ≤ rd8 l k ∧ rd8 l k ≤ 18446744073709551615 := by
  have h := leVal_bd ((l.drop k).take 8)
  have h2 := pow256 ((l.drop k).take 8).length (List.length_take_le _ _)
  unfold rd8; omega
theorem i64of_bd (x : Int) (h0 : 0 ≤ x) (h1 : x ≤ 18446744073709551615) : -9223372036854775808 ≤ i64of x ∧ i64of x ≤ 9223372036854775807 := by unfold i64of; split <;> omega
theorem getAgg_ok (l : List UInt8) : (getAgg l).ok := by
  unfold getAgg AggV.ok
  have h0 := rd8_bd l 0; have h1 := rd8_bd l 8; have h2 := rd8_bd l 16; have h3 := rd8_bd l 24; have h4 := rd8_bd l 32
  exact ⟨i64of_bd _ h0.1 h0.2, i64of_bd _ h1.1 h1.2, h2, i64of_bd _ h3.1 h3.2, i64of_bd _ h4.1 h4.2⟩

/-- Where Get stands. -/
structure GS (w0 : World) (u : Nat) (l : List UInt8) (s : ByteArray) (k : Nat) (w : World) : Prop where
  un : UnpAt w u 0 s
  li : s.data.toList = l.drop k
  sz : s.size + k = l.length
  b : w.heap[w0.heap.size]? = some (.cells #[.int .i64 AggV.zero.c, .int .i64 AggV.zero.hi, .int .u64 AggV.zero.lo, .int .i64 AggV.zero.mn, .int .i64 AggV.zero.mx] 26)
  bel : Below w0.heap.size w0 w
  lt : w0.heap.size < u
theorem size_list (s : ByteArray) : s.size = s.data.toList.length := by simp
theorem GS.step {w0 w w' : World} {u k : Nat} {l : List UInt8} {s : ByteArray} (h : GS w0 u l s k w) (ho : Only u w w') (hU : UnpAt w' u 0 (s.extract 8 s.size)) (h8 : 8 ≤ s.size := by omega) : GS w0 u l (s.extract 8 s.size) (k + 8) w' := by
  have hlt := heap_lt (show w.heap[u]? = _ from h.un)
  have hb := ho.below (Nat.le_of_lt hlt)
  have hd : (s.extract 8 s.size).data.toList = l.drop (k + 8) := by
    rw [extract_list, ← List.drop_drop, ← h.li]
    rw [List.take_of_length_le (by simp)]
  refine ⟨hU, hd, ?_, below_at hb h.lt h.b, h.bel.trans (hb.mono (Nat.le_of_lt h.lt)), h.lt⟩
  have := h.sz
  simp; omega

def G (w0 : World) (u : Nat) (l : List UInt8) (k : Nat) (w : World) : Prop := ∃ s, GS w0 u l s k w
theorem int_at {w0 w : World} {u k : Nat} {l : List UInt8} (h : G w0 u l k w) (hk : k + 8 ≤ l.length) (hl : l.length ≤ 1000000) :
    Calls Try.prog 35 #[.pointer (some ⟨u, 0, none⟩)] w (fun e' w' => e' = .returned (.int .i64 (i64of (rd8 l k))) ∧ G w0 u l (k + 8) w') := by
  obtain ⟨s, h⟩ := h
  have hz := h.sz
  refine (int_some u s w h.un (by omega) (by omega)).mono ?_
  rintro e w1 ⟨rfl, hU, ho⟩
  exact ⟨by rw [h.li]; rfl, _, h.step ho hU (by omega)⟩
theorem word_at {w0 w : World} {u k : Nat} {l : List UInt8} (h : G w0 u l k w) (hk : k + 8 ≤ l.length) (hl : l.length ≤ 1000000) :
    Calls Try.prog 36 #[.pointer (some ⟨u, 0, none⟩)] w (fun e' w' => e' = .returned (.int .u64 (rd8 l k)) ∧ G w0 u l (k + 8) w') := by
  obtain ⟨s, h⟩ := h
  have hz := h.sz
  refine (word_some u s w h.un (by omega) (by omega)).mono ?_
  rintro e w1 ⟨rfl, hU, ho⟩
  exact ⟨by rw [h.li]; rfl, _, h.step ho hU (by omega)⟩
theorem G.b {w0 w : World} {u k : Nat} {l : List UInt8} (h : G w0 u l k w) : w.heap[w0.heap.size]? = some (.cells #[.int .i64 AggV.zero.c, .int .i64 AggV.zero.hi, .int .u64 AggV.zero.lo, .int .i64 AggV.zero.mn, .int .i64 AggV.zero.mx] 26) := by obtain ⟨s, h⟩ := h; exact h.b
theorem G.bel {w0 w : World} {u k : Nat} {l : List UInt8} (h : G w0 u l k w) : Below w0.heap.size w0 w := by obtain ⟨s, h⟩ := h; exact h.bel

def getRes (l : List UInt8) : Value := .tuple #[if (getAgg l).valid = true then (getAgg l).val else AggV.zero.val, .int .i64 (if (getAgg l).valid = true then 0 else 6)]

theorem get_short (s : ByteArray) (w : World) (hs : s.size ≠ 40) (hs2 : s.size ≤ 9223372036854775807) : Calls Try.prog 18 #[.string s] w (RetB w (.tuple #[AggV.zero.val, .int .i64 5])) := by
  have hne : ((s.size : Int) != 40) = true := by simp; omega
  clear hs
  go_enter Try.func18, Try.ntmps18
  go_wp2
  exact bodyPost_ret (v := .tuple #[AggV.zero.val, .int .i64 5]) (by simp [results, Try.results18, go_sem, AggV.val, AggV.zero]) rfl ⟨rfl, bel_new _ _⟩

set_option maxRecDepth 100000 in
set_option maxHeartbeats 2000000 in
theorem get_long (s : ByteArray) (w : World) (hs : s.size = 40) : Calls Try.prog 18 #[.string s] w (RetB w (getRes s.data.toList)) := by
  have HS := Lib.hid hs
  have hne : ((s.size : Int) != 40) = false := by simp [hs]
  have hl40 : s.data.toList.length = 40 := by simpa using hs
  have HL := Lib.hid hl40
  clear hs hl40
  go_enter Try.func18, Try.ntmps18
  go_wp2_with fail
  refine (from_any s _ (by have := HS.out; omega)).mono ?_
  rintro e w1 ⟨u, rfl, hu, hU, hb⟩
  have hz : w1.heap[w.heap.size]? = some (.cells #[.int .i64 AggV.zero.c, .int .i64 AggV.zero.hi, .int .u64 AggV.zero.lo, .int .i64 AggV.zero.mn, .int .i64 AggV.zero.mx] 26) := heap_step (heap_alloc_new w _) hb
  have G0 := Lib.hid (show G w u s.data.toList 0 w1 from ⟨s, hU, by simp, by simp, hz, chain (bel_new _ _) hb, by simp at hu; omega⟩)
  clear hu hU hb hz
  obtain ⟨l, hl⟩ : ∃ l, l = s.data.toList := ⟨_, rfl⟩
  rw [← hl] at G0 HL
  have HSL := Lib.hid hl
  clear hl
  go_wp2_with fail
  refine (int_at G0.out (by have := HL.out; omega) (by have := HL.out; omega)).mono ?_
  rintro e w2 ⟨rfl, hG⟩
  have G1 := Lib.hid hG; clear hG
  go_wp2_with fail
  refine (int_at G1.out (by have := HL.out; omega) (by have := HL.out; omega)).mono ?_
  rintro e w3 ⟨rfl, hG⟩
  have G2 := Lib.hid hG; clear hG
  go_wp2_with fail
  refine (word_at G2.out (by have := HL.out; omega) (by have := HL.out; omega)).mono ?_
  rintro e w4 ⟨rfl, hG⟩
  have G3 := Lib.hid hG; clear hG
  go_wp2_with fail
  refine (int_at G3.out (by have := HL.out; omega) (by have := HL.out; omega)).mono ?_
  rintro e w5 ⟨rfl, hG⟩
  have G4 := Lib.hid hG; clear hG
  go_wp2_with fail
  refine (int_at G4.out (by have := HL.out; omega) (by have := HL.out; omega)).mono ?_
  rintro e w6 ⟨rfl, hG⟩
  have G5 := Lib.hid hG; clear hG
  go_wp2_with fail
  refine (valid_val (getAgg l) _).mono ?_
  rintro e w7 ⟨rfl, hb7⟩
  have hlt6 := heap_lt G5.out.b
  have hz7 := heap_step ((Below.heap_alloc w6 (.cells #[.int .i64 (getAgg l).c, .int .i64 (getAgg l).hi, .int .u64 (getAgg l).lo, .int .i64 (getAgg l).mn, .int .i64 (getAgg l).mx] 26) _ hlt6).trans G5.out.b) hb7
  have ha7 := heap_step (heap_alloc_new w6 (.cells #[.int .i64 (getAgg l).c, .int .i64 (getAgg l).hi, .int .u64 (getAgg l).lo, .int .i64 (getAgg l).mn, .int .i64 (getAgg l).mx] 26)) hb7
  have hbel7 : Below w.heap.size w w7 := chain (chain G5.out.bel (bel_new _ _)) hb7
  have HB7 := Lib.hid hbel7
  have HZ7 := Lib.hid hz7
  obtain ⟨c0, c1, c2, c3, c4⟩ := agg_cells ha7
  obtain ⟨e0, e1, e2, e3, e4⟩ := agg_cells hz7
  have f0 := frozen_row (o := 0) hz7
  have f1 := frozen_row (o := 1) hz7
  have f2 := frozen_row (o := 2) hz7
  have f3 := frozen_row (o := 3) hz7
  have f4 := frozen_row (o := 4) hz7
  clear hz7 ha7 hbel7 hb7
  by_cases hv : (getAgg l).valid = true
  · have hE : getRes s.data.toList = .tuple #[(getAgg l).val, .int .i64 0] := by rw [← HSL.out]; unfold getRes; rw [if_pos hv, if_pos hv]
    have HE := Lib.hid hE
    rw [hv]
    clear hE hv
    go_wp2
    have hR := agg_set (getAgg l) HZ7.out
    obtain ⟨q0, q1, q2, q3, q4⟩ := agg_cells hR
    simp only [getAgg] at q0 q1 q2 q3 q4
    refine bodyPost_ret (v := .tuple #[(getAgg l).val, .int .i64 0]) (by simp [results, Try.results18, go_sem, q0, q1, q2, q3, q4, AggV.val, getAgg]) rfl ⟨by rw [HE.out], agg_set_bel (getAgg l) HB7.out (Nat.le_refl _)⟩
  · have hE : getRes s.data.toList = .tuple #[AggV.zero.val, .int .i64 6] := by rw [← HSL.out]; unfold getRes; rw [if_neg hv, if_neg hv]
    have HE := Lib.hid hE
    have hv' : (getAgg l).valid = false := by simpa using hv
    rw [hv']
    clear hE hv hv'
    go_wp2
    have hR := agg_set AggV.zero HZ7.out
    obtain ⟨q0, q1, q2, q3, q4⟩ := agg_cells hR
    simp only [AggV.zero] at q0 q1 q2 q3 q4
    refine bodyPost_ret (v := .tuple #[AggV.zero.val, .int .i64 6]) (by simp [results, Try.results18, go_sem, q0, q1, q2, q3, q4, AggV.val, AggV.zero]) rfl ⟨by rw [HE.out], agg_set_bel AggV.zero HB7.out (Nat.le_refl _)⟩
end Go.Proofs.Ytagpamgdgcghfaa
