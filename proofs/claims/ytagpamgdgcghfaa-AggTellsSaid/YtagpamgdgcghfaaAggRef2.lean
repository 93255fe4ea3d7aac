/-
  The contracts of sedimentref1.GetAgg, sedimentlaw3.all.
-/
import Derived.Test.YtagpamgdgcghfaaAggRef
import Derived.Test.YtagpamgdgcghfaaInv
namespace Go.Proofs.Ytagpamgdgcghfaa
open Go.RowKit
set_option linter.unusedVariables false
set_option linter.unusedSimpArgs false

/-- Where GetAgg stands: the Unpacker, the result, the aggregate that it fills. -/
structure GR (w0 : World) (l : List UInt8) (k : Nat) (A : AggV) (w : World) : Prop where
  un : ∃ s, RUnpAt w (w0.heap.size + 1) 0 s ∧ s.data.toList = l.drop k ∧ s.size + k = l.length
  z : w.heap[w0.heap.size]? = some (.cells #[.int .i64 AggV.zero.c, .int .i64 AggV.zero.hi, .int .u64 AggV.zero.lo, .int .i64 AggV.zero.mn, .int .i64 AggV.zero.mx] 26)
  a : w.heap[w0.heap.size + 1 + 1]? = some (.cells #[.int .i64 A.c, .int .i64 A.hi, .int .u64 A.lo, .int .i64 A.mn, .int .i64 A.mx] 26)
  bel : Below w0.heap.size w0 w
theorem GR.only {w0 w w' : World} {l : List UInt8} {k k' : Nat} {A : AggV} (h : GR w0 l k A w) (ho : Only (w0.heap.size + 1) w w')
    (hU : ∃ s, RUnpAt w' (w0.heap.size + 1) 0 s ∧ s.data.toList = l.drop k' ∧ s.size + k' = l.length) : GR w0 l k' A w' := by
  have h1 := heap_lt h.z
  have h2 := heap_lt h.a
  exact ⟨hU, (ho.block _ h1 (by omega)).trans h.z, (ho.block _ h2 (by omega)).trans h.a, h.bel.trans ((ho.below (by omega)).mono (by omega))⟩
theorem GR.set {w0 w : World} {l : List UInt8} {k : Nat} {A : AggV} (h : GR w0 l k A w) (i : Nat) (v : Value) (A' : AggV)
    (ha : (w.setCell ⟨w0.heap.size + 1 + 1, i, none⟩ v).heap[w0.heap.size + 1 + 1]? = some (.cells #[.int .i64 A'.c, .int .i64 A'.hi, .int .u64 A'.lo, .int .i64 A'.mn, .int .i64 A'.mx] 26)) : GR w0 l k A' (w.setCell ⟨w0.heap.size + 1 + 1, i, none⟩ v) := by
  obtain ⟨s, h1, h2⟩ := h.un
  exact ⟨⟨s, (set_heap_other _ (by simp)).trans h1, h2⟩, (set_heap_other _ (by simp <;> omega)).trans h.z, ha, bel_set h.bel (by simp <;> omega)⟩

theorem rint_at {w0 w : World} {k : Nat} {l : List UInt8} {A : AggV} (h : GR w0 l k A w) (hk : k + 8 ≤ l.length) (hl : l.length ≤ 1000000) :
    Calls Try.prog 40 #[.pointer (some ⟨w0.heap.size + 1, 0, none⟩)] w (fun e' w' => e' = .returned (.int .i64 (i64of (rd8 l k))) ∧ GR w0 l (k + 8) A w') := by
  obtain ⟨s, hU, h1, h2⟩ := h.un
  refine (rint_some _ s w hU (by omega) (by omega)).mono ?_
  rintro e w1 ⟨rfl, hU1, ho⟩
  have hd : (s.extract 8 s.size).data.toList = l.drop (k + 8) := by
    rw [extract_list, ← List.drop_drop, ← h1]
    rw [List.take_of_length_le (by simp)]
  exact ⟨by rw [h1]; rfl, h.only ho ⟨_, hU1, hd, by simp; omega⟩⟩
theorem rword_at {w0 w : World} {k : Nat} {l : List UInt8} {A : AggV} (h : GR w0 l k A w) (hk : k + 8 ≤ l.length) (hl : l.length ≤ 1000000) :
    Calls Try.prog 41 #[.pointer (some ⟨w0.heap.size + 1, 0, none⟩)] w (fun e' w' => e' = .returned (.int .u64 (rd8 l k)) ∧ GR w0 l (k + 8) A w') := by
  obtain ⟨s, hU, h1, h2⟩ := h.un
  refine (rword_some _ s w hU (by omega) (by omega)).mono ?_
  rintro e w1 ⟨rfl, hU1, ho⟩
  have hd : (s.extract 8 s.size).data.toList = l.drop (k + 8) := by
    rw [extract_list, ← List.drop_drop, ← h1]
    rw [List.take_of_length_le (by simp)]
  exact ⟨by rw [h1]; rfl, h.only ho ⟨_, hU1, hd, by simp; omega⟩⟩

theorem rget_short (s : ByteArray) (w : World) (hs : s.size ≠ 40) (hs2 : s.size ≤ 9223372036854775807) : Calls Try.prog 28 #[.string s] w (RetB w (.tuple #[AggV.zero.val, .int .i64 5])) := by
  have hne : ((s.size : Int) != 40) = true := by simp; omega
  clear hs
  go_enter Try.func28, Try.ntmps28
  go_wp2
  exact bodyPost_ret (v := .tuple #[AggV.zero.val, .int .i64 5]) (by simp [results, Try.results28, go_sem, AggV.val, AggV.zero]) rfl ⟨rfl, bel_new _ _⟩

set_option maxRecDepth 100000 in
set_option maxHeartbeats 2000000 in
theorem rget_long (s : ByteArray) (w : World) (hs : s.size = 40) : Calls Try.prog 28 #[.string s] w (RetB w (getRes s.data.toList)) := by
  have HS := Lib.hid hs
  have hne : ((s.size : Int) != 40) = false := by simp [hs]
  have hl40 : s.data.toList.length = 40 := by simpa using hs
  have HL := Lib.hid hl40
  clear hs hl40
  obtain ⟨l, hl⟩ : ∃ l, l = s.data.toList := ⟨_, rfl⟩
  have HSL := Lib.hid hl
  rw [← hl] at HL
  clear hl
  have G0 := Lib.hid (show GR w l 0 AggV.zero (((w.alloc (.cells #[.int .i64 AggV.zero.c, .int .i64 AggV.zero.hi, .int .u64 AggV.zero.lo, .int .i64 AggV.zero.mn, .int .i64 AggV.zero.mx] 26)).alloc (.cells #[.string s, .int .i64 0] 71)).alloc (.cells #[.int .i64 AggV.zero.c, .int .i64 AggV.zero.hi, .int .u64 AggV.zero.lo, .int .i64 AggV.zero.mn, .int .i64 AggV.zero.mx] 26)) from by
    refine ⟨⟨s, ?_, by rw [← HSL.out]; simp, by rw [HL.out, HS.out]⟩, ?_, heap_new_at (by simp), bel_alloc (bel_alloc (bel_new _ _) (by simp)) (by simp <;> omega)⟩
    · show _ = _
      rw [Below.heap_alloc _ _ _ (by simp)]; exact heap_new_at (by simp)
    · rw [Below.heap_alloc _ _ _ (by simp <;> omega), Below.heap_alloc _ _ _ (by simp)]; exact heap_alloc_new _ _)
  go_enter Try.func28, Try.ntmps28
  go_wp2_with fail
  refine (rint_at G0.out (by have := HL.out; omega) (by have := HL.out; omega)).mono ?_
  rintro e w1 ⟨rfl, hG⟩
  obtain ⟨c0, c1, c2, c3, c4⟩ := agg_cells hG.a
  have f0 := frozen_row (o := 0) hG.a
  have f1 := frozen_row (o := 1) hG.a
  have f2 := frozen_row (o := 2) hG.a
  have f3 := frozen_row (o := 3) hG.a
  have f4 := frozen_row (o := 4) hG.a
  have G1 := Lib.hid (hG.set 0 (.int .i64 (i64of (rd8 l 0))) (⟨i64of (rd8 l 0), 0, 0, 0, 0⟩) (set_heap hG.a _))
  clear hG
  go_wp2_with fail
  clear c0 c1 c2 c3 c4 f0 f1 f2 f3 f4
  refine (rint_at G1.out (by have := HL.out; omega) (by have := HL.out; omega)).mono ?_
  rintro e w2 ⟨rfl, hG⟩
  obtain ⟨c0, c1, c2, c3, c4⟩ := agg_cells hG.a
  have f0 := frozen_row (o := 0) hG.a
  have f1 := frozen_row (o := 1) hG.a
  have f2 := frozen_row (o := 2) hG.a
  have f3 := frozen_row (o := 3) hG.a
  have f4 := frozen_row (o := 4) hG.a
  have G2 := Lib.hid (hG.set 1 (.int .i64 (i64of (rd8 l 8))) (⟨i64of (rd8 l 0), i64of (rd8 l 8), 0, 0, 0⟩) (set_heap hG.a _))
  clear hG
  go_wp2_with fail
  clear c0 c1 c2 c3 c4 f0 f1 f2 f3 f4
  refine (rword_at G2.out (by have := HL.out; omega) (by have := HL.out; omega)).mono ?_
  rintro e w3 ⟨rfl, hG⟩
  obtain ⟨c0, c1, c2, c3, c4⟩ := agg_cells hG.a
  have f0 := frozen_row (o := 0) hG.a
  have f1 := frozen_row (o := 1) hG.a
  have f2 := frozen_row (o := 2) hG.a
  have f3 := frozen_row (o := 3) hG.a
  have f4 := frozen_row (o := 4) hG.a
  have G3 := Lib.hid (hG.set 2 (.int .u64 (rd8 l 16)) (⟨i64of (rd8 l 0), i64of (rd8 l 8), rd8 l 16, 0, 0⟩) (set_heap hG.a _))
  clear hG
  go_wp2_with fail
  clear c0 c1 c2 c3 c4 f0 f1 f2 f3 f4
  refine (rint_at G3.out (by have := HL.out; omega) (by have := HL.out; omega)).mono ?_
  rintro e w4 ⟨rfl, hG⟩
  obtain ⟨c0, c1, c2, c3, c4⟩ := agg_cells hG.a
  have f0 := frozen_row (o := 0) hG.a
  have f1 := frozen_row (o := 1) hG.a
  have f2 := frozen_row (o := 2) hG.a
  have f3 := frozen_row (o := 3) hG.a
  have f4 := frozen_row (o := 4) hG.a
  have G4 := Lib.hid (hG.set 3 (.int .i64 (i64of (rd8 l 24))) (⟨i64of (rd8 l 0), i64of (rd8 l 8), rd8 l 16, i64of (rd8 l 24), 0⟩) (set_heap hG.a _))
  clear hG
  go_wp2_with fail
  clear c0 c1 c2 c3 c4 f0 f1 f2 f3 f4
  refine (rint_at G4.out (by have := HL.out; omega) (by have := HL.out; omega)).mono ?_
  rintro e w5 ⟨rfl, hG⟩
  obtain ⟨c0, c1, c2, c3, c4⟩ := agg_cells hG.a
  have f4 := frozen_row (o := 4) hG.a
  have G5 := Lib.hid (hG.set 4 (.int .i64 (i64of (rd8 l 32))) (getAgg l) (set_heap hG.a _))
  clear hG
  obtain ⟨d0, d1, d2, d3, d4⟩ := agg_cells G5.out.a
  simp only [getAgg] at d0 d1 d2 d3 d4
  dsimp only at c0 c1 c2 c3 c4
  go_wp2_with fail
  refine (rvalid_val (getAgg l) _).mono ?_
  rintro e w7 ⟨rfl, hb7⟩
  have hz7 := heap_step G5.out.z hb7
  have ha7 := heap_step G5.out.a hb7
  have hbel7 : Below w.heap.size w w7 := chain G5.out.bel hb7
  clear c0 c1 c2 c3 c4 d0 d1 d2 d3 d4 f4
  have HB7 := Lib.hid hbel7
  have HZ7 := Lib.hid hz7
  obtain ⟨c0, c1, c2, c3, c4⟩ := agg_cells ha7
  obtain ⟨e0, e1, e2, e3, e4⟩ := agg_cells hz7
  have f0 := frozen_row (o := 0) hz7
  have f1 := frozen_row (o := 1) hz7
  have f2 := frozen_row (o := 2) hz7
  have f3 := frozen_row (o := 3) hz7
  have f4 := frozen_row (o := 4) hz7
  clear hz7 ha7 hbel7 hb7
  by_cases hv : (getAgg l).valid = true
  · have hE : getRes s.data.toList = .tuple #[(getAgg l).val, .int .i64 0] := by rw [← HSL.out]; unfold getRes; rw [if_pos hv, if_pos hv]
    have HE := Lib.hid hE
    rw [hv]
    clear hE hv
    go_wp2
    have hR := agg_set (getAgg l) HZ7.out
    obtain ⟨q0, q1, q2, q3, q4⟩ := agg_cells hR
    simp only [getAgg] at q0 q1 q2 q3 q4
    refine bodyPost_ret (v := .tuple #[(getAgg l).val, .int .i64 0]) (by simp [results, Try.results28, go_sem, q0, q1, q2, q3, q4, AggV.val, getAgg]) rfl ⟨by rw [HE.out], agg_set_bel (getAgg l) HB7.out (Nat.le_refl _)⟩
  · have hE : getRes s.data.toList = .tuple #[AggV.zero.val, .int .i64 6] := by rw [← HSL.out]; unfold getRes; rw [if_neg hv, if_neg hv]
    have HE := Lib.hid hE
    have hv' : (getAgg l).valid = false := by simpa using hv
    rw [hv']
    clear hE hv hv'
    go_wp2
    have hR := agg_set AggV.zero HZ7.out
    obtain ⟨q0, q1, q2, q3, q4⟩ := agg_cells hR
    simp only [AggV.zero] at q0 q1 q2 q3 q4
    refine bodyPost_ret (v := .tuple #[AggV.zero.val, .int .i64 6]) (by simp [results, Try.results28, go_sem, q0, q1, q2, q3, q4, AggV.val, AggV.zero]) rfl ⟨by rw [HE.out], agg_set_bel AggV.zero HB7.out (Nat.le_refl _)⟩

theorem amerge_all_take (l : List AggV) (k : Nat) (h : k < l.length) : (l.take (k + 1)).foldl m2 AggV.zero = m2 ((l.take k).foldl m2 AggV.zero) (l.getD k AggV.zero) := by
  rw [take_snocA h]; simp
theorem m2_ok (a b : AggV) (ha : a.ok) (hb : b.ok) : (m2 a b).ok := by rw [← amerge_two]; exact amerge_ok _ (by simp; exact ⟨ha, hb⟩)
theorem all_ok (l : List AggV) (h : ∀ x ∈ l, x.ok) : (l.foldl m2 AggV.zero).ok := by
  suffices ∀ (l : List AggV) (a : AggV), a.ok → (∀ x ∈ l, x.ok) → (l.foldl m2 a).ok from this l _ zero_ok h
  intro l
  induction l with
  | nil => intro a ha _; exact ha
  | cons x l ih => intro a ha h; exact ih _ (m2_ok _ _ ha (h x (by simp))) (fun y hy => h y (by simp [hy]))

def AllS (w : World) (A : AggV) (w' : World) : Prop := w'.heap[w.heap.size + 1]? = some (.cells #[.int .i64 A.c, .int .i64 A.hi, .int .u64 A.lo, .int .i64 A.mn, .int .i64 A.mx] 26) ∧ w'.heap[w.heap.size]? = some (.cells #[.int .i64 AggV.zero.c, .int .i64 AggV.zero.hi, .int .u64 AggV.zero.lo, .int .i64 AggV.zero.mn, .int .i64 AggV.zero.mx] 26) ∧ Below w.heap.size w w'
theorem AllS.step {w w1 w2 : World} {A : AggV} (h : AllS w A w1) (hb : Below w1.heap.size w1 w2) : AllS w A w2 := ⟨heap_step h.1 hb, heap_step h.2.1 hb, chain h.2.2 hb⟩
theorem x5_step {w1 w2 : World} {b o : Nat} {X : AggV} (h : w1.cell? ⟨b, o, none⟩ = some (.int .i64 X.c) ∧ w1.cell? ⟨b, o + 1, none⟩ = some (.int .i64 X.hi) ∧ w1.cell? ⟨b, o + 2, none⟩ = some (.int .u64 X.lo) ∧ w1.cell? ⟨b, o + 3, none⟩ = some (.int .i64 X.mn) ∧ w1.cell? ⟨b, o + 4, none⟩ = some (.int .i64 X.mx)) (hl : b < w1.heap.size) (hb : Below w1.heap.size w1 w2) : w2.cell? ⟨b, o, none⟩ = some (.int .i64 X.c) ∧ w2.cell? ⟨b, o + 1, none⟩ = some (.int .i64 X.hi) ∧ w2.cell? ⟨b, o + 2, none⟩ = some (.int .u64 X.lo) ∧ w2.cell? ⟨b, o + 3, none⟩ = some (.int .i64 X.mn) ∧ w2.cell? ⟨b, o + 4, none⟩ = some (.int .i64 X.mx) := by
  obtain ⟨g0, g1, g2, g3, g4⟩ := h
  exact ⟨(hb.cell hl).trans g0, (hb.cell hl).trans g1, (hb.cell hl).trans g2, (hb.cell hl).trans g3, (hb.cell hl).trans g4⟩

set_option maxRecDepth 100000 in
set_option maxHeartbeats 1000000 in
theorem all_any (v : Value) (l : List AggV) (w : World) (h : AggsAt w v l) :
    Calls Try.prog 22 #[v] w (RetB w (l.foldl m2 AggV.zero).val) := by
  obtain ⟨a, ca, rfl, hI, hlen, hc⟩ := h
  have HC := Lib.hid hc
  have HI := Lib.hid hI
  clear hc hI
  go_enter Try.func22, Try.ntmps22
  go_wp2
  go_loopw [4] (fun i wr => ∃ (k : Nat) (A : AggV), k ≤ l.length ∧ i = .int .i64 k ∧ Hid (A = (l.take k).foldl m2 AggV.zero) ∧ Hid (wr.heap[w.heap.size + 1]? = some (.cells #[.int .i64 A.c, .int .i64 A.hi, .int .u64 A.lo, .int .i64 A.mn, .int .i64 A.mx] 26)) ∧ Hid (wr.heap[w.heap.size]? = some (.cells #[.int .i64 AggV.zero.c, .int .i64 AggV.zero.hi, .int .u64 AggV.zero.lo, .int .i64 AggV.zero.mn, .int .i64 AggV.zero.mx] 26)) ∧ Below w.heap.size w wr) (fun i _ => l.length - (intOf i).toNat)
  case atStart =>
    refine ⟨0, AggV.zero, Nat.zero_le _, rfl, rfl, ?_, ?_, bel_alloc (bel_alloc (Below.refl _ _) (Nat.le_refl _)) (by simp)⟩
    · exact Lib.hid (by rw [show w.heap.size + 1 = (w.alloc (.cells #[.int .i64 AggV.zero.c, .int .i64 AggV.zero.hi, .int .u64 AggV.zero.lo, .int .i64 AggV.zero.mn, .int .i64 AggV.zero.mx] 26)).heap.size by simp]; exact heap_alloc_new _ _)
    · exact Lib.hid (by rw [Below.heap_alloc _ _ _ (by simp)]; exact heap_alloc_new _ _)
  case round =>
    obtain ⟨k, A, hk, rfl, HA, HB, HZ, hnx⟩ := hrel
    have hsz := heap_lt HB.out
    by_cases hlt : k < l.length
    · obtain ⟨b, o, rfl, hbw, hcl⟩ := HC.out (by intro h; simp [h] at hlt)
      obtain ⟨g0, g1, g2, g3, g4⟩ := hcl k hlt
      have hxI := HI.out (l.getD k AggV.zero) (by simp [hlt])
      replace g0 := (hnx.cell hbw).trans g0
      replace g1 := (hnx.cell hbw).trans g1
      replace g2 := (hnx.cell hbw).trans g2
      replace g3 := (hnx.cell hbw).trans g3
      replace g4 := (hnx.cell hbw).trans g4
      obtain ⟨X, hX⟩ : ∃ X, X = l.getD k AggV.zero := ⟨_, rfl⟩
      rw [← hX] at g0 g1 g2 g3 g4 hxI
      have HX := Lib.hid hX
      have HXI := Lib.hid hxI
      have hAok := Lib.hid (show A.ok by rw [HA.out]; exact all_ok _ (fun y hy => HI.out y (List.mem_of_mem_take hy)))
      have HR1 := Lib.hid (amerge_all_take l k hlt)
      obtain ⟨c0, c1, c2, c3, c4⟩ := agg_cells HB.out
      have hx5 := And.intro g0 (And.intro g1 (And.intro g2 (And.intro g3 g4)))
      have HX5 := Lib.hid hx5
      have S0 := Lib.hid (show AllS w A wr.drew from ⟨HB.out, HZ.out, hnx.drew⟩)
      clear hX hcl hxI g0 g1 g2 g3 g4 c0 c1 c2 c3 c4 hx5
      go_wp2_with fail
      refine wp_region_inv (S := (fun w' => AllS w A w' ∧ (w'.cell? ⟨w.heap.size + 1, 0, none⟩ = some (.int .i64 A.c) ∧ w'.cell? ⟨w.heap.size + 1, 1, none⟩ = some (.int .i64 A.hi) ∧ w'.cell? ⟨w.heap.size + 1, 2, none⟩ = some (.int .u64 A.lo) ∧ w'.cell? ⟨w.heap.size + 1, 3, none⟩ = some (.int .i64 A.mn) ∧ w'.cell? ⟨w.heap.size + 1, 4, none⟩ = some (.int .i64 A.mx)) ∧ w'.cell? ⟨b, o + k * 5, none⟩ = some (.int .i64 X.c) ∧ w'.cell? ⟨b, o + k * 5 + 1, none⟩ = some (.int .i64 X.hi) ∧ w'.cell? ⟨b, o + k * 5 + 2, none⟩ = some (.int .u64 X.lo) ∧ w'.cell? ⟨b, o + k * 5 + 3, none⟩ = some (.int .i64 X.mn) ∧ w'.cell? ⟨b, o + k * 5 + 4, none⟩ = some (.int .i64 X.mx))) 6 (Spec.val ?_ :: Spec.val ?_ :: Spec.val ?_ :: Spec.val ?_ :: Spec.val ?_ :: Spec.val ?_ :: []) (by kernel_rfl) (by kernel_rfl) rfl (fun w1 w2 h hb => ⟨h.1.step hb, agg_cells (h.1.step hb).1, x5_step h.2.2 (Nat.lt_of_lt_of_le hbw h.1.2.2.size) hb⟩) (⟨S0.out, agg_cells S0.out.1, HX5.out⟩) ?hmain
      case' hmain => skip
      -- op 0: t11 := Op.load 26 (tmp 3)
      refine inv_val (i := 0) (by kernel_rfl) rfl rfl (fun w1 hS hd K hK => ?_) ?_
      · (try dsimp only at hS)
        go_simp
        exact hK.out _ _ (by simp only [Act.put, List.setIfInBounds_toArray, List.set_cons_zero, List.set_cons_succ, List.nil_append, List.cons_append]; rfl) (Below.refl _ _)
      simp only [Act.put, List.setIfInBounds_toArray, List.set_cons_zero, List.set_cons_succ, List.nil_append, List.cons_append]
      -- op 1: t12 := Op.move (tmp 0)
      refine inv_val (i := 1) (by kernel_rfl) rfl rfl (fun w1 hS hd K hK => ?_) ?_
      · (try dsimp only at hS)
        go_simp
        exact hK.out _ _ (by simp only [Act.put, List.setIfInBounds_toArray, List.set_cons_zero, List.set_cons_succ, List.nil_append, List.cons_append]; rfl) (Below.refl _ _)
      simp only [Act.put, List.setIfInBounds_toArray, List.set_cons_zero, List.set_cons_succ, List.nil_append, List.cons_append]
      -- op 2: t13 := Op.move (tmp 4)
      refine inv_val (i := 2) (by kernel_rfl) rfl rfl (fun w1 hS hd K hK => ?_) ?_
      · (try dsimp only at hS)
        go_simp
        exact hK.out _ _ (by simp only [Act.put, List.setIfInBounds_toArray, List.set_cons_zero, List.set_cons_succ, List.nil_append, List.cons_append]; rfl) (Below.refl _ _)
      simp only [Act.put, List.setIfInBounds_toArray, List.set_cons_zero, List.set_cons_succ, List.nil_append, List.cons_append]
      -- op 3: t14 := Op.indexAddr 44 (tmp 12) (tmp 13)
      refine inv_val (i := 3) (by kernel_rfl) rfl rfl (fun w1 hS hd K hK => ?_) ?_
      · (try dsimp only at hS)
        go_simp
        exact hK.out _ _ (by simp only [Act.put, List.setIfInBounds_toArray, List.set_cons_zero, List.set_cons_succ, List.nil_append, List.cons_append]; rfl) (Below.refl _ _)
      simp only [Act.put, List.setIfInBounds_toArray, List.set_cons_zero, List.set_cons_succ, List.nil_append, List.cons_append]
      -- op 4: t15 := Op.load 26 (tmp 14)
      refine inv_val (i := 4) (by kernel_rfl) rfl rfl (fun w1 hS hd K hK => ?_) ?_
      · (try dsimp only at hS)
        go_simp
        exact hK.out _ _ (by simp only [Act.put, List.setIfInBounds_toArray, List.set_cons_zero, List.set_cons_succ, List.nil_append, List.cons_append]; rfl) (Below.refl _ _)
      simp only [Act.put, List.setIfInBounds_toArray, List.set_cons_zero, List.set_cons_succ, List.nil_append, List.cons_append]
      -- op 5: t16 := Op.call { callee := Callee.value (func 19), args := #[
      refine inv_val (i := 5) (by kernel_rfl) rfl rfl (fun w1 hS hd K hK => ?_) ?_
      · (try dsimp only at hS)
        go_simp
        refine (rmerge_any A X _ hAok.out HXI.out).mono ?_; rintro e w2 ⟨rfl, hb⟩; rw [← HX.out] at HR1; simp only [AggV.val]; exact hK.out _ _ (by simp only [Act.put, List.setIfInBounds_toArray, List.set_cons_zero, List.set_cons_succ, List.nil_append, List.cons_append]; rfl) hb
      simp only [Act.put, List.setIfInBounds_toArray, List.set_cons_zero, List.set_cons_succ, List.nil_append, List.cons_append]
      refine inv_tail1 (by kernel_rfl) rfl (fun w2 hS hd => ?_)
      have hB2 := hS.1.1
      obtain ⟨d0, d1, d2, d3, d4⟩ := agg_cells hB2
      have f0 := frozen_row (o := 0) hB2
      have f1 := frozen_row (o := 1) hB2
      have f2 := frozen_row (o := 2) hB2
      have f3 := frozen_row (o := 3) hB2
      have f4 := frozen_row (o := 4) hB2
      have HR' := Lib.hid (agg_set (m2 A X) hB2)
      have HZ' := Lib.hid ((agg_set_other (k := w.heap.size) (b := w.heap.size + 1) (m2 A X) (by omega)).trans hS.1.2.1)
      have hnx' := agg_set_bel (b := w.heap.size + 1) (m2 A X) hS.1.2.2 (by omega)
      clear hS hd hB2
      go_wp2
      go_roundw
      case rel => exact ⟨k + 1, m2 A X, by omega, by go_num, Lib.hid (by rw [HR1.out, HX.out, HA.out]), HR', HZ', hnx'⟩
      case measure => simp [intOf]; omega
    · have hkl : k = l.length := by omega
      subst hkl
      have hB := HB.out
      have hZ := HZ.out
      obtain ⟨c0, c1, c2, c3, c4⟩ := agg_cells hB
      obtain ⟨e0, e1, e2, e3, e4⟩ := agg_cells hZ
      have f0 := frozen_row (o := 0) hZ
      have f1 := frozen_row (o := 1) hZ
      have f2 := frozen_row (o := 2) hZ
      have f3 := frozen_row (o := 3) hZ
      have f4 := frozen_row (o := 4) hZ
      clear hB hZ
      go_wp2
      have hR := agg_set A HZ.out
      obtain ⟨q0, q1, q2, q3, q4⟩ := agg_cells hR
      refine bodyPost_ret (v := A.val) (by simp [results, Try.results22, go_sem, q0, q1, q2, q3, q4, AggV.val]) rfl ⟨by rw [HA.out]; simp, agg_set_bel A hnx (Nat.le_refl _)⟩
end Go.Proofs.Ytagpamgdgcghfaa
