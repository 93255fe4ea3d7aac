/-
  Clones, policy.Copy and reach.Of: what they give lies in blocks of its own.
-/
import Derived.Test.YtaenpcglaenlaaaReach
import Derived.Test.YtaenpcglaenlaaaOwn
namespace Go.Proofs.Ytaenpcglaenlaaa
open Go.RowKit
set_option linter.unusedVariables false
set_option linter.unusedSimpArgs false

set_option maxRecDepth 100000 in
set_option maxHeartbeats 1000000 in
theorem clone_tiersO (v : Value) (l : List TierV) (w : World) (hv : TiersAt w v l) (hl : l.length ≤ 1000000) :
    Calls Try.prog 76 #[v] w (fun e' w' => ∃ u, e' = .returned u ∧ OwnL w' w.heap.size 32 4 u l.length (flatT l) ∧ Below w.heap.size w w') := by
  obtain ⟨i0, hi, hz0, hz1, hz2⟩ := info_parts info_tier
  have hv' := hv
  obtain ⟨a, ca, rfl, hI, hlen, hc⟩ := hv
  have HI := Lib.hid hI
  clear hI hc
  have q22 : ∀ (w : World) (a : Option Addr) (n c n' c' : Nat), (binOp .eql 22 (.slice a n c) (.slice none n' c')).run Try.prog w = .ok (.bool a.isNone) w := fun w a n c n' c' => Lib.run_eql_slice_nil w _ _ a n c n' c' Try.underlying22
  have u22 : ∀ w, Sem.run Try.prog (underlying 22) w = .ok (TypeDesc.slice 32) w := run_underlying Try.underlying22
  cases a with
  | none =>
    have h0 : l = [] := by
      by_cases h : l = []
      · exact h
      · obtain ⟨_, _, h1, _⟩ := hv'.flat h; cases h1
    subst h0
    clear hlen
    go_enter Try.func76, Try.ntmps76
    go_wp2_with fail
    go_ret
    exact ⟨_, rfl, OwnL.nil _ _ _ _ _, Below.refl _ _⟩
  | some a =>
    have hc : ∀ j u, (flatT l)[j]? = some u → w.cell? (a.add j) = some u := by
      by_cases h0 : l = []
      · subst h0; intro j u hu; simp [flatT] at hu
      · obtain ⟨b, o, h1, hb, hc⟩ := hv'.flat h0
        injection h1 with h1
        subst h1
        exact hc
    have HC := Lib.hid hc
    have HV := Lib.hid hv'
    clear hc hv'
    go_enter Try.func76, Try.ntmps76
    go_wp2_with (at_builtin; refine wpList_append_own _ rfl _ _ 22 rfl w.heap.size 32 i0 (.agg #[.string ByteArray.empty, .int .i64 0, .int .i64 0, .int .i64 0]) 4 40 Try.underlying22 hi hz0 hz1 hz2 rfl (by decide) _ _ _ rfl (World.ownsRow_made w #[] 0 (Nat.le_refl _) (Nat.zero_le _) rfl) a l.length ca (flatT l) rfl ?qc1 ?qc2 ?qc3 ?qc4 ?qc5 ?qc6 ?_)
    case qc1 => exact flatT_len l
    case qc2 =>
      intro j u hj
      exact Lib.cell?_alloc_some _ (HC.out j u hj)
    case qc3 => exact flatT_one
    case qc4 => unfold maxLen; omega
    case qc5 => omega
    case qc6 => simp
    intro v' w1 hown hgrow hnil
    have HO := Lib.hid (OwnL.of_row (show w1.ownsRow w.heap.size 32 4 v' l.length (flatT l) by simpa using hown))
    have hb : Below w.heap.size w w1 := ((Below.refl _ w).alloc (Nat.le_refl _) _).grown hgrow (by simp) (by intro k hk; simp [Value.ownBlock] at hk; omega)
    have HB := Lib.hid hb
    clear hown hgrow hnil hb
    go_wp2
    go_ret
    exact ⟨v', rfl, HO.out, HB.out⟩

theorem clone_intsO (v : Value) (l : List Int) (w : World) (hv : IntsAt w v l) (hl : l.length ≤ 1000000) :
    Calls Try.prog 34 #[v] w (fun e' w' => ∃ u, e' = .returned u ∧ OwnL w' w.heap.size 3 1 u l.length (l.map (Value.int .i64)) ∧ Below w.heap.size w w') := by
  obtain ⟨a, ca, rfl, _, hlen, hc⟩ := hv
  by_cases h0 : l = []
  · subst h0
    cases a with
    | none =>
      refine (Try.slices_Clone_int_nil _ _ w).mono ?_
      rintro e w1 ⟨rfl, rfl⟩
      exact ⟨_, rfl, OwnL.nil _ _ _ _ _, Below.refl _ _⟩
    | some a =>
      refine (Try.slices_Clone_int_zero _ _ w).mono ?_
      rintro e w1 ⟨u, rfl, ho, _, hb⟩
      exact ⟨_, rfl, OwnL.of_row ho, hb⟩
  · obtain ⟨b, o, rfl, hbw, hcl⟩ := hc h0
    refine (Try.slices_Clone_int b o l.length ca l w (Nat.le_refl _) (by omega) hcl).mono ?_
    rintro e w1 ⟨u, rfl, ho, _, hb⟩
    rw [List.take_length] at ho
    exact ⟨_, rfl, OwnL.of_row ho, hb⟩
set_option maxRecDepth 100000 in
set_option maxHeartbeats 1000000 in
theorem copyO (v : Value) (n : ByteArray) (l : List TierV) (w : World) (hv : PolAt w v n l) (hl : l.length ≤ 1000000) :
    Calls Try.prog 33 #[v] w (RetP w (fun u w' => ∃ tv, u = .agg #[.string n, tv] ∧ OwnL w' w.heap.size 32 4 tv l.length (flatT l))) := by
  obtain ⟨tv, rfl, ht⟩ := hv
  have HT := Lib.hid ht
  obtain ⟨a, c, rfl, _⟩ := ht
  go_enter Try.func33, Try.ntmps33
  go_wp2_with fail
  refine (clone_tiersO _ l _ ((HT.out.below (bel_new _ _)).below (bel_new _ _)) hl).mono ?_
  rintro e w1 ⟨u, rfl, hu, hb⟩
  have HSZ := Lib.hid hb.size
  have HU := Lib.hid hu
  obtain ⟨a2, c2, rfl⟩ := hu.form
  obtain ⟨h1, h2, hbw⟩ := two_new hb
  have HB := Lib.hid hbw
  obtain ⟨c0, c1⟩ := row2 h1
  obtain ⟨d0, d1⟩ := row2 h2
  have f1 := frozen_row (o := 1) h1
  have g0 := frozen_row (o := 0) h2
  have g1 := frozen_row (o := 1) h2
  have H2 := Lib.hid h2
  clear hu hb hbw h1 h2
  go_wp2
  have hs := HSZ.out
  simp only [World.size_alloc] at hs
  refine bodyPost_ret (v := .agg #[.string n, .slice a2 l.length c2]) (results_cell_row Try.results33 _ _ (w.heap.size + 1) 24 #[.string n, .slice a2 l.length c2] (0, 0) _ rfl (set_heap (set_heap ((set_heap_other _ (by simp)).trans H2.out) _) _) Try.underlying24 rfl (by kernel_rfl)) rfl ?_
  refine ⟨_, rfl, ⟨_, rfl, (HU.out.mono (by simp; omega)).frame (fun k hk => ?_)⟩, bel_set (bel_set (bel_set HB.out (Nat.le_refl _)) (by simp)) (by simp)⟩
  have hk2 := (HU.out.lt hk).1
  simp only [World.size_alloc] at hk2
  rw [set_heap_other _ (by dsimp only; omega), set_heap_other _ (by dsimp only; omega), set_heap_other _ (by dsimp only; omega)]

set_option maxRecDepth 100000 in
set_option maxHeartbeats 1000000 in
theorem ofO (v fv : Value) (now : Int) (n : ByteArray) (l : List TierV) (fl : List Int) (w : World) (hv : PolAt w v n l) (hf : IntsAt w fv fl) (hl : l.length ≤ 1000000) (hfl : fl.length ≤ 1000000) :
    Calls Try.prog 12 #[v, .int .i64 now, fv] w (RetP w (fun u w' => ∃ tv fv, u = .agg #[.int .i64 now, .string n, tv, fv] ∧ OwnL w' w.heap.size 32 4 tv l.length (flatT l) ∧ OwnL w' w.heap.size 3 1 fv fl.length (fl.map (Value.int .i64)))) := by
  obtain ⟨tv, rfl, ht⟩ := hv
  have HT := Lib.hid ht
  have HF := Lib.hid hf
  obtain ⟨a, c, rfl, _⟩ := ht
  obtain ⟨fa, fc, rfl, _⟩ := hf
  go_enter Try.func12, Try.ntmps12
  go_wp2_with fail
  refine (copyO _ n l _ ⟨_, rfl, (HT.out.below (bel_new _ _)).below (bel_new _ _)⟩ hl).mono ?_
  rintro e w1 ⟨u, rfl, ⟨tv, rfl, hu⟩, hb⟩
  have HU := Lib.hid hu
  have HB0 := Lib.hid hb
  obtain ⟨a2, c2, rfl⟩ := hu.form
  obtain ⟨h1, h2, hbw⟩ := two_new hb
  have HB := Lib.hid hbw
  have H2 := Lib.hid h2
  clear hu hb hbw h1 h2
  go_wp2_with fail
  refine (clone_intsO _ fl _ (HF.out.below HB.out) hfl).mono ?_
  rintro e w2 ⟨u, rfl, hu, hb⟩
  have HU2 := Lib.hid hu
  obtain ⟨a3, c3, rfl⟩ := hu.form
  have h2 := heap_step H2.out hb
  have HB2 := Lib.hid (chain HB.out hb)
  have HUb := Lib.hid (HU.out.below hb)
  have hsz := HB0.out.size
  simp only [World.size_alloc] at hsz
  have hsz2 := hb.size
  have H22 := Lib.hid h2
  obtain ⟨d0, d1, d2, d3⟩ := row4 h2
  have g0 := frozen_row (o := 0) h2
  have g1 := frozen_row (o := 1) h2
  have g2 := frozen_row (o := 2) h2
  have g3 := frozen_row (o := 3) h2
  clear hu hb h2
  go_wp2
  refine bodyPost_ret (v := .agg #[.int .i64 now, .string n, .slice a2 l.length c2, .slice a3 fl.length c3]) (results_cell_row Try.results12 _ _ (w.heap.size + 1) 34 #[.int .i64 now, .string n, .slice a2 l.length c2, .slice a3 fl.length c3] (0, 0) _ rfl (set_heap (set_heap (set_heap (set_heap H22.out _) _) _) _) Try.underlying34 rfl (by kernel_rfl)) rfl ?_
  have hfr : ∀ (k : Nat), w.heap.size + 2 ≤ k → ((((w2.setCell ⟨w.heap.size + 1, 0, none⟩ (.int .i64 now)).setCell ⟨w.heap.size + 1, 1, none⟩ (.string n)).setCell ⟨w.heap.size + 1, 2, none⟩ (.slice a2 l.length c2)).setCell ⟨w.heap.size + 1, 3, none⟩ (.slice a3 fl.length c3)).heap[k]? = w2.heap[k]? := fun k hk => by
    rw [set_heap_other _ (by dsimp only; omega), set_heap_other _ (by dsimp only; omega), set_heap_other _ (by dsimp only; omega), set_heap_other _ (by dsimp only; omega)]
  refine ⟨_, rfl, ⟨_, _, rfl, (HUb.out.mono (by simp; omega)).frame (fun k hk => hfr k (by have := (HUb.out.lt hk).1; simp only [World.size_alloc] at this; omega)), (HU2.out.mono (by omega)).frame (fun k hk => hfr k (by have := (HU2.out.lt hk).1; omega))⟩, bel_set (bel_set (bel_set (bel_set HB2.out (by simp)) (by simp)) (by simp)) (by simp)⟩

end Go.Proofs.Ytaenpcglaenlaaa
