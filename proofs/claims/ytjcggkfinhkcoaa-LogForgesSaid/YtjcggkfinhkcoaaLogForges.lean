/-
  The walk of the law LogForges.
-/
import Derived.Test.YtjcggkfinhkcoaaLogOver
import Derived.Test.YtjcggkfinhkcoaaBookShort
namespace Go.Proofs.Ytjcggkfinhkcoaa
open Go.RowKit
set_option linter.unusedVariables false
set_option linter.unusedSimpArgs false

set_option maxRecDepth 100000 in
set_option maxHeartbeats 8000000 in
theorem walkLogForgesIn (v u : Value) (old l : List ByteArray) (g : Int) (w : World) (hv : TextsAt w v old) (hu : TextsAt w u l) (hsh : shortT 16 6000 old = true) (hsh2 : shortT 16 3000 l = true) (hg : 2 ≤ g ∧ g ≤ 18446744073709551614) : Calls Try.prog 4 #[v, u, .int .u64 g] w (BoolPost w true) := by
  have HV := Lib.hid hv
  have HV2 := Lib.hid hu
  have HSH := Lib.hid hsh
  have HSH2 := Lib.hid hsh2
  have HS1 := Lib.hid (short_facts hsh)
  have HS2 := Lib.hid (short_facts hsh2)
  have hlo : old.length ≤ 16 := by have := (short_facts hsh).1; omega
  have hll : l.length ≤ 16 := by have := (short_facts hsh2).1; omega
  have HLO := Lib.hid hlo
  have HLL := Lib.hid hll
  obtain ⟨D, G, E, D2, G2, E2, j, hr1, hr2, hE, hfl, hj, hrc, hrd, he, hsm⟩ := forges_state old l g hg
  have HG := Lib.hid hg
  have HFT1 := Lib.hid (App_fit (d := DV.fresh 20) (l := old) (new_fit 2 (g - 1) 16 ⟨by decide, by decide⟩ (by decide) ⟨by omega, by omega⟩) (by omega))
  have HFT2 := Lib.hid (App_fit (d := D) (l := l) (new_fit 2 g 16 ⟨by decide, by decide⟩ (by decide) ⟨by omega, by omega⟩) (by omega))
  rw [show (LV.new 2 ((16 : Nat) : Int) (g - 1)) = LV.new 2 16 (g - 1) from rfl, hr1] at HFT1
  rw [show (LV.new 2 ((16 : Nat) : Int) g) = LV.new 2 16 g from rfl, hr2] at HFT2
  have HR1 := Lib.hid hr1
  have HR2 := Lib.hid hr2
  have HFL := Lib.hid hfl
  have HRC := Lib.hid hrc
  have HRD := Lib.hid hrd
  have HE := Lib.hid he
  have HSM := Lib.hid (fun k hk => read_size hsm k hk)
  have HJ := Lib.hid hj
  have HN1 := Lib.hid (show (LV.new 2 16 (g - 1)).fit 0 from new_fit 2 (g - 1) 16 ⟨by decide, by decide⟩ (by decide) ⟨by omega, by omega⟩)
  have HN2 := Lib.hid (show (LV.new 2 16 g).fit 0 from new_fit 2 g 16 ⟨by decide, by decide⟩ (by decide) ⟨by omega, by omega⟩)
  have hE1 : (E2 == 14) = false := by simpa using hE
  have hg1 : ¬ g < 2 := by omega
  have hg2 : (g == 18446744073709551615) = false := by rw [beq_eq_false_iff_ne]; omega
  obtain ⟨g', hg'⟩ : ∃ g', g' = g - 1 := ⟨_, rfl⟩
  rw [← hg'] at HR1 HN1 HFT1
  have hwr : IntKind.u64.wrap (g - 1) = g' := by rw [IntKind.wrap_u64]; omega
  have HG' := Lib.hid (show 0 < g' by omega)
  obtain ⟨DF, hDF⟩ : ∃ DF, DF = D2.spent.flushed := ⟨_, rfl⟩
  rw [← hDF] at HFL HRD HE HSM
  obtain ⟨a, ca, rfl, -, -, -⟩ := hv
  obtain ⟨a2, ca2, rfl, -, hl3, hl4⟩ := hu
  have hjl : (j : Int) ≤ l.length := by omega
  have hj0 : (0 : Int) ≤ j := by omega
  have hja : j ≤ l.length := hj
  have HL4 := Lib.hid hl4
  clear hsh hsh2 hr1 hr2 hfl hrc hrd he hsm hE hj hg hDF hl4 hlo hll hg'
  go_enter Try.func4, Try.ntmps4
  go_wp2_with fail
  refine (short_any 16 6000 _ old _ HV.out (by decide) (by decide)).mono ?_
  rintro e w0 ⟨rfl, hb0⟩
  have HV2 := Lib.hid (HV2.out.below hb0)
  rw [HSH.out]
  go_wp2_with fail
  refine (short_any 16 3000 _ l _ HV2.out (by decide) (by decide)).mono ?_
  rintro e w1 ⟨rfl, hb1⟩
  rw [HSH2.out]
  have HV2 := Lib.hid (HV2.out.below hb1)
  have HV := Lib.hid (HV.out.below (chain hb0 hb1))
  have HB1 := Lib.hid (chain hb0 hb1)
  have HLW := Lib.hid (fun h => by obtain ⟨b, o, e1, e2, _⟩ := HL4.out h; exact (⟨b, o, e1, Nat.lt_of_lt_of_le e2 (chain hb0 hb1).size⟩ : ∃ b o, a2 = some ⟨b, o, none⟩ ∧ b < w1.heap.size))
  clear hb0 hb1 HL4
  go_wp2_with fail
  refine (new_any 20 _ (by omega)).mono ?_
  rintro e w2 ⟨q, rfl, hD, hb2⟩
  have HD2 := Lib.hid hD
  have HB2 := Lib.hid hb2
  clear hD hb2
  go_wp2_with fail
  refine (new_yes 2 16 g' HD2.out HG'.out (by decide)).mono ?_
  rintro e w3 ⟨t, rfl, ht, hD, hbes, hb3⟩
  have H3 := Lib.hid (show LgAt w1 w3 w1.heap.size q 0 (DV.fresh 20) t (LV.new 2 16 g') from ⟨hD, hbes, chain HB2.out hb3, Nat.le_refl _, Nat.le_trans HB2.out.size ht⟩)
  clear ht hD hbes hb3
  go_wp2_with fail
  refine (App_any _ old 0 H3.out HN1.out (by have := HLO.out; omega) (tb_old H3.out HV.out) (by intro s hs; have := HS1.out.2 s hs; omega) (by have := HLO.out; omega) (by decide)).mono ?_
  rintro e w4 ⟨rfl, h4, -⟩
  rw [HR1.out] at h4
  have H4 := Lib.hid (h4.mono (show 0 + 14 * old.length ≤ 300 by have := HLO.out; omega))
  clear h4
  dsimp only at H4
  go_wp2_with fail
  refine (new_yes 2 16 g H4.out.disk (by have := HG.out; omega) (by decide)).mono ?_
  rintro e w5 ⟨t2, rfl, ht, hD, hbes, hb5⟩
  have H5 := Lib.hid (show LgAt w1 w5 w1.heap.size q 300 D t2 (LV.new 2 16 g) from ⟨hD, hbes, H4.out.bel.trans (hb5.mono H4.out.bel.size), Nat.le_refl _, Nat.le_trans H4.out.bel.size ht⟩)
  clear ht hD hbes hb5
  go_wp2_with fail
  refine (App_any _ l 0 H5.out HN2.out (by have := HLL.out; omega) (tb_old H5.out HV2.out) (by intro s hs; have := HS2.out.2 s hs; omega) (by have := HLL.out; omega) (by have h1 := HFT1.out.2.1; have h2 := HFT1.out.2.2.1; have := HLO.out; have h3 : (DV.fresh 20).writes = 0 := rfl; omega)).mono ?_
  rintro e w6 ⟨rfl, h6, -⟩
  rw [HR2.out] at h6 ⊢
  have H6 := Lib.hid (h6.mono (show 300 + 14 * l.length ≤ 600 by have := HLL.out; omega))
  clear h6
  dsimp only at H6
  go_wp2_with fail
  refine (gflush_any H6.out (by decide) (by have h1 := HFT1.out.2.1; have h2 := HFT1.out.2.2.1; have h3 := HFT2.out.2.1; have h4 := HFT2.out.2.2.1; have := HLO.out; have := HLL.out; have h3 : (DV.fresh 20).writes = 0 := rfl; omega)).mono ?_
  rintro e w7 ⟨rfl, h7, -⟩
  rw [HFL.out] at h7 ⊢
  have H7 := Lib.hid h7
  clear h7
  dsimp only at H7
  go_wp2_with fail
  refine (lread_any 2 g 16 H7.out.disk (by have := HG.out; omega) (by decide) (by decide) HSM.out).mono ?_
  rintro e w8 ⟨v8, rfl, ho8, hb8⟩
  rw [HRD.out] at ho8
  rw [HE.out]
  have H8 := Lib.hid (H7.out.step_ hb8)
  have HO8 := Lib.hid ho8
  have hlen : (l.take j).length = j := by rw [List.length_take]; have := HJ.out; omega
  obtain ⟨a8, c8, hv8⟩ := own_form ho8
  rw [hlen] at hv8
  subst hv8
  have HLN := Lib.hid hlen
  clear ho8 hb8 hlen
  go_wp2_with fail
  refine (alive_any _).mono ?_
  rintro e w9 ⟨rfl, hb9⟩
  have H9 := Lib.hid (H8.out.step_ hb9)
  have HO9 := Lib.hid (own_step HO8.out hb9)
  clear hb9 HO8
  go_wp2_with fail
  refine (len_any H9.out.bes.2).mono ?_
  rintro e w10 ⟨rfl, hb10⟩
  rw [HRC.out]
  have H10 := Lib.hid (H9.out.step_ hb10)
  have HO10 := Lib.hid (own_step HO9.out hb10)
  clear hb10 HO9
  have HT := Lib.hid (texts_of_own (l := l.take j) (by rw [HLN.out]; have := HO10.out; rw [HLN.out] at this; exact this) (by intro s hs; have := HS2.out.2 s (List.mem_of_mem_take hs); omega))
  have H11 := H10
  by_cases h0 : l = []
  · have hj0 : j = 0 := by have := HJ.out; rw [h0] at this; exact Nat.le_zero.1 this
    subst hj0
    have hll : l.length = 0 := by rw [h0]; rfl
    have hcc : ca2 ≤ 9223372036854775807 := hl3.2
    have HTL := Lib.hid (fun a => show TextsAt w10 (.slice a 0 ca2) (l.take 0) from ⟨a, ca2, rfl, by simp, ⟨by simp, hcc⟩, fun h => absurd rfl h⟩)
    clear h0
    cases a2 with
    | none =>
      go_wp2_with fail
      refine (same_texts _ _ (l.take 0) (l.take 0) _ HT.out (HTL.out _)).mono ?_
      rintro e w12 ⟨rfl, hb12⟩
      rw [show decide (l.take 0 = l.take 0) = true from decide_eq_true rfl]
      have HB12 := Lib.hid (H11.out.step_ hb12).bel
      clear hb12
      go_wp2
      go_ret
      exact ⟨rfl, chain HB1.out HB12.out⟩
    | some p =>
      go_wp2_with fail
      refine (same_texts _ _ (l.take 0) (l.take 0) _ HT.out (HTL.out _)).mono ?_
      rintro e w12 ⟨rfl, hb12⟩
      rw [show decide (l.take 0 = l.take 0) = true from decide_eq_true rfl]
      have HB12 := Lib.hid (H11.out.step_ hb12).bel
      clear hb12
      go_wp2
      go_ret
      exact ⟨rfl, chain HB1.out HB12.out⟩
  · obtain ⟨b, o, rfl, hbw⟩ := HLW.out h0
    have HTL := Lib.hid (TextsAt.take (tb_old H10.out HV2.out).1 j HJ.out (Nat.lt_of_lt_of_le hbw H10.out.bel.size))
    clear hbw h0
    go_wp2_with fail
    refine (same_texts _ _ (l.take j) (l.take j) _ HT.out HTL.out).mono ?_
    rintro e w12 ⟨rfl, hb12⟩
    rw [show decide (l.take j = l.take j) = true from decide_eq_true rfl]
    have HB12 := Lib.hid (H11.out.step_ hb12).bel
    clear hb12
    go_wp2
    go_ret
    exact ⟨rfl, chain HB1.out HB12.out⟩

theorem wfu64' {a : Int} (h : (Lit.int .u64 a).wf = true) : 0 ≤ a ∧ a ≤ 18446744073709551615 := by
  simp [Lit.wf, IntKind.bits, IntKind.signed, IntKind.min, IntKind.max] at h; omega
set_option maxRecDepth 100000 in
set_option maxHeartbeats 4000000 in
theorem walkLogForges (v : Value) (old : List ByteArray) (u : Value) (l : List ByteArray) (g : Int) (wg : (Lit.int .u64 g).wf = true) (w : World) (hv : TextsAt w v old) (hu : TextsAt w u l) : Calls Try.prog 4 #[v, u, .int .u64 g] w (BoolPost w true) := by
  have hg := wfu64' wg
  clear wg
  cases hsh : shortT 16 6000 old with
  | true =>
    cases hsh2 : shortT 16 3000 l with
    | true =>
      by_cases hin : 2 ≤ g ∧ g ≤ 18446744073709551614
      · exact walkLogForgesIn v u old l g w hv hu hsh hsh2 hin
      · have HV := Lib.hid hv
        have HV2 := Lib.hid hu
        have HSH := Lib.hid hsh
        have HSH2 := Lib.hid hsh2
        clear hv hu hsh hsh2
        by_cases q1 : g < 2
        · clear hin
          go_enter Try.func4, Try.ntmps4
          go_wp2_with fail
          refine (short_any 16 6000 _ old _ HV.out (by decide) (by decide)).mono ?_
          rintro e w0 ⟨rfl, hb0⟩
          have HV2 := Lib.hid (HV2.out.below hb0)
          rw [HSH.out]
          go_wp2_with fail
          refine (short_any 16 3000 _ l _ HV2.out (by decide) (by decide)).mono ?_
          rintro e w1 ⟨rfl, hb1⟩
          rw [HSH2.out]
          go_wp2_with fail
          refine (alive_any _).mono ?_
          rintro e w2 ⟨rfl, hb2⟩
          go_wp2
          go_ret
          exact ⟨rfl, chain (chain hb0 hb1) hb2⟩
        · have q2 : g = 18446744073709551615 := by omega
          subst q2
          clear hin
          go_enter Try.func4, Try.ntmps4
          go_wp2_with fail
          refine (short_any 16 6000 _ old _ HV.out (by decide) (by decide)).mono ?_
          rintro e w0 ⟨rfl, hb0⟩
          have HV2 := Lib.hid (HV2.out.below hb0)
          rw [HSH.out]
          go_wp2_with fail
          refine (short_any 16 3000 _ l _ HV2.out (by decide) (by decide)).mono ?_
          rintro e w1 ⟨rfl, hb1⟩
          rw [HSH2.out]
          go_wp2_with fail
          refine (alive_any _).mono ?_
          rintro e w2 ⟨rfl, hb2⟩
          go_wp2
          go_ret
          exact ⟨rfl, chain (chain hb0 hb1) hb2⟩
    | false =>
      have HV := Lib.hid hv
      have HV2 := Lib.hid hu
      have HSH := Lib.hid hsh
      have HSH2 := Lib.hid hsh2
      clear hv hu hsh hsh2
      go_enter Try.func4, Try.ntmps4
      go_wp2_with fail
      refine (short_any 16 6000 _ old _ HV.out (by decide) (by decide)).mono ?_
      rintro e w0 ⟨rfl, hb0⟩
      have HV2 := Lib.hid (HV2.out.below hb0)
      rw [HSH.out]
      go_wp2_with fail
      refine (short_any 16 3000 _ l _ HV2.out (by decide) (by decide)).mono ?_
      rintro e w1 ⟨rfl, hb1⟩
      rw [HSH2.out]
      go_wp2_with fail
      refine (alive_any _).mono ?_
      rintro e w2 ⟨rfl, hb2⟩
      go_wp2
      go_ret
      exact ⟨rfl, chain (chain hb0 hb1) hb2⟩
  | false =>
    have HV := Lib.hid hv
    have HV2 := Lib.hid hu
    have HSH := Lib.hid hsh
    clear hv hu hsh
    go_enter Try.func4, Try.ntmps4
    go_wp2_with fail
    refine (short_any 16 6000 _ old _ HV.out (by decide) (by decide)).mono ?_
    rintro e w0 ⟨rfl, hb0⟩
    have HV2 := Lib.hid (HV2.out.below hb0)
    rw [HSH.out]
    go_wp2_with fail
    refine (alive_any _).mono ?_
    rintro e w2 ⟨rfl, hb2⟩
    go_wp2
    go_ret
    exact ⟨rfl, chain hb0 hb2⟩
end Go.Proofs.Ytjcggkfinhkcoaa
