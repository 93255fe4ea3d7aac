/-
  The walk of the law LogWhole.
-/
import Derived.Test.YtjcggkfinhkcoaaLogAll
import Derived.Test.YtjcggkfinhkcoaaLogLight
namespace Go.Proofs.Ytjcggkfinhkcoaa
open Go.RowKit
set_option linter.unusedVariables false
set_option linter.unusedSimpArgs false

theorem sumT_le (l : List OpV) (k : Nat) : sumT l k ≤ sumT l l.length := by
  unfold sumT
  rw [List.take_length]
  conv => rhs; rw [← List.take_append_drop k l, List.map_append, List.sum_append]
  exact Nat.le_add_right _ _
theorem flat_many (g : Int) : ∀ (A : List ByteArray) (nb : Nat), A.length ≤ (flatR g nb A).length
  | [], _ => Nat.zero_le _
  | x :: A, nb => by
    show A.length + 1 ≤ (layL g nb x ++ flatR g (nb + 1) A).length
    rw [List.length_append, layL_len]
    have := flat_many g A (nb + 1)
    have : 1 ≤ blks x.size := by unfold blks; split <;> omega
    omega
/-- Phase two: R handed over, m of them flushed; k records at the most were tried, in i steps. -/
structure PH (D : DV) (G : LV) (R old : List ByteArray) (m k i : Nat) : Prop where
  st : ST D G R old (flatR 8 0 (R.take m)).length
  le : m ≤ R.length
  fit : G.fit k
  wr : 0 ≤ D.writes ∧ D.writes ≤ 300000 + 14 * k + i
theorem PH.few {D : DV} {G : LV} {R old : List ByteArray} {m k i : Nat} (h : PH D G R old m k i) : R.length ≤ 16 ∧ ∀ s ∈ R, s.size ≤ 3000 := by
  have := flat_many 8 R 0
  rcases h.st with h | h
  · exact ⟨by have := h.le; omega, h.hz⟩
  · exact ⟨by have := h.le; omega, h.hz⟩
theorem PH.more {D : DV} {G : LV} {R old : List ByteArray} {m k i k' i' : Nat} (h : PH D G R old m k i) (hk : k ≤ k') (hi : i ≤ i') : PH D G R old m k' i' :=
  ⟨h.st, h.le, ⟨h.fit.1, h.fit.2.1, by have := h.fit.2.2; omega⟩, by have := h.wr; omega⟩
theorem PH.app {D : DV} {G : LV} {R old : List ByteArray} {m k i : Nat} (h : PH D G R old m k i) (ho : D.on = true) (s : ByteArray) (hk : k ≤ 800000) :
    ∃ D' G' E, G.App D [s] = (D', G', E) ∧ ((E ≠ 0 ∧ E ≠ 14 ∧ PH D' G' R old m (k + 1) i) ∨ (E = 0 ∧ PH D' G' (R ++ [s]) old m (k + 1) i) ∨ (E = 14 ∧ PH D' G' (R ++ [s]) old m (k + 1) i)) := by
  have hW := h.st.on ho
  have ha := hW.app s
  have hf := App_fit (d := D) (l := [s]) h.fit (by simp; omega)
  rw [← App_one D s hW.bad] at ha
  obtain ⟨D', G', E, e⟩ : ∃ D' G' E, G.App D [s] = (D', G', E) := ⟨_, _, _, rfl⟩
  rw [e] at ha hf
  dsimp only at ha hf
  simp only [List.length_singleton] at hf
  have hfit : G'.fit ((k + 1 : Nat) : Int) := ⟨hf.1.1, hf.1.2.1, by have := hf.1.2.2; omega⟩
  have hwr : 0 ≤ D'.writes ∧ D'.writes ≤ 300000 + 14 * ((k + 1 : Nat) : Int) + i := by have := h.wr; omega
  have ht : (R ++ [s]).take m = R.take m := List.take_append_of_le_length h.le
  have hl : m ≤ (R ++ [s]).length := by have := h.le; rw [List.length_append]; omega
  refine ⟨D', G', E, e, ?_⟩
  rcases ha with ⟨a, b, c⟩ | ⟨a, c⟩ | ⟨a, c⟩
  · exact .inl ⟨a, b, ⟨.inl c, h.le, hfit, hwr⟩⟩
  · exact .inr (.inl ⟨a, ⟨by rw [ht]; exact .inl c, hl, hfit, hwr⟩⟩)
  · exact .inr (.inr ⟨a, ⟨by rw [ht]; exact .inr c, hl, hfit, hwr⟩⟩)
theorem PH.flush {D : DV} {G : LV} {R old : List ByteArray} {m k i : Nat} (h : PH D G R old m k i) (ho : D.on = true) :
    ∃ D' G' E, G.flush D = (D', G', E) ∧ ((E = 0 ∧ PH D' G' R old R.length k (i + 1)) ∨ (E = 14 ∧ PH D' G' R old m k (i + 1))) := by
  have hW := h.st.on ho
  have ha := hW.flush
  have hf := flush_fit D h.fit
  obtain ⟨D', G', E, e⟩ : ∃ D' G' E, G.flush D = (D', G', E) := ⟨_, _, _, rfl⟩
  rw [e] at ha hf
  dsimp only at ha hf
  have hwr : 0 ≤ D'.writes ∧ D'.writes ≤ 300000 + 14 * (k : Int) + ((i + 1 : Nat) : Int) := by have := h.wr; omega
  refine ⟨D', G', E, e, ?_⟩
  rcases ha with ⟨a, c⟩ | ⟨a, c⟩
  · exact .inl ⟨a, ⟨by rw [List.take_length]; exact .inl c, Nat.le_refl _, hf.1, hwr⟩⟩
  · exact .inr ⟨a, ⟨.inr c, h.le, hf.1, hwr⟩⟩

theorem one_size {s : ByteArray} {N : Nat} (h : s.size ≤ N) : ∀ k, k < [s].length → ([s].getD k ByteArray.empty).size ≤ N
  | 0, _ => h
  | k + 1, hk => absurd hk (by simp)
set_option maxRecDepth 100000 in
set_option maxHeartbeats 16000000 in
theorem walkLogWholeIn (v0 : Value) (old : List OpV) (v1 : Value) (l : List OpV) (n : Int) (v3 : Value) (keep : List Int) (w : World) (i0 : OpsAt w v0 old) (i1 : OpsAt w v1 l) (i3 : IntsAt w v3 keep)
    (hz : ∀ X ∈ l, ∀ s ∈ X.texts, s.size ≤ 140737488351232) (hn : 0 ≤ n ∧ n ≤ 100) (hkl : keep.length ≤ 100) : Calls Try.prog 6 #[v0, v1, .int .i64 n, v3] w (BoolPost w true) := by
  obtain ⟨j0, hj, jz0, jz1, jz2⟩ := info_parts info_strS
  have HV0 := Lib.hid i0
  have HV1 := Lib.hid i1
  have HV3 := Lib.hid i3
  have HZ := Lib.hid hz
  have HKL := Lib.hid hkl
  obtain ⟨a0, ca0, rfl, _, _⟩ := i0
  obtain ⟨a1, ca1, rfl, _, _⟩ := i1
  obtain ⟨a3, ca3, rfl, _, _, _⟩ := i3
  have hkl' : (keep.length : Int) ≤ 100 := by omega
  clear hz
  go_enter Try.func6, Try.ntmps6
  go_wp2_with fail
  refine (light_any _ old _ HV0.out).mono ?_
  rintro e w0 ⟨b1, rfl, hb0, hl1⟩
  have HL1 := Lib.hid hl1
  have HB0 := Lib.hid hb0
  clear hb0 hl1
  cases b1
  · go_wp2_with fail
    refine (alive_any _).mono ?_
    rintro e w2 ⟨rfl, hb2⟩
    go_wp2
    go_ret
    exact ⟨rfl, chain HB0.out hb2⟩
  go_wp2_with fail
  refine (light_any _ l _ (HV1.out.below HB0.out)).mono ?_
  rintro e w1 ⟨b2, rfl, hb1, hl2⟩
  have HL2 := Lib.hid hl2
  have HB1 := Lib.hid (chain HB0.out hb1)
  clear hb1 hl2
  cases b2
  · go_wp2_with fail
    refine (alive_any _).mono ?_
    rintro e w2 ⟨rfl, hb2⟩
    go_wp2
    go_ret
    exact ⟨rfl, chain HB1.out hb2⟩
  have HF0 := Lib.hid (HL1.out (by first | rfl | trivial))
  have HF1 := Lib.hid (HL2.out (by first | rfl | trivial))
  have hlo : (old.length : Int) ≤ 50 := by have := HF0.out.1; omega
  have hll : (l.length : Int) ≤ 50 := by have := HF1.out.1; omega
  have HVa := Lib.hid (HV0.out.below HB1.out)
  have HVb := Lib.hid (HV1.out.below HB1.out)
  have HVk := Lib.hid (HV3.out.below HB1.out)
  clear HL1 HL2 HV0 HV1 HV3
  go_wp2_with fail
  refine (new_any 24 _ (by omega)).mono ?_
  rintro e w2 ⟨q, rfl, hD, hb2⟩
  have HD2 := Lib.hid hD
  have HB2 := Lib.hid hb2
  clear hD hb2
  go_wp2_with fail
  refine (new_yes 2 16 7 HD2.out (by decide) (by decide)).mono ?_
  rintro e w3 ⟨t, rfl, ht, hD, hbes, hb3⟩
  have H3 := Lib.hid (show LgAt w1 w3 w1.heap.size q 0 (DV.fresh 24) t (LV.new 2 16 7) from ⟨hD, hbes, chain HB2.out hb3, Nat.le_refl _, Nat.le_trans HB2.out.size ht⟩)
  clear ht hD hbes hb3
  go_wp2
  go_loopw [12] (fun x wr => ∃ (k : Nat) (D : DV) (G : LV), k ≤ old.length ∧ x = .int .i64 k ∧ Hid (LgAt w1 wr w1.heap.size q (14 * sumT old k) D t G) ∧ Hid (P1 D G (sumT old k) k)) (fun x _ => old.length - (intOf x).toNat)
  case atStart => exact ⟨0, DV.fresh 24, LV.new 2 16 7, Nat.zero_le _, rfl, Lib.hid (by simpa [sumT] using H3.out), Lib.hid (by simpa [sumT] using P1.new)⟩
  case round =>
    obtain ⟨k, D, G, hk, rfl, HG, HP⟩ := hrel
    have HST := Lib.hid (sumT_le old k)
    by_cases hlt : k < old.length
    · obtain ⟨b, o, tv, kv, rfl, hX0⟩ := HVa.out.nth hlt
      have HSU := Lib.hid (sumT_succ hlt)
      have HST1 := Lib.hid (sumT_le old (k + 1))
      have HFW := Lib.hid (HF0.out.2.2 k hlt)
      obtain ⟨X, hXe⟩ : ∃ X, X = old.getD k OpV.zero := ⟨_, rfl⟩
      rw [← hXe] at hX0 HSU HFW
      obtain ⟨ta, tc, rfl, _, htl, _⟩ := hX0.texts
      have HX0 := Lib.hid hX0
      have q2 := (hX0.below HG.out.bel).c2
      have hbd : sumT old k + X.texts.length ≤ 20000 := by have := HSU.out; have := HST1.out; have := HF0.out.2.1; omega
      have HBD := Lib.hid hbd
      obtain ⟨D', G', E, hr, hfl, hp, hw0, hw1⟩ := HP.out.app X.texts (by omega)
      have HR := Lib.hid hr
      have HFL := Lib.hid hfl
      have HP' := Lib.hid hp
      have HW' := Lib.hid (And.intro hw0 hw1)
      have hk50 : k ≤ 50 := by omega
      have HK50 := Lib.hid hk50
      clear hX0 hXe hr hfl hp hw0 hw1 hbd htl hk50
      go_wp2_with fail
      refine (App_every (.slice ta X.texts.length tc) X.texts (sumT old k) HG.out HP.out.fit (by have := HBD.out; omega) (tb_old HG.out HX0.out.texts) (fun i hi h0 => by have h1 := HP.out.few _ i hi h0; have := HFW.out i (by omega) hi; omega) (by have := HBD.out; omega) (by have := HP.out.wr; have := HBD.out; have := HK50.out; omega)).mono ?_
      rintro e w4 ⟨rfl, h4, -⟩
      rw [HR.out] at h4
      have H4 := Lib.hid h4
      clear h4
      dsimp only at H4
      go_wp2_with fail
      refine (gflush_any H4.out (by have := HBD.out; omega) (by have := HW'.out; have := HBD.out; have := HK50.out; omega)).mono ?_
      rintro e w5 ⟨rfl, h5, -⟩
      rw [HFL.out] at h5
      have H5 := Lib.hid h5
      clear h5
      dsimp only at H5
      go_wp2
      go_roundw
      case rel => exact ⟨k + 1, D'.spent.flushed, G', hlt, by go_num, Lib.hid (H5.out.mono (show 14 * sumT old k + 14 * X.texts.length ≤ 14 * sumT old (k + 1) by have := HSU.out; omega)), Lib.hid (by rw [HSU.out]; have := HP'.out; rw [Int.natCast_add, Int.natCast_add]; exact this)⟩
      case measure => simp [intOf]; omega
    · have H4 := Lib.hid (HG.out.mono (show 14 * sumT old k ≤ 280000 by have := HST.out; have := HF0.out.2.1; omega))
      have HWD := Lib.hid (show 0 ≤ D.writes ∧ D.writes ≤ 290000 by have := HP.out.wr; have := HST.out; have := HF0.out.2.1; omega)
      have hov := HP.out.over n keep
      obtain ⟨od, hod⟩ : ∃ od, od = blkN D 2 16 := ⟨_, rfl⟩
      rw [← hod] at hov
      have HOV := Lib.hid hov
      have HN2 := Lib.hid (show (LV.new 2 16 8).fit 0 from new_fit 2 8 16 ⟨by decide, by decide⟩ (by decide) ⟨by decide, by decide⟩)
      clear hov hod HP HG HST HF0 HVa
      go_wp2_with fail
      refine (new_yes 2 16 8 H4.out.disk (by decide) (by decide)).mono ?_
      rintro e w5 ⟨t2, rfl, ht, hD, hbes, hb5⟩
      have H5 := Lib.hid (show LgAt w1 w5 w1.heap.size q 280000 D t2 (LV.new 2 16 8) from ⟨hD, hbes, H4.out.bel.trans (hb5.mono H4.out.bel.size), Nat.le_refl _, Nat.le_trans H4.out.bel.size ht⟩)
      clear ht hD hbes hb5 H4 H3
      go_wp2_with fail
      refine (arm_any n (.slice a3 keep.length ca3) keep H5.out.disk (HVk.out.below H5.out.bel) (by unfold I64; omega) (by have := HKL.out; omega)).mono ?_
      rintro e w6 ⟨rfl, hd6, hs6⟩
      have H6 := Lib.hid (H5.out.ret hd6 hs6)
      have HPH := Lib.hid (show PH (D.arm n keep) (LV.new 2 16 8) [] od 0 0 0 from ⟨.inl HOV.out.1, Nat.le_refl _, HN2.out, by have := HWD.out; show 0 ≤ D.writes ∧ D.writes ≤ _; omega⟩)
      have HOS := Lib.hid HOV.out.2
      obtain ⟨D6, hD6⟩ : ∃ D6, D6 = D.arm n keep := ⟨_, rfl⟩
      rw [← hD6] at H6 HPH
      clear hd6 hs6 hD6 HOV HWD H5 HN2
      go_wp2
      go_loopw [13, 14, 15] (fun al fl x wr => ∃ (k m : Nat) (R : List ByteArray) (D : DV) (G : LV), k ≤ l.length ∧ x = .int .i64 k ∧ fl = .int .i64 m ∧ Hid (AllAt wr w1.heap.size q t2 al R) ∧ Hid (LgAt w1 wr w1.heap.size q (280000 + 14 * sumT l k) D t2 G) ∧ Hid (PH D G R od m (sumT l k) k)) (fun _ _ x _ => l.length - (intOf x).toNat)
      case atStart => exact ⟨0, 0, [], D6, LV.new 2 16 8, Nat.zero_le _, rfl, rfl, Lib.hid (AllAt.nil _ _ _ _), Lib.hid (by simpa [sumT] using H6.out), Lib.hid (by simpa [sumT] using HPH.out)⟩
      case round =>
        obtain ⟨k, m, R, D, G, hk, rfl, rfl, HA, HG, HP⟩ := hrel
        have HST := Lib.hid (sumT_le l k)
        obtain ⟨bon, hbon⟩ : ∃ b, b = D.on := ⟨_, rfl⟩
        have HON := Lib.hid hbon
        clear hbon
        by_cases hlt : k < l.length
        · obtain ⟨b, o, tv, kv, rfl, hX0⟩ := HVb.out.nth hlt
          have HSU := Lib.hid (sumT_succ hlt)
          have HST1 := Lib.hid (sumT_le l (k + 1))
          obtain ⟨X, hXe⟩ : ∃ X, X = l.getD k OpV.zero := ⟨_, rfl⟩
          have HZX := Lib.hid (show ∀ s ∈ X.texts, s.size ≤ 140737488351232 from HZ.out X (by rw [hXe, List.getD_eq_getElem?_getD, List.getElem?_eq_getElem hlt]; exact List.getElem_mem hlt))
          rw [← hXe] at hX0 HSU
          obtain ⟨ta, tc, rfl, _, htl, _⟩ := hX0.texts
          have HX0 := Lib.hid hX0
          have q0 := (hX0.below HG.out.bel).c0
          have q2 := (hX0.below HG.out.bel).c2
          have hbd : sumT l k + X.texts.length ≤ 20000 := by have := HSU.out; have := HST1.out; have := HF1.out.2.1; omega
          have HBD := Lib.hid hbd
          have hk50 : k ≤ 50 := by omega
          have HK50 := Lib.hid hk50
          have htl' : (X.texts.length : Int) ≤ 20000 := by omega
          clear hXe hbd htl hk50
          go_wp2_with fail
          refine (on_any HG.out.disk).mono ?_
          rintro e w7 ⟨rfl, hb7⟩
          rw [← HON.out]
          have H7 := Lib.hid (HG.out.step_ hb7)
          have HA7 := Lib.hid (HA.out.step (HG.out.lstep hb7))
          have q0 := cell_step q0 hb7
          have q2 := cell_step q2 hb7
          clear hb7
          cases bon with
          | true =>
            obtain ⟨K, hK9⟩ : ∃ K, K = X.kind := ⟨_, rfl⟩
            rw [← hK9] at q0
            by_cases e1 : K = 1
            · subst e1
              have HQ2 := Lib.hid (fun (w' : World) (hb : Below w1.heap.size w1 w') => (HX0.out.below hb).c2)
              clear hX0 hK9
              go_wp2
              go_loopw [13, 16] (fun al kk wr => ∃ (j : Nat) (R2 : List ByteArray) (D2 : DV) (G2 : LV), j ≤ X.texts.length ∧ kk = .int .i64 j ∧ Hid (AllAt wr w1.heap.size q t2 al R2) ∧ Hid (LgAt w1 wr w1.heap.size q (280000 + 14 * (sumT l k + j)) D2 t2 G2) ∧ Hid (PH D2 G2 R2 od m (sumT l k + j) k)) (fun _ x _ => X.texts.length - (intOf x).toNat)
              case atStart => exact ⟨0, R, D, G, Nat.zero_le _, rfl, HA7, H7, HP⟩
              case round =>
                obtain ⟨j, R2, D2, G2, hjl, rfl, HA2, HG2, HP2⟩ := hrel
                obtain ⟨bon2, hbon2⟩ : ∃ b, b = D2.on := ⟨_, rfl⟩
                have HON2 := Lib.hid hbon2
                clear hbon2
                have q2 := HQ2.out wr HG2.out.bel
                by_cases hjt : j < X.texts.length
                · obtain ⟨bt, ot, rfl, hcl⟩ : ∃ bt ot, ta = some ⟨bt, ot, none⟩ ∧ ∀ w', Below w1.heap.size w1 w' → w'.cell? ⟨bt, ot + j, none⟩ = some (.string (X.texts.getD j ByteArray.empty)) := by
                    obtain ⟨a', c', e1, e2, _, e4⟩ := HX0.out.texts
                    obtain ⟨b, o, e5, e6, e7⟩ := e4 (fun h => by rw [h] at hjt; exact absurd hjt (Nat.not_lt_zero _))
                    injection e1 with e1 _ _
                    exact ⟨b, o, by rw [e1, e5], fun w' hb => (hb.cell (p := ⟨b, o + j, none⟩) e6).trans (e7 j hjt)⟩
                  have HS := Lib.hid (HZX.out (X.texts.getD j ByteArray.empty) (getD_mem hjt))
                  obtain ⟨s, hs⟩ : ∃ s, s = X.texts.getD j ByteArray.empty := ⟨_, rfl⟩
                  rw [← hs] at hcl HS
                  have HCL := Lib.hid hcl
                  clear hs hcl
                  go_wp2_with fail
                  refine (on_any HG2.out.disk).mono ?_
                  rintro e w8 ⟨rfl, hb8⟩
                  rw [← HON2.out]
                  have H8 := Lib.hid (HG2.out.step_ hb8)
                  have HA8 := Lib.hid (HA2.out.step (HG2.out.lstep hb8))
                  clear hb8
                  cases bon2 with
                  | true =>
                    obtain ⟨D', G', E, hr, hc⟩ := HP2.out.app HON2.out.symm s (by have := HBD.out; omega)
                    have HR := Lib.hid hr
                    have HC := Lib.hid hc
                    have hcl2 := HCL.out w8 H8.out.bel
                    have q2 := HQ2.out w8 H8.out.bel
                    have HSZ := Lib.hid (show s.size ≤ 9223372036854775807 by have := HS.out; omega)
                    clear hr hc
                    go_wp2_with fail
                    have hTB := tb_new (l := [s]) (cap := 1) H8.out (cs := #[.string s]) (T := 9) rfl (by intro y hy; simp at hy; rw [hy]; exact HSZ.out) (by simp)
                    refine (App_every _ [s] (sumT l k + j : Nat) (H8.out.step_ (bel_new _ _)) HP2.out.fit (by have := HBD.out; simp; omega) hTB (fun i hi _ => one_size HS.out i hi) (by have := HBD.out; simp; omega) (by have := HP2.out.wr; have := HBD.out; have := HK50.out; omega)).mono ?_
                    rintro e w9 ⟨rfl, h9, s9⟩
                    rw [HR.out] at h9 ⊢
                    have H9 := Lib.hid h9
                    have HA9 := Lib.hid ((HA8.out.step (H8.out.lstep (bel_new w8 (.cells #[.string s] 9)))).step s9)
                    clear h9 s9 hTB q2 hcl2
                    dsimp only at H9
                    rcases HC.out with ⟨hE0, hE1, hP⟩ | ⟨hE, hP⟩ | ⟨hE, hP⟩
                    · have HP9 := Lib.hid hP
                      have hE0' : (E == 0) = false := by simpa using hE0
                      have hE1' : (E == 14) = false := by simpa using hE1
                      clear hP hE0 hE1
                      go_wp2
                      go_roundw
                      case rel => exact ⟨j + 1, R2, D', G', hjt, by go_num, HA9, Lib.hid (H9.out.mono (show 280000 + 14 * (sumT l k + j) + 14 * 1 ≤ 280000 + 14 * (sumT l k + (j + 1)) by omega)), HP9⟩
                      case measure => simp [intOf]; omega
                    · subst hE
                      have HP9 := Lib.hid hP
                      clear hP
                      have hcl2 := HCL.out w9 H9.out.bel
                      have q2 := HQ2.out w9 H9.out.bel
                      obtain ⟨av, ac, hav⟩ := own_form HA9.out.row
                      subst hav
                      have hsz9 : w1.heap.size ≤ w9.heap.size := H9.out.bel.size
                      have hR16 : R2.length ≤ 16 := HP2.out.few.1
                      go_wp2_with (at_builtin; refine wpList_append_lies _ rfl (.tmp 142) (.tmp 151) 35 rfl w1.heap.size 9 j0 (.string ByteArray.empty) 1 16 Try.underlying35 hj jz0 jz1 jz2 rfl (by decide) _ R2.length (R2.map Value.string) rfl (HA9.out.row.alloc _) ⟨w9.heap.size, 0, none⟩ 1 1 [.string s] rfl rfl ?c1 ?c2 (by decide) ?c3 ?c4 ?c5 (w9.heap.size + 1) ?c6 ?_)
                      case c1 => exact one_cell _ _ _
                      case c2 => simp [Value.oneCell']
                      case c3 => unfold maxLen; omega
                      case c4 => omega
                      case c5 => simp; omega
                      case c6 => simp
                      intro g3 cp w10 hown hg3 hat hlt3
                      have hput := AllAt.put (HA9.out.step (H9.out.lstep (bel_new w9 (.cells #[.string s] 9)))) (H9.out.step_ (bel_new w9 (.cells #[.string s] 9))) (Nat.le_refl _) hown hg3 (by simpa using hat)
                      have H10 := Lib.hid hput.1
                      have HA10 := Lib.hid hput.2
                      clear hput hown hg3 hat hlt3 q2 hcl2
                      go_wp2
                      go_roundw
                      case rel => exact ⟨j + 1, R2 ++ [s], D', G', hjt, by go_num, HA10, Lib.hid (H10.out.mono (show 280000 + 14 * (sumT l k + j) + 14 * 1 ≤ 280000 + 14 * (sumT l k + (j + 1)) by omega)), HP9⟩
                      case measure => simp [intOf]; omega
                    · subst hE
                      have HP9 := Lib.hid hP
                      clear hP
                      have hcl2 := HCL.out w9 H9.out.bel
                      have q2 := HQ2.out w9 H9.out.bel
                      obtain ⟨av, ac, hav⟩ := own_form HA9.out.row
                      subst hav
                      have hsz9 : w1.heap.size ≤ w9.heap.size := H9.out.bel.size
                      have hR16 : R2.length ≤ 16 := HP2.out.few.1
                      go_wp2_with (at_builtin; refine wpList_append_lies _ rfl (.tmp 142) (.tmp 151) 35 rfl w1.heap.size 9 j0 (.string ByteArray.empty) 1 16 Try.underlying35 hj jz0 jz1 jz2 rfl (by decide) _ R2.length (R2.map Value.string) rfl (HA9.out.row.alloc _) ⟨w9.heap.size, 0, none⟩ 1 1 [.string s] rfl rfl ?c1 ?c2 (by decide) ?c3 ?c4 ?c5 (w9.heap.size + 1) ?c6 ?_)
                      case c1 => exact one_cell _ _ _
                      case c2 => simp [Value.oneCell']
                      case c3 => unfold maxLen; omega
                      case c4 => omega
                      case c5 => simp; omega
                      case c6 => simp
                      intro g3 cp w10 hown hg3 hat hlt3
                      have hput := AllAt.put (HA9.out.step (H9.out.lstep (bel_new w9 (.cells #[.string s] 9)))) (H9.out.step_ (bel_new w9 (.cells #[.string s] 9))) (Nat.le_refl _) hown hg3 (by simpa using hat)
                      have H10 := Lib.hid hput.1
                      have HA10 := Lib.hid hput.2
                      clear hput hown hg3 hat hlt3 q2 hcl2
                      go_wp2
                      go_roundw
                      case rel => exact ⟨j + 1, R2 ++ [s], D', G', hjt, by go_num, HA10, Lib.hid (H10.out.mono (show 280000 + 14 * (sumT l k + j) + 14 * 1 ≤ 280000 + 14 * (sumT l k + (j + 1)) by omega)), HP9⟩
                      case measure => simp [intOf]; omega
                  | false =>
                    go_wp2
                    go_roundw
                    case rel => exact ⟨k + 1, m, R2, D2, G2, hlt, by go_num, rfl, HA8, Lib.hid (H8.out.mono (show 280000 + 14 * (sumT l k + j) ≤ 280000 + 14 * sumT l (k + 1) by have := HSU.out; omega)), Lib.hid (HP2.out.more (by have := HSU.out; omega) (Nat.le_succ _))⟩
                    case measure => simp [intOf]; omega
                · go_wp2
                  go_roundw
                  case rel => exact ⟨k + 1, m, R2, D2, G2, hlt, by go_num, rfl, HA2, Lib.hid (HG2.out.mono (show 280000 + 14 * (sumT l k + j) ≤ 280000 + 14 * sumT l (k + 1) by have := HSU.out; omega)), Lib.hid (HP2.out.more (by have := HSU.out; omega) (Nat.le_succ _))⟩
                  case measure => simp [intOf]; omega
            · have e1' : (K == 1) = false := by simpa using e1
              obtain ⟨D', G', E, hr, hc⟩ := HP.out.flush HON.out.symm
              have HR := Lib.hid hr
              have HC := Lib.hid hc
              clear hr hc hX0 hK9
              go_wp2_with fail
              refine (gflush_any H7.out (by have := HBD.out; omega) (by have := HP.out.wr; have := HBD.out; have := HK50.out; omega)).mono ?_
              rintro e w8 ⟨rfl, h8, s8⟩
              rw [HR.out] at h8 ⊢
              have H8 := Lib.hid h8
              have HA8 := Lib.hid (HA7.out.step s8)
              clear h8 s8
              dsimp only at H8
              rcases HC.out with ⟨hE, hP⟩ | ⟨hE, hP⟩
              · subst hE
                have HP8 := Lib.hid hP
                obtain ⟨av, ac, rfl⟩ := own_form HA.out.row
                have hR16 : (R.length : Int) ≤ 16 := by have := HP.out.few.1; omega
                clear hP
                go_wp2
                go_roundw
                case rel => exact ⟨k + 1, R.length, R, D', G', hlt, by go_num, rfl, HA8, Lib.hid (H8.out.mono (show 280000 + 14 * sumT l k ≤ 280000 + 14 * sumT l (k + 1) by have := HSU.out; omega)), Lib.hid (HP8.out.more (by have := HSU.out; omega) (Nat.le_refl _))⟩
                case measure => simp [intOf]; omega
              · subst hE
                have HP8 := Lib.hid hP
                clear hP
                go_wp2
                go_roundw
                case rel => exact ⟨k + 1, m, R, D', G', hlt, by go_num, rfl, HA8, Lib.hid (H8.out.mono (show 280000 + 14 * sumT l k ≤ 280000 + 14 * sumT l (k + 1) by have := HSU.out; omega)), Lib.hid (HP8.out.more (by have := HSU.out; omega) (Nat.le_refl _))⟩
                case measure => simp [intOf]; omega
          | false =>
            have HCC := Lib.hid (show 280000 + 14 * sumT l k ≤ 1000000 by have := HBD.out; omega)
            clear q0 q2 hX0
            go_wp2_with fail
            refine (on_any H7.out.disk).mono ?_
            rintro e w8 ⟨rfl, hb8⟩
            rw [← HON.out]
            have H8 := Lib.hid (H7.out.step_ hb8)
            have HA8 := Lib.hid (HA7.out.step (H7.out.lstep hb8))
            clear hb8
            go_wp2_with fail
            refine (arm_any (-1) (.slice none 0 0) [] H8.out.disk (ints_nil _) (by unfold I64; omega) (by decide)).mono ?_
            rintro e w9 ⟨rfl, hd9, hs9⟩
            have H9 := Lib.hid (H8.out.ret hd9 hs9)
            have HA9 := Lib.hid (HA8.out.step (LStep.of hs9))
            clear hd9 hs9
            go_wp2_with fail
            refine (cut_any (.slice a3 keep.length ca3) keep H9.out.disk (keep_arg H9.out.disk HVk.out H9.out.bel (Nat.le_refl _)) (by have := HCC.out; omega)).mono ?_
            rintro e w10 ⟨rfl, hd10, hs10⟩
            have H10 := Lib.hid (H9.out.ret hd10 hs10)
            have HA10 := Lib.hid (HA9.out.step (LStep.of hs10))
            clear hd10 hs10
            go_wp2_with fail
            refine (restore_any H10.out.disk).mono ?_
            rintro e w11 ⟨rfl, hd11, hs11⟩
            have H11 := Lib.hid (show LgAt w1 w11 w1.heap.size q (280000 + 14 * sumT l k) (D.back keep) t2 G from H10.out.ret hd11 hs11)
            have HA11 := Lib.hid (HA10.out.step (LStep.of hs11))
            clear hd11 hs11
            obtain ⟨hsm, hr0, her, j, hjm, hjR, hrd⟩ := HP.out.st.back keep rfl HP.out.le HOS.out
            obtain ⟨DB, hDB⟩ : ∃ DB, DB = D.back keep := ⟨_, rfl⟩
            rw [← hDB] at H11 hsm hr0 her hrd
            obtain ⟨Y, hY⟩ : ∃ Y, Y = R.take j := ⟨_, rfl⟩
            rw [← hY] at hrd
            have HY := Lib.hid hY
            have HYZ := Lib.hid (show ∀ s ∈ Y, s.size ≤ 9223372036854775807 from fun s hs => by rw [hY] at hs; have := HP.out.few.2 s (List.mem_of_mem_take hs); omega)
            have HSM := Lib.hid (fun i hi => read_size hsm i hi)
            have HR0 := Lib.hid hr0
            have HER := Lib.hid her
            have HRD := Lib.hid hrd
            have HJR := Lib.hid hjR
            have hjm' : (m : Int) ≤ j := by omega
            have hjR' : (j : Int) ≤ R.length := by omega
            have hRz := HP.out.few
            have HRZ := Lib.hid hRz
            have hR16 : (R.length : Int) ≤ 16 := by have := hRz.1; omega
            have hlen : Y.length = j := by rw [hY, List.length_take]; omega
            clear hY hDB hsm hr0 her hrd hjm hjR hRz H7 H8 H9 H10 HA7 HA8 HA9 HA10
            go_wp2_with fail
            refine (lread_any 2 8 16 H11.out.disk (by decide) (by decide) (by decide) HSM.out).mono ?_
            rintro e w12 ⟨v12, rfl, ho12, hb12⟩
            rw [HRD.out] at ho12
            rw [HER.out]
            have HX12 := Lib.hid (texts_of_own ho12 HYZ.out)
            have H12 := Lib.hid (H11.out.step_ hb12)
            have HA12 := Lib.hid (HA11.out.step (H11.out.lstep hb12))
            obtain ⟨a12, c12, hv12⟩ := own_form ho12
            rw [hlen] at hv12
            subst hv12
            have HAT := Lib.hid (HA12.out.texts HRZ.out.2)
            have HTK := Lib.hid (fun (g cap : Nat) (h : TextsAt w12 (.slice (some ⟨g, 0, none⟩) R.length cap) R) (hl : g < w12.heap.size) => TextsAt.take h j HJR.out hl)
            have HLEN := Lib.hid hlen
            clear ho12 hb12 hlen
            rcases HA12.out.row.2 with ⟨hnil, hlz⟩ | ⟨gg, cap, cur, hrow, hge, hcur, hle1, hle2, _⟩
            · subst hnil
              have hRn : R = [] := List.eq_nil_of_length_eq_zero hlz
              subst hRn
              have hj0 : j = 0 := by have := HJR.out; simpa using this
              subst hj0
              have hYn : Y = [] := HY.out
              subst hYn
              simp only [List.length_nil] at hjR' hR16 HAT ⊢
              go_wp2_with fail
              refine (same_texts _ _ [] [] _ HX12.out (texts_nil _)).mono ?_
              rintro e w13 ⟨rfl, hb13⟩
              rw [show decide (([] : List ByteArray) = []) = true from decide_eq_true rfl]
              obtain ⟨Y, hYe⟩ : ∃ Y : List ByteArray, Y = [] := ⟨_, rfl⟩
              rw [← hYe] at HRD HX12 HYZ
              clear hYe
              have H13 := Lib.hid (H12.out.step_ hb13)
              have HX13 := Lib.hid (HX12.out.below hb13)
              clear hb13
              go_wp2_with fail
              refine (lread_any 2 8 16 H13.out.disk (by decide) (by decide) (by decide) HSM.out).mono ?_
              rintro e w14 ⟨v14, rfl, ho14, hb14⟩
              rw [HRD.out] at ho14
              rw [HER.out]
              have HY14 := Lib.hid (texts_of_own ho14 HYZ.out)
              have HX14 := Lib.hid (HX13.out.below hb14)
              have H14 := Lib.hid (H13.out.step_ hb14)
              obtain ⟨a14, c14, hv14⟩ := own_form ho14
              subst hv14
              clear ho14 hb14
              go_wp2_with fail
              refine (read_any 0 H14.out.disk (by unfold I64; omega)).mono ?_
              rintro e w15 ⟨rfl, hb15⟩
              rw [HR0.out]
              have H15 := Lib.hid (H14.out.step_ hb15)
              have HX15 := Lib.hid (HX14.out.below hb15)
              have HY15 := Lib.hid (HY14.out.below hb15)
              clear hb15
              go_wp2_with fail
              refine (alive_any _).mono ?_
              rintro e w16 ⟨rfl, hb16⟩
              have H16 := Lib.hid (H15.out.step_ hb16)
              have HX16 := Lib.hid (HX15.out.below hb16)
              have HY16 := Lib.hid (HY15.out.below hb16)
              clear hb16
              go_wp2_with fail
              refine (same_texts _ _ Y Y _ HX16.out HY16.out).mono ?_
              rintro e w17 ⟨rfl, hb17⟩
              rw [show decide (Y = Y) = true from decide_eq_true rfl]
              have H17 := Lib.hid (H16.out.step_ hb17)
              clear hb17
              first
                | (have HBD := Lib.hid (show G.bad = 14 from (HP.out.st.off HON.out.symm).bad)
                   go_wp2_with fail
                   refine (broken_any H17.out.bes.2).mono ?_
                   rintro e w18 ⟨rfl, hb18⟩
                   rw [HBD.out, show ((14 : Int) != 0) = true from rfl]
                   have H18 := Lib.hid (H17.out.step_ hb18)
                   clear hb18
                   go_wp2_with fail
                   refine (fill_any 0 _ (by omega)).mono ?_
                   rintro e w19 ⟨rfl, hb19⟩
                   have HB19 := Lib.hid (H18.out.step_ hb19).bel
                   rw [zero_fill]
                   obtain ⟨ZZ, hZZ⟩ : ∃ ZZ, ZZ = fillB 0 := ⟨_, rfl⟩
                   rw [← hZZ]
                   have hq : (ZZ.toList == ZZ.toList) = true := by simp
                   clear hb19 hZZ
                   go_wp2
                   go_ret
                   exact ⟨rfl, chain HB1.out HB19.out⟩)
                | (have HBON := Lib.hid (HP.out.st.on HON.out.symm)
                   have H18 := H17
                   go_wp2_with fail
                   refine (fill_any 0 _ (by omega)).mono ?_
                   rintro e w19 ⟨rfl, hb19⟩
                   have HB19 := Lib.hid (H18.out.step_ hb19).bel
                   rw [zero_fill]
                   obtain ⟨ZZ, hZZ⟩ : ∃ ZZ, ZZ = fillB 0 := ⟨_, rfl⟩
                   rw [← hZZ]
                   have hq : (ZZ.toList == ZZ.toList) = true := by simp
                   clear hb19 hZZ
                   go_wp2
                   go_ret
                   exact ⟨rfl, chain HB1.out HB19.out⟩)
            · subst hrow
              have hRc : (R.length : Int) ≤ cap := by omega
              have HTT := Lib.hid (show TextsAt w12 (.slice (some ⟨gg, 0, none⟩) j cap) Y by rw [HY.out]; exact HTK.out gg cap HAT.out (heap_lt hcur))
              clear hcur hle1 hle2 hge
              go_wp2_with fail
              refine (same_texts _ _ Y Y _ HX12.out HTT.out).mono ?_
              rintro e w13 ⟨rfl, hb13⟩
              rw [show decide (Y = Y) = true from decide_eq_true rfl]
              have H13 := Lib.hid (H12.out.step_ hb13)
              have HX13 := Lib.hid (HX12.out.below hb13)
              clear hb13
              go_wp2_with fail
              refine (lread_any 2 8 16 H13.out.disk (by decide) (by decide) (by decide) HSM.out).mono ?_
              rintro e w14 ⟨v14, rfl, ho14, hb14⟩
              rw [HRD.out] at ho14
              rw [HER.out]
              have HY14 := Lib.hid (texts_of_own ho14 HYZ.out)
              have HX14 := Lib.hid (HX13.out.below hb14)
              have H14 := Lib.hid (H13.out.step_ hb14)
              obtain ⟨a14, c14, hv14⟩ := own_form ho14
              subst hv14
              clear ho14 hb14
              go_wp2_with fail
              refine (read_any 0 H14.out.disk (by unfold I64; omega)).mono ?_
              rintro e w15 ⟨rfl, hb15⟩
              rw [HR0.out]
              have H15 := Lib.hid (H14.out.step_ hb15)
              have HX15 := Lib.hid (HX14.out.below hb15)
              have HY15 := Lib.hid (HY14.out.below hb15)
              clear hb15
              go_wp2_with fail
              refine (alive_any _).mono ?_
              rintro e w16 ⟨rfl, hb16⟩
              have H16 := Lib.hid (H15.out.step_ hb16)
              have HX16 := Lib.hid (HX15.out.below hb16)
              have HY16 := Lib.hid (HY15.out.below hb16)
              clear hb16
              go_wp2_with fail
              refine (same_texts _ _ Y Y _ HX16.out HY16.out).mono ?_
              rintro e w17 ⟨rfl, hb17⟩
              rw [show decide (Y = Y) = true from decide_eq_true rfl]
              have H17 := Lib.hid (H16.out.step_ hb17)
              clear hb17
              first
                | (have HBD := Lib.hid (show G.bad = 14 from (HP.out.st.off HON.out.symm).bad)
                   go_wp2_with fail
                   refine (broken_any H17.out.bes.2).mono ?_
                   rintro e w18 ⟨rfl, hb18⟩
                   rw [HBD.out, show ((14 : Int) != 0) = true from rfl]
                   have H18 := Lib.hid (H17.out.step_ hb18)
                   clear hb18
                   go_wp2_with fail
                   refine (fill_any 0 _ (by omega)).mono ?_
                   rintro e w19 ⟨rfl, hb19⟩
                   have HB19 := Lib.hid (H18.out.step_ hb19).bel
                   rw [zero_fill]
                   obtain ⟨ZZ, hZZ⟩ : ∃ ZZ, ZZ = fillB 0 := ⟨_, rfl⟩
                   rw [← hZZ]
                   have hq : (ZZ.toList == ZZ.toList) = true := by simp
                   clear hb19 hZZ
                   go_wp2
                   go_ret
                   exact ⟨rfl, chain HB1.out HB19.out⟩)
                | (have HBON := Lib.hid (HP.out.st.on HON.out.symm)
                   have H18 := H17
                   go_wp2_with fail
                   refine (fill_any 0 _ (by omega)).mono ?_
                   rintro e w19 ⟨rfl, hb19⟩
                   have HB19 := Lib.hid (H18.out.step_ hb19).bel
                   rw [zero_fill]
                   obtain ⟨ZZ, hZZ⟩ : ∃ ZZ, ZZ = fillB 0 := ⟨_, rfl⟩
                   rw [← hZZ]
                   have hq : (ZZ.toList == ZZ.toList) = true := by simp
                   clear hb19 hZZ
                   go_wp2
                   go_ret
                   exact ⟨rfl, chain HB1.out HB19.out⟩)
        · have HCC := Lib.hid (show 280000 + 14 * sumT l k ≤ 1000000 by have := HST.out; have := HF1.out.2.1; omega)
          have H7 := HG
          have HA7 := HA
          cases bon with
          | true =>
            go_wp2_with fail
            refine (on_any H7.out.disk).mono ?_
            rintro e w8 ⟨rfl, hb8⟩
            rw [← HON.out]
            have H8 := Lib.hid (H7.out.step_ hb8)
            have HA8 := Lib.hid (HA7.out.step (H7.out.lstep hb8))
            clear hb8
            go_wp2_with fail
            refine (arm_any (-1) (.slice none 0 0) [] H8.out.disk (ints_nil _) (by unfold I64; omega) (by decide)).mono ?_
            rintro e w9 ⟨rfl, hd9, hs9⟩
            have H9 := Lib.hid (H8.out.ret hd9 hs9)
            have HA9 := Lib.hid (HA8.out.step (LStep.of hs9))
            clear hd9 hs9
            go_wp2_with fail
            refine (cut_any (.slice a3 keep.length ca3) keep H9.out.disk (keep_arg H9.out.disk HVk.out H9.out.bel (Nat.le_refl _)) (by have := HCC.out; omega)).mono ?_
            rintro e w10 ⟨rfl, hd10, hs10⟩
            have H10 := Lib.hid (H9.out.ret hd10 hs10)
            have HA10 := Lib.hid (HA9.out.step (LStep.of hs10))
            clear hd10 hs10
            go_wp2_with fail
            refine (restore_any H10.out.disk).mono ?_
            rintro e w11 ⟨rfl, hd11, hs11⟩
            have H11 := Lib.hid (show LgAt w1 w11 w1.heap.size q (280000 + 14 * sumT l k) (D.back keep) t2 G from H10.out.ret hd11 hs11)
            have HA11 := Lib.hid (HA10.out.step (LStep.of hs11))
            clear hd11 hs11
            obtain ⟨hsm, hr0, her, j, hjm, hjR, hrd⟩ := HP.out.st.back keep rfl HP.out.le HOS.out
            obtain ⟨DB, hDB⟩ : ∃ DB, DB = D.back keep := ⟨_, rfl⟩
            rw [← hDB] at H11 hsm hr0 her hrd
            obtain ⟨Y, hY⟩ : ∃ Y, Y = R.take j := ⟨_, rfl⟩
            rw [← hY] at hrd
            have HY := Lib.hid hY
            have HYZ := Lib.hid (show ∀ s ∈ Y, s.size ≤ 9223372036854775807 from fun s hs => by rw [hY] at hs; have := HP.out.few.2 s (List.mem_of_mem_take hs); omega)
            have HSM := Lib.hid (fun i hi => read_size hsm i hi)
            have HR0 := Lib.hid hr0
            have HER := Lib.hid her
            have HRD := Lib.hid hrd
            have HJR := Lib.hid hjR
            have hjm' : (m : Int) ≤ j := by omega
            have hjR' : (j : Int) ≤ R.length := by omega
            have hRz := HP.out.few
            have HRZ := Lib.hid hRz
            have hR16 : (R.length : Int) ≤ 16 := by have := hRz.1; omega
            have hlen : Y.length = j := by rw [hY, List.length_take]; omega
            clear hY hDB hsm hr0 her hrd hjm hjR hRz H7 H8 H9 H10 HA7 HA8 HA9 HA10
            go_wp2_with fail
            refine (lread_any 2 8 16 H11.out.disk (by decide) (by decide) (by decide) HSM.out).mono ?_
            rintro e w12 ⟨v12, rfl, ho12, hb12⟩
            rw [HRD.out] at ho12
            rw [HER.out]
            have HX12 := Lib.hid (texts_of_own ho12 HYZ.out)
            have H12 := Lib.hid (H11.out.step_ hb12)
            have HA12 := Lib.hid (HA11.out.step (H11.out.lstep hb12))
            obtain ⟨a12, c12, hv12⟩ := own_form ho12
            rw [hlen] at hv12
            subst hv12
            have HAT := Lib.hid (HA12.out.texts HRZ.out.2)
            have HTK := Lib.hid (fun (g cap : Nat) (h : TextsAt w12 (.slice (some ⟨g, 0, none⟩) R.length cap) R) (hl : g < w12.heap.size) => TextsAt.take h j HJR.out hl)
            have HLEN := Lib.hid hlen
            clear ho12 hb12 hlen
            rcases HA12.out.row.2 with ⟨hnil, hlz⟩ | ⟨gg, cap, cur, hrow, hge, hcur, hle1, hle2, _⟩
            · subst hnil
              have hRn : R = [] := List.eq_nil_of_length_eq_zero hlz
              subst hRn
              have hj0 : j = 0 := by have := HJR.out; simpa using this
              subst hj0
              have hYn : Y = [] := HY.out
              subst hYn
              simp only [List.length_nil] at hjR' hR16 HAT ⊢
              go_wp2_with fail
              refine (same_texts _ _ [] [] _ HX12.out (texts_nil _)).mono ?_
              rintro e w13 ⟨rfl, hb13⟩
              rw [show decide (([] : List ByteArray) = []) = true from decide_eq_true rfl]
              obtain ⟨Y, hYe⟩ : ∃ Y : List ByteArray, Y = [] := ⟨_, rfl⟩
              rw [← hYe] at HRD HX12 HYZ
              clear hYe
              have H13 := Lib.hid (H12.out.step_ hb13)
              have HX13 := Lib.hid (HX12.out.below hb13)
              clear hb13
              go_wp2_with fail
              refine (lread_any 2 8 16 H13.out.disk (by decide) (by decide) (by decide) HSM.out).mono ?_
              rintro e w14 ⟨v14, rfl, ho14, hb14⟩
              rw [HRD.out] at ho14
              rw [HER.out]
              have HY14 := Lib.hid (texts_of_own ho14 HYZ.out)
              have HX14 := Lib.hid (HX13.out.below hb14)
              have H14 := Lib.hid (H13.out.step_ hb14)
              obtain ⟨a14, c14, hv14⟩ := own_form ho14
              subst hv14
              clear ho14 hb14
              go_wp2_with fail
              refine (read_any 0 H14.out.disk (by unfold I64; omega)).mono ?_
              rintro e w15 ⟨rfl, hb15⟩
              rw [HR0.out]
              have H15 := Lib.hid (H14.out.step_ hb15)
              have HX15 := Lib.hid (HX14.out.below hb15)
              have HY15 := Lib.hid (HY14.out.below hb15)
              clear hb15
              go_wp2_with fail
              refine (alive_any _).mono ?_
              rintro e w16 ⟨rfl, hb16⟩
              have H16 := Lib.hid (H15.out.step_ hb16)
              have HX16 := Lib.hid (HX15.out.below hb16)
              have HY16 := Lib.hid (HY15.out.below hb16)
              clear hb16
              go_wp2_with fail
              refine (same_texts _ _ Y Y _ HX16.out HY16.out).mono ?_
              rintro e w17 ⟨rfl, hb17⟩
              rw [show decide (Y = Y) = true from decide_eq_true rfl]
              have H17 := Lib.hid (H16.out.step_ hb17)
              clear hb17
              first
                | (have HBD := Lib.hid (show G.bad = 14 from (HP.out.st.off HON.out.symm).bad)
                   go_wp2_with fail
                   refine (broken_any H17.out.bes.2).mono ?_
                   rintro e w18 ⟨rfl, hb18⟩
                   rw [HBD.out, show ((14 : Int) != 0) = true from rfl]
                   have H18 := Lib.hid (H17.out.step_ hb18)
                   clear hb18
                   go_wp2_with fail
                   refine (fill_any 0 _ (by omega)).mono ?_
                   rintro e w19 ⟨rfl, hb19⟩
                   have HB19 := Lib.hid (H18.out.step_ hb19).bel
                   rw [zero_fill]
                   obtain ⟨ZZ, hZZ⟩ : ∃ ZZ, ZZ = fillB 0 := ⟨_, rfl⟩
                   rw [← hZZ]
                   have hq : (ZZ.toList == ZZ.toList) = true := by simp
                   clear hb19 hZZ
                   go_wp2
                   go_ret
                   exact ⟨rfl, chain HB1.out HB19.out⟩)
                | (have HBON := Lib.hid (HP.out.st.on HON.out.symm)
                   have H18 := H17
                   go_wp2_with fail
                   refine (fill_any 0 _ (by omega)).mono ?_
                   rintro e w19 ⟨rfl, hb19⟩
                   have HB19 := Lib.hid (H18.out.step_ hb19).bel
                   rw [zero_fill]
                   obtain ⟨ZZ, hZZ⟩ : ∃ ZZ, ZZ = fillB 0 := ⟨_, rfl⟩
                   rw [← hZZ]
                   have hq : (ZZ.toList == ZZ.toList) = true := by simp
                   clear hb19 hZZ
                   go_wp2
                   go_ret
                   exact ⟨rfl, chain HB1.out HB19.out⟩)
            · subst hrow
              have hRc : (R.length : Int) ≤ cap := by omega
              have HTT := Lib.hid (show TextsAt w12 (.slice (some ⟨gg, 0, none⟩) j cap) Y by rw [HY.out]; exact HTK.out gg cap HAT.out (heap_lt hcur))
              clear hcur hle1 hle2 hge
              go_wp2_with fail
              refine (same_texts _ _ Y Y _ HX12.out HTT.out).mono ?_
              rintro e w13 ⟨rfl, hb13⟩
              rw [show decide (Y = Y) = true from decide_eq_true rfl]
              have H13 := Lib.hid (H12.out.step_ hb13)
              have HX13 := Lib.hid (HX12.out.below hb13)
              clear hb13
              go_wp2_with fail
              refine (lread_any 2 8 16 H13.out.disk (by decide) (by decide) (by decide) HSM.out).mono ?_
              rintro e w14 ⟨v14, rfl, ho14, hb14⟩
              rw [HRD.out] at ho14
              rw [HER.out]
              have HY14 := Lib.hid (texts_of_own ho14 HYZ.out)
              have HX14 := Lib.hid (HX13.out.below hb14)
              have H14 := Lib.hid (H13.out.step_ hb14)
              obtain ⟨a14, c14, hv14⟩ := own_form ho14
              subst hv14
              clear ho14 hb14
              go_wp2_with fail
              refine (read_any 0 H14.out.disk (by unfold I64; omega)).mono ?_
              rintro e w15 ⟨rfl, hb15⟩
              rw [HR0.out]
              have H15 := Lib.hid (H14.out.step_ hb15)
              have HX15 := Lib.hid (HX14.out.below hb15)
              have HY15 := Lib.hid (HY14.out.below hb15)
              clear hb15
              go_wp2_with fail
              refine (alive_any _).mono ?_
              rintro e w16 ⟨rfl, hb16⟩
              have H16 := Lib.hid (H15.out.step_ hb16)
              have HX16 := Lib.hid (HX15.out.below hb16)
              have HY16 := Lib.hid (HY15.out.below hb16)
              clear hb16
              go_wp2_with fail
              refine (same_texts _ _ Y Y _ HX16.out HY16.out).mono ?_
              rintro e w17 ⟨rfl, hb17⟩
              rw [show decide (Y = Y) = true from decide_eq_true rfl]
              have H17 := Lib.hid (H16.out.step_ hb17)
              clear hb17
              first
                | (have HBD := Lib.hid (show G.bad = 14 from (HP.out.st.off HON.out.symm).bad)
                   go_wp2_with fail
                   refine (broken_any H17.out.bes.2).mono ?_
                   rintro e w18 ⟨rfl, hb18⟩
                   rw [HBD.out, show ((14 : Int) != 0) = true from rfl]
                   have H18 := Lib.hid (H17.out.step_ hb18)
                   clear hb18
                   go_wp2_with fail
                   refine (fill_any 0 _ (by omega)).mono ?_
                   rintro e w19 ⟨rfl, hb19⟩
                   have HB19 := Lib.hid (H18.out.step_ hb19).bel
                   rw [zero_fill]
                   obtain ⟨ZZ, hZZ⟩ : ∃ ZZ, ZZ = fillB 0 := ⟨_, rfl⟩
                   rw [← hZZ]
                   have hq : (ZZ.toList == ZZ.toList) = true := by simp
                   clear hb19 hZZ
                   go_wp2
                   go_ret
                   exact ⟨rfl, chain HB1.out HB19.out⟩)
                | (have HBON := Lib.hid (HP.out.st.on HON.out.symm)
                   have H18 := H17
                   go_wp2_with fail
                   refine (fill_any 0 _ (by omega)).mono ?_
                   rintro e w19 ⟨rfl, hb19⟩
                   have HB19 := Lib.hid (H18.out.step_ hb19).bel
                   rw [zero_fill]
                   obtain ⟨ZZ, hZZ⟩ : ∃ ZZ, ZZ = fillB 0 := ⟨_, rfl⟩
                   rw [← hZZ]
                   have hq : (ZZ.toList == ZZ.toList) = true := by simp
                   clear hb19 hZZ
                   go_wp2
                   go_ret
                   exact ⟨rfl, chain HB1.out HB19.out⟩)
          | false =>
            go_wp2_with fail
            refine (on_any H7.out.disk).mono ?_
            rintro e w8 ⟨rfl, hb8⟩
            rw [← HON.out]
            have H8 := Lib.hid (H7.out.step_ hb8)
            have HA8 := Lib.hid (HA7.out.step (H7.out.lstep hb8))
            clear hb8
            go_wp2_with fail
            refine (arm_any (-1) (.slice none 0 0) [] H8.out.disk (ints_nil _) (by unfold I64; omega) (by decide)).mono ?_
            rintro e w9 ⟨rfl, hd9, hs9⟩
            have H9 := Lib.hid (H8.out.ret hd9 hs9)
            have HA9 := Lib.hid (HA8.out.step (LStep.of hs9))
            clear hd9 hs9
            go_wp2_with fail
            refine (cut_any (.slice a3 keep.length ca3) keep H9.out.disk (keep_arg H9.out.disk HVk.out H9.out.bel (Nat.le_refl _)) (by have := HCC.out; omega)).mono ?_
            rintro e w10 ⟨rfl, hd10, hs10⟩
            have H10 := Lib.hid (H9.out.ret hd10 hs10)
            have HA10 := Lib.hid (HA9.out.step (LStep.of hs10))
            clear hd10 hs10
            go_wp2_with fail
            refine (restore_any H10.out.disk).mono ?_
            rintro e w11 ⟨rfl, hd11, hs11⟩
            have H11 := Lib.hid (show LgAt w1 w11 w1.heap.size q (280000 + 14 * sumT l k) (D.back keep) t2 G from H10.out.ret hd11 hs11)
            have HA11 := Lib.hid (HA10.out.step (LStep.of hs11))
            clear hd11 hs11
            obtain ⟨hsm, hr0, her, j, hjm, hjR, hrd⟩ := HP.out.st.back keep rfl HP.out.le HOS.out
            obtain ⟨DB, hDB⟩ : ∃ DB, DB = D.back keep := ⟨_, rfl⟩
            rw [← hDB] at H11 hsm hr0 her hrd
            obtain ⟨Y, hY⟩ : ∃ Y, Y = R.take j := ⟨_, rfl⟩
            rw [← hY] at hrd
            have HY := Lib.hid hY
            have HYZ := Lib.hid (show ∀ s ∈ Y, s.size ≤ 9223372036854775807 from fun s hs => by rw [hY] at hs; have := HP.out.few.2 s (List.mem_of_mem_take hs); omega)
            have HSM := Lib.hid (fun i hi => read_size hsm i hi)
            have HR0 := Lib.hid hr0
            have HER := Lib.hid her
            have HRD := Lib.hid hrd
            have HJR := Lib.hid hjR
            have hjm' : (m : Int) ≤ j := by omega
            have hjR' : (j : Int) ≤ R.length := by omega
            have hRz := HP.out.few
            have HRZ := Lib.hid hRz
            have hR16 : (R.length : Int) ≤ 16 := by have := hRz.1; omega
            have hlen : Y.length = j := by rw [hY, List.length_take]; omega
            clear hY hDB hsm hr0 her hrd hjm hjR hRz H7 H8 H9 H10 HA7 HA8 HA9 HA10
            go_wp2_with fail
            refine (lread_any 2 8 16 H11.out.disk (by decide) (by decide) (by decide) HSM.out).mono ?_
            rintro e w12 ⟨v12, rfl, ho12, hb12⟩
            rw [HRD.out] at ho12
            rw [HER.out]
            have HX12 := Lib.hid (texts_of_own ho12 HYZ.out)
            have H12 := Lib.hid (H11.out.step_ hb12)
            have HA12 := Lib.hid (HA11.out.step (H11.out.lstep hb12))
            obtain ⟨a12, c12, hv12⟩ := own_form ho12
            rw [hlen] at hv12
            subst hv12
            have HAT := Lib.hid (HA12.out.texts HRZ.out.2)
            have HTK := Lib.hid (fun (g cap : Nat) (h : TextsAt w12 (.slice (some ⟨g, 0, none⟩) R.length cap) R) (hl : g < w12.heap.size) => TextsAt.take h j HJR.out hl)
            have HLEN := Lib.hid hlen
            clear ho12 hb12 hlen
            rcases HA12.out.row.2 with ⟨hnil, hlz⟩ | ⟨gg, cap, cur, hrow, hge, hcur, hle1, hle2, _⟩
            · subst hnil
              have hRn : R = [] := List.eq_nil_of_length_eq_zero hlz
              subst hRn
              have hj0 : j = 0 := by have := HJR.out; simpa using this
              subst hj0
              have hYn : Y = [] := HY.out
              subst hYn
              simp only [List.length_nil] at hjR' hR16 HAT ⊢
              go_wp2_with fail
              refine (same_texts _ _ [] [] _ HX12.out (texts_nil _)).mono ?_
              rintro e w13 ⟨rfl, hb13⟩
              rw [show decide (([] : List ByteArray) = []) = true from decide_eq_true rfl]
              obtain ⟨Y, hYe⟩ : ∃ Y : List ByteArray, Y = [] := ⟨_, rfl⟩
              rw [← hYe] at HRD HX12 HYZ
              clear hYe
              have H13 := Lib.hid (H12.out.step_ hb13)
              have HX13 := Lib.hid (HX12.out.below hb13)
              clear hb13
              go_wp2_with fail
              refine (lread_any 2 8 16 H13.out.disk (by decide) (by decide) (by decide) HSM.out).mono ?_
              rintro e w14 ⟨v14, rfl, ho14, hb14⟩
              rw [HRD.out] at ho14
              rw [HER.out]
              have HY14 := Lib.hid (texts_of_own ho14 HYZ.out)
              have HX14 := Lib.hid (HX13.out.below hb14)
              have H14 := Lib.hid (H13.out.step_ hb14)
              obtain ⟨a14, c14, hv14⟩ := own_form ho14
              subst hv14
              clear ho14 hb14
              go_wp2_with fail
              refine (read_any 0 H14.out.disk (by unfold I64; omega)).mono ?_
              rintro e w15 ⟨rfl, hb15⟩
              rw [HR0.out]
              have H15 := Lib.hid (H14.out.step_ hb15)
              have HX15 := Lib.hid (HX14.out.below hb15)
              have HY15 := Lib.hid (HY14.out.below hb15)
              clear hb15
              go_wp2_with fail
              refine (alive_any _).mono ?_
              rintro e w16 ⟨rfl, hb16⟩
              have H16 := Lib.hid (H15.out.step_ hb16)
              have HX16 := Lib.hid (HX15.out.below hb16)
              have HY16 := Lib.hid (HY15.out.below hb16)
              clear hb16
              go_wp2_with fail
              refine (same_texts _ _ Y Y _ HX16.out HY16.out).mono ?_
              rintro e w17 ⟨rfl, hb17⟩
              rw [show decide (Y = Y) = true from decide_eq_true rfl]
              have H17 := Lib.hid (H16.out.step_ hb17)
              clear hb17
              first
                | (have HBD := Lib.hid (show G.bad = 14 from (HP.out.st.off HON.out.symm).bad)
                   go_wp2_with fail
                   refine (broken_any H17.out.bes.2).mono ?_
                   rintro e w18 ⟨rfl, hb18⟩
                   rw [HBD.out, show ((14 : Int) != 0) = true from rfl]
                   have H18 := Lib.hid (H17.out.step_ hb18)
                   clear hb18
                   go_wp2_with fail
                   refine (fill_any 0 _ (by omega)).mono ?_
                   rintro e w19 ⟨rfl, hb19⟩
                   have HB19 := Lib.hid (H18.out.step_ hb19).bel
                   rw [zero_fill]
                   obtain ⟨ZZ, hZZ⟩ : ∃ ZZ, ZZ = fillB 0 := ⟨_, rfl⟩
                   rw [← hZZ]
                   have hq : (ZZ.toList == ZZ.toList) = true := by simp
                   clear hb19 hZZ
                   go_wp2
                   go_ret
                   exact ⟨rfl, chain HB1.out HB19.out⟩)
                | (have HBON := Lib.hid (HP.out.st.on HON.out.symm)
                   have H18 := H17
                   go_wp2_with fail
                   refine (fill_any 0 _ (by omega)).mono ?_
                   rintro e w19 ⟨rfl, hb19⟩
                   have HB19 := Lib.hid (H18.out.step_ hb19).bel
                   rw [zero_fill]
                   obtain ⟨ZZ, hZZ⟩ : ∃ ZZ, ZZ = fillB 0 := ⟨_, rfl⟩
                   rw [← hZZ]
                   have hq : (ZZ.toList == ZZ.toList) = true := by simp
                   clear hb19 hZZ
                   go_wp2
                   go_ret
                   exact ⟨rfl, chain HB1.out HB19.out⟩)
            · subst hrow
              have hRc : (R.length : Int) ≤ cap := by omega
              have HTT := Lib.hid (show TextsAt w12 (.slice (some ⟨gg, 0, none⟩) j cap) Y by rw [HY.out]; exact HTK.out gg cap HAT.out (heap_lt hcur))
              clear hcur hle1 hle2 hge
              go_wp2_with fail
              refine (same_texts _ _ Y Y _ HX12.out HTT.out).mono ?_
              rintro e w13 ⟨rfl, hb13⟩
              rw [show decide (Y = Y) = true from decide_eq_true rfl]
              have H13 := Lib.hid (H12.out.step_ hb13)
              have HX13 := Lib.hid (HX12.out.below hb13)
              clear hb13
              go_wp2_with fail
              refine (lread_any 2 8 16 H13.out.disk (by decide) (by decide) (by decide) HSM.out).mono ?_
              rintro e w14 ⟨v14, rfl, ho14, hb14⟩
              rw [HRD.out] at ho14
              rw [HER.out]
              have HY14 := Lib.hid (texts_of_own ho14 HYZ.out)
              have HX14 := Lib.hid (HX13.out.below hb14)
              have H14 := Lib.hid (H13.out.step_ hb14)
              obtain ⟨a14, c14, hv14⟩ := own_form ho14
              subst hv14
              clear ho14 hb14
              go_wp2_with fail
              refine (read_any 0 H14.out.disk (by unfold I64; omega)).mono ?_
              rintro e w15 ⟨rfl, hb15⟩
              rw [HR0.out]
              have H15 := Lib.hid (H14.out.step_ hb15)
              have HX15 := Lib.hid (HX14.out.below hb15)
              have HY15 := Lib.hid (HY14.out.below hb15)
              clear hb15
              go_wp2_with fail
              refine (alive_any _).mono ?_
              rintro e w16 ⟨rfl, hb16⟩
              have H16 := Lib.hid (H15.out.step_ hb16)
              have HX16 := Lib.hid (HX15.out.below hb16)
              have HY16 := Lib.hid (HY15.out.below hb16)
              clear hb16
              go_wp2_with fail
              refine (same_texts _ _ Y Y _ HX16.out HY16.out).mono ?_
              rintro e w17 ⟨rfl, hb17⟩
              rw [show decide (Y = Y) = true from decide_eq_true rfl]
              have H17 := Lib.hid (H16.out.step_ hb17)
              clear hb17
              first
                | (have HBD := Lib.hid (show G.bad = 14 from (HP.out.st.off HON.out.symm).bad)
                   go_wp2_with fail
                   refine (broken_any H17.out.bes.2).mono ?_
                   rintro e w18 ⟨rfl, hb18⟩
                   rw [HBD.out, show ((14 : Int) != 0) = true from rfl]
                   have H18 := Lib.hid (H17.out.step_ hb18)
                   clear hb18
                   go_wp2_with fail
                   refine (fill_any 0 _ (by omega)).mono ?_
                   rintro e w19 ⟨rfl, hb19⟩
                   have HB19 := Lib.hid (H18.out.step_ hb19).bel
                   rw [zero_fill]
                   obtain ⟨ZZ, hZZ⟩ : ∃ ZZ, ZZ = fillB 0 := ⟨_, rfl⟩
                   rw [← hZZ]
                   have hq : (ZZ.toList == ZZ.toList) = true := by simp
                   clear hb19 hZZ
                   go_wp2
                   go_ret
                   exact ⟨rfl, chain HB1.out HB19.out⟩)
                | (have HBON := Lib.hid (HP.out.st.on HON.out.symm)
                   have H18 := H17
                   go_wp2_with fail
                   refine (fill_any 0 _ (by omega)).mono ?_
                   rintro e w19 ⟨rfl, hb19⟩
                   have HB19 := Lib.hid (H18.out.step_ hb19).bel
                   rw [zero_fill]
                   obtain ⟨ZZ, hZZ⟩ : ∃ ZZ, ZZ = fillB 0 := ⟨_, rfl⟩
                   rw [← hZZ]
                   have hq : (ZZ.toList == ZZ.toList) = true := by simp
                   clear hb19 hZZ
                   go_wp2
                   go_ret
                   exact ⟨rfl, chain HB1.out HB19.out⟩)

set_option maxRecDepth 100000 in
set_option maxHeartbeats 4000000 in
theorem walkLogWhole (v0 : Value) (old : List OpV) (v1 : Value) (l : List OpV) (n : Int) (wn : (Lit.int .i64 n).wf = true) (v3 : Value) (keep : List Int) (w : World) (i0 : OpsAt w v0 old) (z0 : ∀ X ∈ old, ∀ s ∈ X.texts, s.size ≤ 140737488351232) (i1 : OpsAt w v1 l)
    (z1 : ∀ X ∈ l, ∀ s ∈ X.texts, s.size ≤ 140737488351232) (i3 : IntsAt w v3 keep) : Calls Try.prog 6 #[v0, v1, .int .i64 n, v3] w (BoolPost w true) := by
  have hn := wf64' wn
  clear wn
  by_cases hin : (0 ≤ n ∧ n ≤ 100) ∧ keep.length ≤ 100
  · exact walkLogWholeIn v0 old v1 l n v3 keep w i0 i1 i3 z1 hin.1 hin.2
  · have HV0 := Lib.hid i0
    have HV1 := Lib.hid i1
    obtain ⟨a0, ca0, rfl, _, _⟩ := i0
    obtain ⟨a1, ca1, rfl, _, _⟩ := i1
    obtain ⟨a3, ca3, rfl, _, hk3, _⟩ := i3
    clear z0 z1
    go_enter Try.func6, Try.ntmps6
    go_wp2_with fail
    refine (light_any _ old _ HV0.out).mono ?_
    rintro e w0 ⟨b1, rfl, hb0, hl1⟩
    have HL1 := Lib.hid hl1
    have HB0 := Lib.hid hb0
    clear hb0 hl1
    cases b1
    · go_wp2_with fail
      refine (alive_any _).mono ?_
      rintro e w2 ⟨rfl, hb2⟩
      go_wp2
      go_ret
      exact ⟨rfl, chain HB0.out hb2⟩
    go_wp2_with fail
    refine (light_any _ l _ (HV1.out.below HB0.out)).mono ?_
    rintro e w1 ⟨b2, rfl, hb1, hl2⟩
    have HL2 := Lib.hid hl2
    have HB1 := Lib.hid (chain HB0.out hb1)
    clear hb1 hl2
    cases b2
    · go_wp2_with fail
      refine (alive_any _).mono ?_
      rintro e w2 ⟨rfl, hb2⟩
      go_wp2
      go_ret
      exact ⟨rfl, chain HB1.out hb2⟩
    by_cases q1 : n < 0
    · clear hin
      go_wp2_with fail
      refine (alive_any _).mono ?_
      rintro e w2 ⟨rfl, hb2⟩
      go_wp2
      go_ret
      exact ⟨rfl, chain HB1.out hb2⟩
    · by_cases q2 : 100 < n
      · clear hin
        go_wp2_with fail
        refine (alive_any _).mono ?_
        rintro e w2 ⟨rfl, hb2⟩
        go_wp2
        go_ret
        exact ⟨rfl, chain HB1.out hb2⟩
      · have q3 : (100 : Int) < keep.length := by
          by_cases h : (100 : Int) < keep.length
          · exact h
          · exact absurd ⟨⟨by omega, by omega⟩, by omega⟩ hin
        have q4 : (keep.length : Int) ≤ 9223372036854775807 := by omega
        clear hin
        go_wp2_with fail
        refine (alive_any _).mono ?_
        rintro e w2 ⟨rfl, hb2⟩
        go_wp2
        go_ret
        exact ⟨rfl, chain HB1.out hb2⟩
end Go.Proofs.Ytjcggkfinhkcoaa
