/-
  The walk of the law LogFull.
-/
import Derived.Test.YtjcggkfinhkcoaaLog8
import Derived.Deep.OwnRows
namespace Go.Proofs.Ytjcggkfinhkcoaa
open Go.RowKit
set_option linter.unusedVariables false
set_option linter.unusedSimpArgs false

theorem and1023 (x : Int) : bits .and .i64 x 1023 = x % 1024 := by
  show IntKind.i64.wrap ((BitVec.ofInt 64 x &&& BitVec.ofInt 64 1023).toNat : Int) = _
  have h1 : (BitVec.ofInt 64 1023).toNat = 2 ^ 10 - 1 := rfl
  rw [BitVec.toNat_and, h1, Nat.and_two_pow_sub_one_eq_mod, BitVec.toNat_ofInt, IntKind.wrap_i64]
  omega
theorem LI.left_ {d : DV} {G : LV} {R rest : List ByteArray} {n : Nat} (h : LI d G R rest n) : G.left = rest.length := by
  unfold LV.left
  have := h.le
  rw [h.nn, h.used]; omega
theorem App_one {G : LV} (d : DV) (s : ByteArray) (h : G.bad = 0) : G.App d [s] = G.app d s := by
  have h1 : G.App d [s] = appN G d [s] 1 := if_neg (by rw [h]; decide)
  rw [h1, appN_succ G d [s] 0 rfl]; rfl
def zerosB (m : Nat) : ByteArray := strOf (List.replicate m 0)
theorem zerosB_size (m : Nat) : (zerosB m).size = m := by unfold zerosB; rw [strOf_size, List.length_replicate]
theorem make_zeros (m : Nat) (hm : m ≤ 1023) (w : World) : (Instr.makeSlice 31 (.int .i64 (m : Int)) (.int .i64 (m : Int))).run Try.prog w = .ok (.slice (some ⟨w.heap.size, 0, none⟩) m m) (w.alloc (.cells (madeCells #[.int .u8 0] m) 5)) :=
  run_make_row' 31 5 (.int .u8 0) 1 Try.underlying31 info_u8 rfl .i64 .i64 m (by omega) (by omega) w
theorem conv_zeros (m : Nat) (w : World) (b : Nat) (hb : w.heap.size = b) : (convert 31 9 (.slice (some ⟨b, 0, none⟩) m m)).run Try.prog (w.alloc (.cells (madeCells #[.int .u8 0] m) 5)) = .ok (.string (zerosB m)) (w.alloc (.cells (madeCells #[.int .u8 0] m) 5)) := by
  subst hb
  have := run_convert_bytes_arg (w.alloc (.cells (madeCells #[.int .u8 0] m) 5)) 31 5 Try.underlying31 Try.underlying5 w.heap.size 0 m m ((List.replicate m (0 : UInt8)).map fun b => (b.toNat : Int)) (by simp) (fun i hi => by
    rw [Nat.zero_add, cell_of_row _ w.heap.size _ _ _ _ (heap_alloc_new w _)]
    unfold madeCells
    simp [hi]

    rw [Nat.mod_one]; rfl) 9 Try.underlying9
  rw [strOfNums_bytes] at this
  exact this

set_option maxRecDepth 100000 in
set_option maxHeartbeats 8000000 in
theorem walkLogFullIn (n : Nat) (v : Value) (l : List Int) (w : World) (hv : IntsAt w v l) (n1 : 1 ≤ n) (n2 : n ≤ 16) (hl : l.length ≤ 40) : Calls Try.prog 3 #[.int .i64 n, v] w (BoolPost w true) := by
  have HV := Lib.hid hv
  obtain ⟨a, ca, rfl, -, -, -⟩ := hv
  have hnI : (n : Int) ≤ 16 := by omega
  have hnI1 : (1 : Int) ≤ n := by omega
  have hlI : (l.length : Int) ≤ 40 := by omega
  have HFIT := Lib.hid (new_fit 5 9 n ⟨by decide, by decide⟩ (by omega) ⟨by decide, by decide⟩)
  have HLI0 := Lib.hid (li_new 30 5 9 n ⟨by decide, by omega⟩)
  go_enter Try.func3, Try.ntmps3
  go_wp2_with fail
  refine (new_any 30 _ (by omega)).mono ?_
  rintro e w1 ⟨q, rfl, hD, hb1⟩
  have HD1 := Lib.hid hD
  have HB1 := Lib.hid hb1
  clear hD hb1
  go_wp2_with fail
  refine (new_yes 5 n 9 HD1.out (by decide) (by omega)).mono ?_
  rintro e w2 ⟨t, rfl, ht, hD, hbes, hb2⟩
  have H2 := Lib.hid (show LgAt w w2 w.heap.size q 0 (DV.fresh 30) t (LV.new 5 n 9) from ⟨hD, hbes, chain HB1.out hb2, Nat.le_refl _, Nat.le_trans HB1.out.size ht⟩)
  clear ht hD hbes hb2
  go_wp2
  go_loopw [8, 9, 10] (fun lf kk x wr => ∃ (j m : Nat) (mi : Int) (D : DV) (G : LV) (R : List ByteArray), j ≤ l.length ∧ x = .int .i64 j ∧ lf = .int .i64 mi ∧ Hid ((m : Int) = mi) ∧ kk = .int .i64 R.length ∧ Hid (LgAt w wr w.heap.size q (14 * j) D t G) ∧ Hid (LI D G R (List.replicate m zeroB) n) ∧ Hid (G.fit j ∧ G.frm = 5 ∧ G.gen = 9) ∧ Hid (0 ≤ D.writes ∧ D.writes ≤ 14 * j)) (fun _ _ x _ => l.length - (intOf x).toNat)
  case atStart => exact ⟨0, n, n, DV.fresh 30, LV.new 5 n 9, [], Nat.zero_le _, rfl, rfl, Lib.hid rfl, rfl, H2, HLI0, Lib.hid ⟨HFIT.out, rfl, rfl⟩, Lib.hid ⟨by decide, by decide⟩⟩
  case round =>
    obtain ⟨j, m, mi, D, G, R, hj, rfl, rfl, HMI, rfl, HG, HL, HF, HW⟩ := hrel
    have hmi : 0 ≤ mi ∧ mi ≤ 16 := by
      have h1 := HL.out.le
      rw [List.length_replicate] at h1
      have := HMI.out; omega
    have hRb : (R.length : Int) ≤ 40 := by have := HL.out.recs; have := HF.out.1.2.2; omega
    by_cases hlt : j < l.length
    · obtain ⟨x, hx, hxI, b, o, rfl, hcell⟩ : ∃ x : Int, x = l.getD j 0 ∧ I64 x ∧ ∃ b o, a = some ⟨b, o, none⟩ ∧ wr.cell? ⟨b, o + j, none⟩ = some (.int .i64 x) := by
        obtain ⟨a, c, e1, e2, e3, e4⟩ := HV.out
        obtain ⟨b, o, e5, e6, e7⟩ := e4 (fun h => by rw [h] at hlt; exact absurd hlt (Nat.not_lt_zero _))
        injection e1 with e1 _ _
        refine ⟨_, rfl, ?_, b, o, by rw [e1, e5], (HG.out.bel.cell (p := ⟨b, o + j, none⟩) e6).trans (e7 j hlt)⟩
        exact e2 _ (by rw [List.getD_eq_getElem?_getD, List.getElem?_eq_getElem hlt]; exact List.getElem_mem hlt)
      obtain ⟨z, hz⟩ : ∃ z : Nat, x % 1024 = z := ⟨(x % 1024).toNat, by omega⟩
      have hand : bits .and .i64 x 1023 = (z : Int) := by rw [and1023, hz]
      have hz2 : z ≤ 1023 := by omega
      have hmk := make_zeros z hz2
      have hcv := conv_zeros z wr wr.heap.size rfl
      have HSZ := Lib.hid (zerosB_size z)
      have HA1 := Lib.hid (App_one D (zerosB z) HL.out.bad)
      have HFA := Lib.hid (App_fit (d := D) (l := [zerosB z]) HF.out.1 (by simp; omega))
      have HAP := Lib.hid (fun h => HL.out.app (zerosB z) (by rw [HSZ.out]; omega) h)
      have HFU := Lib.hid (fun h => HL.out.full (zerosB z) (by rw [HSZ.out]; omega) h)
      have HLF := Lib.hid HL.out.left_
      obtain ⟨s, hs⟩ : ∃ s, s = zerosB z := ⟨_, rfl⟩
      rw [← hs] at hcv HSZ HA1 HFA HAP HFU
      obtain ⟨D', G', E, hr⟩ : ∃ D' G' E, G.app D s = (D', G', E) := ⟨_, _, _, rfl⟩
      rw [hr] at HA1 HAP HFU
      rw [HA1.out] at HFA
      have hsI : (s.size : Int) = z := by have := HSZ.out; omega
      have hj40 : j ≤ 40 := by omega
      clear hx hz hs hr
      go_wp2_with fail
      clear hmk hcv
      have hTB := tb_new (l := [s]) (cap := 1) (HG.out.step_ (bel_new wr (.cells (madeCells #[.int .u8 0] z) 5))) (cs := #[.string s]) (T := 9) rfl (by intro y hy; simp at hy; rw [hy]; omega) (by simp)
      rw [show (wr.alloc (.cells (madeCells #[.int .u8 0] z) 5)).heap.size = wr.heap.size + 1 by simp] at hTB
      refine (App_any _ [s] j ((HG.out.step_ (bel_new wr (.cells (madeCells #[.int .u8 0] z) 5))).step_ (bel_new _ _)) HF.out.1 (by simp; omega) hTB (by intro y hy; simp at hy; rw [hy]; omega) (by simp; omega) (by have := HW.out; omega)).mono ?_
      rintro e w3 ⟨rfl, h3, -⟩
      rw [HA1.out] at h3 ⊢
      have H3 := Lib.hid h3
      clear h3 hTB
      dsimp only at HFA H3
      go_wp2_with fail
      refine (blocks_any z _ (by omega)).mono ?_
      rintro e w4 ⟨rfl, hb4⟩
      have H4 := Lib.hid (H3.out.step_ hb4)
      clear hb4
      obtain ⟨K, hK⟩ : ∃ K, K = blks z := ⟨_, rfl⟩
      rw [HSZ.out, ← hK] at HAP HFU
      rw [← hK]
      obtain ⟨ki, hki⟩ : ∃ ki : Int, ki = K := ⟨_, rfl⟩
      have HKI := Lib.hid hki
      rw [← hki]
      have hKb : 0 ≤ ki ∧ ki ≤ 10 := by rw [hki, hK]; unfold blks; split <;> omega
      clear hK hki hz2 hsI hj40 hxI hand hcell hl
      by_cases hfit : K ≤ m
      · obtain ⟨e0, hLI, _, _⟩ := HAP.out (by simpa using hfit)
        subst e0
        rw [List.drop_replicate] at hLI
        have HL2 := Lib.hid hLI
        have HLF2 := Lib.hid (show G'.left = mi - ki by rw [hLI.left_, List.length_replicate]; have := HMI.out; have := HKI.out; omega)
        have HRC2 := Lib.hid (show G'.recs = (R.length : Int) + 1 by rw [hLI.recs, List.length_append]; simp)
        have hfI : ki ≤ mi := by have := HMI.out; have := HKI.out; omega
        clear hLI HAP HFU hfit
        go_wp2_with fail
        refine (left_any H4.out.bes.2 HFA.out.1.1).mono ?_
        rintro e w5 ⟨rfl, hb5⟩
        rw [HLF2.out]
        have H5 := Lib.hid (H4.out.step_ hb5)
        clear hb5
        go_wp2_with fail
        refine (len_any H5.out.bes.2).mono ?_
        rintro e w6 ⟨rfl, hb6⟩
        rw [HRC2.out]
        have H6 := Lib.hid (H5.out.step_ hb6)
        clear hb6
        go_wp2
        go_roundw
        case rel => exact ⟨j + 1, m - K, mi - ki, D', G', R ++ [s], by omega, by go_num, rfl, Lib.hid (by have := HMI.out; have := HKI.out; omega), by rw [List.length_append]; simp, Lib.hid (H6.out.mono (show 14 * j + 14 * 1 ≤ 14 * (j + 1) by omega)), HL2, Lib.hid ⟨⟨HFA.out.1.1, HFA.out.1.2.1, by have := HFA.out.1.2.2; simp at this; omega⟩, by rw [HFA.out.2.2.2.2.1]; exact HF.out.2.1, by rw [HFA.out.2.2.2.1]; exact HF.out.2.2⟩, Lib.hid (by have h1 := HFA.out.2.1; have h2 := HFA.out.2.2.1; have := HW.out; simp at h1; omega)⟩
        case measure => simp [intOf]; omega
      · have hfu := HFU.out (by simpa using hfit)
        injection hfu with e1 e2
        injection e2 with e2 e3
        subst e1 e2 e3
        have hfI : ¬ ki ≤ mi := by have := HMI.out; have := HKI.out; omega
        have HLF2 := Lib.hid (show G'.left = mi by rw [HL.out.left_, List.length_replicate]; exact HMI.out)
        have HRC2 := Lib.hid (show G'.recs = (R.length : Int) from HL.out.recs)
        clear HAP HFU hfit
        go_wp2_with fail
        refine (left_any H4.out.bes.2 HFA.out.1.1).mono ?_
        rintro e w5 ⟨rfl, hb5⟩
        rw [HLF2.out]
        have H5 := Lib.hid (H4.out.step_ hb5)
        clear hb5
        go_wp2_with fail
        refine (len_any H5.out.bes.2).mono ?_
        rintro e w6 ⟨rfl, hb6⟩
        rw [HRC2.out]
        have H6 := Lib.hid (H5.out.step_ hb6)
        clear hb6
        go_wp2
        go_roundw
        case rel => exact ⟨j + 1, m, mi, D', G', R, by omega, by go_num, rfl, HMI, rfl, Lib.hid (H6.out.mono (show 14 * j + 14 * 1 ≤ 14 * (j + 1) by omega)), HL, Lib.hid ⟨⟨HF.out.1.1, HF.out.1.2.1, by have := HF.out.1.2.2; omega⟩, HF.out.2⟩, Lib.hid (by have := HW.out; omega)⟩
        case measure => simp [intOf]; omega
    · have hr1 := HL.out.read (clean_rep _ _)
      have hr2 := HL.out.other (g := 10) ⟨by decide, by decide⟩ (by rw [HF.out.2.2]; exact ⟨by decide, by decide⟩) (by rw [HF.out.2.2]; decide) (clean_rep _ _)
      have he := HL.out.err n (Nat.le_refl _)
      rw [HF.out.2.1] at hr1 hr2 he
      rw [HF.out.2.2] at hr1
      have HR1 := Lib.hid hr1
      have HR2 := Lib.hid hr2
      have HE := Lib.hid he
      have HSM := Lib.hid (fun k hk => read_size HL.out.sm k hk)
      clear hr1 hr2 he
      go_wp2_with fail
      refine (lread_any 5 9 n HG.out.disk (by decide) (by omega) (by decide) HSM.out).mono ?_
      rintro e w5 ⟨v5, rfl, ho5, hb5⟩
      rw [HR1.out] at ho5
      rw [HE.out]
      have H5 := Lib.hid (HG.out.step_ hb5)
      obtain ⟨a5, c5, rfl⟩ := own_form ho5
      clear ho5 hb5
      go_wp2_with fail
      refine (lread_any 5 10 n H5.out.disk (by decide) (by omega) (by decide) HSM.out).mono ?_
      rintro e w6 ⟨v6, rfl, ho6, hb6⟩
      rw [HR2.out] at ho6
      rw [HE.out]
      have H6 := Lib.hid (H5.out.step_ hb6)
      obtain ⟨a6, c6, rfl⟩ := own_form ho6
      clear ho6 hb6
      go_wp2_with fail
      refine (alive_any _).mono ?_
      rintro e w7 ⟨rfl, hb7⟩
      have HB7 := Lib.hid (H6.out.step_ hb7).bel
      clear hb7
      go_wp2
      go_ret
      exact ⟨rfl, HB7.out⟩

set_option maxRecDepth 100000 in
theorem walkLogFull (n : Int) (wn : (Lit.int .i64 n).wf = true) (v : Value) (l : List Int) (w : World) (hv : IntsAt w v l) : Calls Try.prog 3 #[.int .i64 n, v] w (BoolPost w true) := by
  have hn := wf64' wn
  clear wn
  by_cases hin : 1 ≤ n ∧ n ≤ 16 ∧ l.length ≤ 40
  · obtain ⟨k, rfl⟩ : ∃ k : Nat, n = k := ⟨n.toNat, by omega⟩
    exact walkLogFullIn k v l w hv (by omega) (by omega) hin.2.2
  · obtain ⟨a, ca, rfl, -, hc, -⟩ := hv
    by_cases q1 : n < 1
    · clear hin
      go_enter Try.func3, Try.ntmps3
      go_wp2_with fail
      refine (alive_any _).mono ?_
      rintro e w1 ⟨rfl, hb1⟩
      go_wp2
      go_ret
      exact ⟨rfl, hb1⟩
    · by_cases q2 : 16 < n
      · clear hin
        go_enter Try.func3, Try.ntmps3
        go_wp2_with fail
        refine (alive_any _).mono ?_
        rintro e w1 ⟨rfl, hb1⟩
        go_wp2
        go_ret
        exact ⟨rfl, hb1⟩
      · have q3 : (40 : Int) < l.length := by
          by_cases h : (40 : Int) < l.length
          · exact h
          · exact absurd ⟨by omega, by omega, by omega⟩ hin
        clear hin
        go_enter Try.func3, Try.ntmps3
        go_wp2_with fail
        refine (alive_any _).mono ?_
        rintro e w1 ⟨rfl, hb1⟩
        go_wp2
        go_ret
        exact ⟨rfl, hb1⟩
end Go.Proofs.Ytjcggkfinhkcoaa
