/-
  The walk of the law ReachTells.
-/
import Derived.Test.YtaenpcglaenlaaaReachBook
import Derived.Lib.MinMax
namespace Go.Proofs.Ytaenpcglaenlaaa
open Go.RowKit
set_option linter.unusedVariables false
set_option linter.unusedSimpArgs false

theorem small_few {n : ByteArray} {l : List TierV} (h : smallP n l = true) : l.length ≤ 10 ∧ n.size ≤ 60 := by
  unfold smallP at h
  rw [Bool.and_eq_true, decide_eq_true_eq] at h
  exact h.2
theorem RV.all_len (r : RV) : r.all.length = r.l.length := r.allN_len _

set_option maxRecDepth 100000 in
set_option maxHeartbeats 16000000 in
theorem walkReachTells (v : Value) (n : ByteArray) (l : List TierV) (now : Int) (wn : (Lit.int .i64 now).wf = true) (fv : Value) (fl : List Int) (sn : ByteArray) (st sx : Int) (tier : Int) (wt : (Lit.int .i64 tier).wf = true) (t : Int) (wtt : (Lit.int .i64 t).wf = true) (later : Int) (wl : (Lit.int .i64 later).wf = true) (w : World)
    (hp : PolAt w v n l) (hns : n.size ≤ 9223372036854775807) (hf : IntsAt w fv fl) (hss : sn.size ≤ 9223372036854775807) (hst : I64 st) (hsx : I64 sx) :
    Calls Try.prog 7 #[v, .int .i64 now, fv, .agg #[.string sn, .int .i64 st, .int .i64 sx], .int .i64 tier, .int .i64 t, .int .i64 later] w (BoolPost w true) := by
  obtain ⟨i0, hi0, hz0, hz1, hz2⟩ := info_parts info_int
  have hn := wf64' wn
  have ht := wf64' wt
  have htt := wf64' wtt
  have hl := wf64' wl
  clear wn wt wtt wl
  have HP := Lib.hid hp
  have HFV := Lib.hid hf
  have HNS := Lib.hid hns
  have HSS := Lib.hid hss
  have HST := Lib.hid hst
  obtain ⟨pv, rfl, htv⟩ := hp
  have HTV := Lib.hid htv
  obtain ⟨pa, pc, rfl, _⟩ := htv
  obtain ⟨fa, fc, rfl, _, hfc, _⟩ := hf
  obtain ⟨q, hq⟩ : ∃ q, q = smallP n l := ⟨_, rfl⟩
  have HQ := Lib.hid hq
  have N := Lib.hid (show I64 now from hn)
  have KT := Lib.hid (show I64 tier from ht)
  have KTT := Lib.hid (show I64 t from htt)
  have KL := Lib.hid (show I64 later from hl)
  clear hq hns
  go_enter Try.func7, Try.ntmps7
  go_wp2_with fail
  refine (small_pol _ n l _ ((HP.out.below (bel_new _ _)).below (bel_new _ _)) HNS.out).mono ?_
  rintro e w1 ⟨rfl, hb⟩
  rw [← HQ.out]
  obtain ⟨h1, h2, hbw⟩ := two_new hb
  have H1 := Lib.hid h1
  have H2 := Lib.hid h2
  have HB1 := Lib.hid hbw
  obtain ⟨p0, p1⟩ := row2 h1
  obtain ⟨s0, s1, s2⟩ := row3 h2
  clear hb hbw h1 h2
  cases q
  · go_wp2_with fail
    refine (alive_any _).mono ?_
    rintro e w9 ⟨rfl, hb⟩
    have HB := Lib.hid (chain HB1.out hb)
    clear hb
    go_wp2
    go_ret
    exact ⟨rfl, HB.out⟩
  · by_cases g1 : (12 : Int) < fl.length
    · go_wp2_with fail
      refine (alive_any _).mono ?_
      rintro e w9 ⟨rfl, hb⟩
      have HB := Lib.hid (chain HB1.out hb)
      clear hb
      go_wp2
      go_ret
      exact ⟨rfl, HB.out⟩
    · by_cases g2 : (300 : Int) < sn.size
      · go_wp2_with fail
        refine (alive_any _).mono ?_
        rintro e w9 ⟨rfl, hb⟩
        have HB := Lib.hid (chain HB1.out hb)
        clear hb
        go_wp2
        go_ret
        exact ⟨rfl, HB.out⟩
      · have hsm := small_few HQ.out.symm
        have hln : l.length ≤ 10 := hsm.1
        have hfn : fl.length ≤ 12 := by omega
        have HLN := Lib.hid hln
        have HFN := Lib.hid hfn
        have HTO := Lib.hid HTV.out.ok
        have HFO := Lib.hid HFV.out.ok
        obtain ⟨bb, hbb⟩ : ∃ bb, bb = w.heap.size := ⟨_, rfl⟩
        rw [← hbb] at p0 p1 H1 s0 s1 s2 H2 ⊢
        clear hsm hbb
        have p2 := cell_step p0 (bel_new w1 (.cells book0 58))
        have p3 := cell_step p1 (bel_new w1 (.cells book0 58))
        unfold book0 at p2 p3
        go_wp2
        obtain ⟨pb, hpb⟩ : ∃ pb, pb = w1.heap.size := ⟨_, rfl⟩
        have HEN := Lib.hid ((Env.new HB1.out).below (bel_new _ (.cells #[.int .i64 now, .string n, .slice pa l.length pc, .slice fa fl.length fc] 60)))
        have HBX := Lib.hid (show Boxes ((w1.alloc (.cells book0 58)).alloc (.cells #[.int .i64 now, .string n, .slice pa l.length pc, .slice fa fl.length fc] 60)) bb (bb + 1) (w1.heap.size + 1) n pa l.length pc sn st sx now fa fl.length fc from
          ⟨heap_step (heap_step H1.out (bel_new _ _)) (bel_new _ _), heap_step (heap_step H2.out (bel_new _ _)) (bel_new _ _), heap_new_at (by simp)⟩)
        rw [← hpb] at HEN HBX ⊢
        clear hpb p0 p1 p2 p3 s0 s1 s2 H1 H2
        go_loopw [17] (fun x wr => ∃ (k : Nat) (cs : Array Value) (vi ui : Nat → Value) (li : Nat → List Int) (vr ur : Nat → Value) (lr : Nat → List TierV), k ≤ 2 ∧ x = .int .i64 k ∧ Hid (Env w wr pb cs (k + k) k vi ui li vr ur lr) ∧ Hid (Boxes wr bb (bb + 1) (pb + 1) n pa l.length pc sn st sx now fa fl.length fc)) (fun x _ => 2 - (intOf x).toNat)
        case atStart => exact ⟨0, _, _, _, _, _, _, _, Nat.zero_le _, rfl, HEN, HBX⟩
        case round =>
          clear HEN HBX
          obtain ⟨k, cs, vi, ui, li, vr, ur, lr, hk, rfl, HE, HB⟩ := hrel
          by_cases hlt : k < 2
          · have hkI : (k : Int) < 2 := by omega
            obtain ⟨p0, p1⟩ := row2 HB.out.pol
            have HDV := Lib.hid (show ∀ i g, i < k + k → rowOf (vi i) = some g → g < wr.heap.size from fun i g hi hg => HE.out.rowi hi hg)
            have HDW := Lib.hid (show ∀ i g, i < k → rowOf (vr i) = some g → g < wr.heap.size from fun i g hi hg => HE.out.rowr hi hg)
            go_wp2_with fail
            refine (lent_ints_own _ fl _ (HFV.out.below HE.out.bel) (by have := HFN.out; omega)).mono ?_
            rintro e w2 ⟨u, rfl, hu, hb, g, cap, cur, rfl, hg, hc⟩
            have HM2 := Lib.hid (show LentB w2 (.slice (some ⟨g, 0, none⟩) fl.length cap) fl g from ⟨cap, cur, rfl, hu, hc⟩)
            have HE2 := Lib.hid (HE.out.below hb)
            have HB2 := Lib.hid (HB.out.below hb)
            have HS2 := Lib.hid hb.size
            obtain ⟨p0, p1⟩ := row2 HB2.out.pol
            obtain ⟨p2, p3⟩ := row2 (HB2.out.below (bel_new w2 (.cells #[.string n, .slice pa l.length pc] 24))).pol
            clear hu hb hg hc HE HB
            go_wp2_with fail
            refine (lent_tiers _ l _ (HTV.out.below (chain HE2.out.bel (bel_new _ _))) (by have := HLN.out; omega)).mono ?_
            rintro e w3 ⟨u, rfl, hu, hb, g2, cap2, cur2, rfl, hg2, hc2⟩
            obtain ⟨hq, hb2⟩ := one_new hb
            obtain ⟨qb, hqb⟩ : ∃ qb, qb = w2.heap.size := ⟨_, rfl⟩
            have hgq : g2 ≠ w2.heap.size := by simp at hg2; omega
            have hbw : Below w2.heap.size w2 (w3.setCell ⟨w2.heap.size, 1, none⟩ (.slice (some ⟨g2, 0, none⟩) l.length cap2)) := bel_set hb2 (Nat.le_refl _)
            have HQ3 := Lib.hid (show (w3.setCell ⟨w2.heap.size, 1, none⟩ (.slice (some ⟨g2, 0, none⟩) l.length cap2)).heap[w2.heap.size]? = some (.cells #[.string n, .slice (some ⟨g2, 0, none⟩) l.length cap2] 24) from set_heap (i := 1) hq (.slice (some ⟨g2, 0, none⟩) l.length cap2))
            have HT3 := Lib.hid (LentT.frame (w' := w3.setCell ⟨w2.heap.size, 1, none⟩ (.slice (some ⟨g2, 0, none⟩) l.length cap2)) (show LentT w3 (.slice (some ⟨g2, 0, none⟩) l.length cap2) l g2 from ⟨cap2, cur2, rfl, hu, hc2⟩) (by simp) (set_heap_other _ hgq))
            have HE3 := Lib.hid (HE2.out.below hbw)
            have HB3 := Lib.hid (HB2.out.below hbw)
            have HM3 := Lib.hid (HM2.out.below hbw)
            have HS3 := Lib.hid (Nat.le_trans HS2.out hbw.size)
            obtain ⟨p0, p1⟩ := row2 HB3.out.pol
            obtain ⟨q0, q1⟩ := row2 hq
            have f1 := frozen_row (o := 1) hq
            rw [← hqb] at HQ3 HT3 HE3 HB3 HM3 HS3 p0 p1 q0 q1 f1 hbw ⊢
            clear hqb hu hb hb2 hg2 hc2 hgq hbw hq HE2 HB2 HM2 HS2 p2 p3
            go_wp2_with fail
            obtain ⟨W3, hW3⟩ : ∃ W3, W3 = w3.setCell ⟨qb, 1, none⟩ (.slice (some ⟨g2, 0, none⟩) l.length cap2) := ⟨_, rfl⟩
            rw [← hW3] at HQ3 HT3 HE3 HB3 HM3 HS3 ⊢
            clear hW3 p0 p1 q0 q1 f1
            have HWS := Lib.hid HS3.out
            refine (ofO _ _ now n l fl _ ⟨_, rfl, (by obtain ⟨_, _, _, h, _⟩ := HT3.out; exact h.tiers HTO.out)⟩ (by obtain ⟨_, _, _, h, _⟩ := HM3.out; exact h.ints HFO.out) (by have := HLN.out; omega) (by have := HFN.out; omega)).mono ?_
            rintro e w4 ⟨u, rfl, ⟨tv, uv, rfl, hti, hfi⟩, hb⟩
            obtain ⟨ta, tc, rfl⟩ := hti.form
            obtain ⟨ra, rc, rfl⟩ := hfi.form
            have HDI := Lib.hid (show ∀ i g, i < k + k → rowOf (vi i) = some g → rowOf (.slice ra fl.length rc) ≠ some g from fun i g hi hg e => by
              have h1 := HDV.out i g hi hg
              have h2 := (hfi.lt e).1
              have := HWS.out
              omega)
            have HDR := Lib.hid (show ∀ i g, i < k → rowOf (vr i) = some g → rowOf (.slice ta l.length tc) ≠ some g from fun i g hi hg e => by
              have h1 := HDW.out i g hi hg
              have h2 := (hti.lt e).1
              have := HWS.out
              omega)
            have hnb := chain hb (bel_new w4 (.cells #[.int .i64 now, .string n, .slice ta l.length tc, .slice ra fl.length rc] 34))
            obtain ⟨rb, hrb⟩ : ∃ rb, rb = w4.heap.size := ⟨_, rfl⟩
            have HR5 := Lib.hid (show (w4.alloc (.cells #[.int .i64 now, .string n, .slice ta l.length tc, .slice ra fl.length rc] 34)).heap[rb]? = some (.cells #[.int .i64 now, .string n, .slice ta l.length tc, .slice ra fl.length rc] 34) by rw [hrb]; exact heap_alloc_new _ _)
            have HE5 := Lib.hid (HE3.out.below hnb)
            have HB5 := Lib.hid (HB3.out.below hnb)
            have HM5 := Lib.hid (HM3.out.below hnb)
            have HT5 := Lib.hid (HT3.out.below hnb)
            have HQ5 := Lib.hid (heap_step HQ3.out hnb)
            have hbs := HE3.out.bel.size
            have HTI := Lib.hid ((hti.mono hbs).below (bel_new w4 (.cells #[.int .i64 now, .string n, .slice ta l.length tc, .slice ra fl.length rc] 34)))
            have HFI := Lib.hid ((hfi.mono hbs).below (bel_new w4 (.cells #[.int .i64 now, .string n, .slice ta l.length tc, .slice ra fl.length rc] 34)))
            have HSR := Lib.hid (show ∀ g, rowOf (.slice ra fl.length rc) = some g → g < w4.heap.size from fun g e => (hfi.lt e).2.1)
            obtain ⟨q0, q1⟩ := row2 (heap_step HQ3.out hb)
            clear hti hfi hb hnb hbs HE3 HB3 HM3 HT3 HQ3 HS3 HWS HDV HDW
            go_wp2
            obtain ⟨V, hV⟩ : ∃ V, V = w4.alloc (.cells #[.int .i64 now, .string n, .slice ta l.length tc, .slice ra fl.length rc] 34) := ⟨_, rfl⟩
            have HVS := Lib.hid (show w4.heap.size < V.heap.size by rw [hV]; simp)
            rw [← hV] at HR5 HE5 HB5 HM5 HT5 HQ5 HTI HFI ⊢
            rw [← hrb] at HSR HVS ⊢
            clear hV hrb q0 q1
            obtain ⟨p0, p1⟩ := row2 HB5.out.pol
            go_loopw [21, 22] (fun al x wr => ∃ (j : Nat) (aa : Option Addr) (ac : Nat), j ≤ l.length ∧ al = .slice aa j ac ∧ x = .int .i64 j ∧ Hid (Below V.heap.size V wr) ∧ Hid (OwnL wr V.heap.size 3 1 (.slice aa j ac) j (((⟨now, n, l, fl⟩ : RV).allN j).map (Value.int .i64)))) (fun _ x _ => l.length - (intOf x).toNat)
            case atStart => exact ⟨0, none, 0, Nat.zero_le _, rfl, rfl, Lib.hid (Below.refl _ _), Lib.hid (OwnL.nil _ _ _ _ _)⟩
            case round =>
              clear p0 p1
              obtain ⟨j, aa, ac, hj, rfl, rfl, HX, HA⟩ := hrel
              have HBj := Lib.hid (HB5.out.below HX.out)
              obtain ⟨p0, p1⟩ := row2 HBj.out.pol
              by_cases hjl : j < l.length
              · have hjI : (j : Int) < l.length := by omega
                obtain ⟨d0, d1, d2, d3⟩ := row4 HBj.out.ref
                have hjr : j ≤ 10 := by have := HLN.out; omega
                have HEj := Lib.hid (chain HE5.out.bel HX.out)
                go_wp2_with fail
                refine (qfrom_any _ (⟨now, n, l, fl⟩ : RV) j _ ⟨_, _, rfl, HTV.out.below HEj.out, HFV.out.below HEj.out⟩ N.out (by unfold I64; omega)).mono ?_
                rintro e w6 ⟨rfl, hb6⟩
                rw [RV.from_nat (⟨now, n, l, fl⟩ : RV) j hjl]
                have HX6 := Lib.hid (chain HX.out hb6)
                have HA6 := Lib.hid (HA.out.below hb6)
                have HX6s := HX6.out.size
                obtain ⟨fx, hfx⟩ : ∃ fx, fx = (⟨now, n, l, fl⟩ : RV).fromN j := ⟨_, rfl⟩
                rw [← hfx]
                have HFX := Lib.hid hfx
                clear hb6 hfx p0 p1 d0 d1 d2 d3
                go_wp2_with (at_builtin; refine wpList_append_two rfl (.tmp 73) (.tmp 77) 25 rfl V.heap.size 3 i0 (.int .i64 0) 1 8 Try.underlying25 hi0 hz0 hz1 hz2 rfl (by decide) _ j _ rfl (HA6.out.below (bel_new w6 (.cells #[.int .i64 fx] 3))) ⟨w6.heap.size, 0, none⟩ 1 1 [.int .i64 fx] rfl rfl ?c1 ?c2 (by decide) ?c3 ?c4 ?c5 ?_)
                (try case c1 => exact one_cell _ _ _)
                (try case c2 => simp [Value.oneCell'])
                case c3 => unfold maxLen; omega
                case c4 => omega
                case c5 => first | omega | (simp; omega)
                intro g7 cap7 w7 hown7 hcase7 hcap7
                have hal := HA6.out.below (bel_new w6 (.cells #[.int .i64 fx] 3))
                have HX7 := Lib.hid (show Below V.heap.size V w7 from (bel_alloc HX6.out HX6s).trans (by
                  rcases hcase7.out with ⟨e, hg⟩ | ⟨e, hg⟩
                  · refine grown_below hg (by simp; omega) (fun g e2 => ?_)
                    injection e2 with e2
                    subst e2
                    exact (hal.lt (by rw [e]; exact rowOf_pos hcap7)).1
                  · exact grown_below hg (by simp; omega) (fun g e2 => nomatch e2)))
                have HA7 := Lib.hid (show OwnL w7 V.heap.size 3 1 (.slice (some ⟨g7, 0, none⟩) (j + 1) cap7) (j + 1) (((⟨now, n, l, fl⟩ : RV).allN (j + 1)).map (Value.int .i64)) by rw [RV.allN_succ, List.map_append, ← HFX.out]; exact hown7)
                clear hown7 hcase7 hcap7 hal HX6 HA6
                go_wp2
                go_roundw
                case rel => exact ⟨j + 1, some ⟨g7, 0, none⟩, cap7, hjl, rfl, by go_num, HX7, HA7⟩
                case measure => simp [intOf]; omega
              · obtain rfl : j = l.length := by omega
                have HE6 := Lib.hid (HE5.out.below HX.out)
                have HM6 := Lib.hid (HM5.out.below HX.out)
                have HT6 := Lib.hid (HT5.out.below HX.out)
                have HQ6 := Lib.hid (heap_step HQ5.out HX.out)
                have HTI6 := Lib.hid (HTI.out.below HX.out)
                have HFI6 := Lib.hid (HFI.out.below HX.out)
                have HR6 := Lib.hid (heap_step HR5.out HX.out)
                have HS6 := Lib.hid (show rb < wr.heap.size from Nat.lt_of_lt_of_le HVS.out HX.out.size)
                have hvs := HE5.out.bel.size
                have HA6 := Lib.hid (HA.out.mono hvs)
                have hlr := HE6.out.bel.size
                obtain ⟨r0, r1, r2, r3⟩ := row4 HR6.out
                clear HE5 HM5 HT5 HQ5 HTI HFI HR5 HX HA hvs HVS HB5
                go_wp2_with fail
                refine (all_any _ (⟨now, n, l, fl⟩ : RV) _ ⟨_, _, rfl, tiers_of_ownL HTI6.out HTO.out, ints_of_ownL HFI6.out HFO.out⟩ N.out (by have := HLN.out; show l.length ≤ _; omega)).mono ?_
                rintro e w6 ⟨u, rfl, ⟨ho, hi⟩, hb⟩
                dsimp only at ho hi
                obtain ⟨AL, hAL⟩ : ∃ AL, AL = (⟨now, n, l, fl⟩ : RV).all := ⟨_, rfl⟩
                have hlen : AL.length = l.length := by rw [hAL]; exact RV.all_len _
                rw [← hAL] at ho hi
                have hap := HA6.out
                rw [show (⟨now, n, l, fl⟩ : RV).allN l.length = AL from hAL.symm] at hap
                have HALO := Lib.hid hi.ok
                have HALN := Lib.hid hlen
                obtain ⟨ua, uc, rfl⟩ := (OwnL.of_row ho).form
                have HRW := Lib.hid (show ∀ i g, i < k + k → rowOf (vi i) = some g → rowOf (.slice ua l.length uc) ≠ some g from fun i g hi hg e => by
                  have h1 := HE6.out.rowi hi hg
                  have h2 := ((OwnL.of_row ho).lt e).1
                  omega)
                have HRX := Lib.hid (show ∀ g, rowOf (.slice ua l.length uc) = some g → rowOf (.slice ra fl.length rc) ≠ some g from fun g hg e => by
                  have h1 := HSR.out g e
                  have h2 := ((OwnL.of_row ho).lt hg).1
                  have := HS6.out
                  omega)
                have HO7 := Lib.hid (OwnL.mono (OwnL.of_row ho) (show w.heap.size ≤ wr.heap.size + 1 by omega))
                have HE7 := Lib.hid (HE6.out.below hb)
                have HB7 := Lib.hid (HBj.out.below hb)
                have HM7 := Lib.hid (HM6.out.below hb)
                have HT7 := Lib.hid (HT6.out.below hb)
                have HQ7 := Lib.hid (heap_step HQ6.out hb)
                have HR7 := Lib.hid (heap_step HR6.out hb)
                have HTI7 := Lib.hid (HTI6.out.below hb)
                have HFI7 := Lib.hid (HFI6.out.below hb)
                have HA7 := Lib.hid (OwnL.below hap hb)
                clear ho hi hAL hlen hap hb HE6 HBj HM6 HT6 HQ6 HR6 HTI6 HFI6 HA6 HS6 HSR r0 r1 r2 r3 p0 p1 hlr
                go_wp2_with fail
                refine (env_i HE7.out (by omega) (by rw [HALN.out]; exact HO7.out) HRW.out (by have := HALN.out; have := HLN.out; omega) HALO.out).mono ?_
                rintro e w8 ⟨rfl, cs8, u8, he, hs⟩
                have HE8 := Lib.hid he
                have HB8 := Lib.hid (HB7.out.kstep hs)
                have HM8 := Lib.hid (HM7.out.kstep hs)
                have HT8 := Lib.hid (HT7.out.kstep hs)
                have HQ8 := Lib.hid (hs.blk HQ7.out (by unfold Aside; decide))
                have HR8 := Lib.hid (hs.blk HR7.out (by unfold Aside; decide))
                have HTI8 := Lib.hid (hs.own HTI7.out aside_tier)
                have HFI8 := Lib.hid (hs.own HFI7.out aside_int)
                have HO8 := Lib.hid (hs.own HO7.out aside_int)
                have HA8 := Lib.hid (hs.own HA7.out aside_int)
                have HRY := Lib.hid (show ∀ i g, i < k + k + 1 → rowOf (snocF vi (k + k) (.slice ua l.length uc) i) = some g → rowOf (.slice ra fl.length rc) ≠ some g from fun i g hi hg => by
                  by_cases hik : i = k + k
                  · subst hik
                    rw [snocF_last] at hg
                    exact HRX.out g hg
                  · rw [snocF_old _ _ (show i < k + k by omega)] at hg
                    exact HDI.out i g (by omega) hg)
                obtain ⟨r0, r1, r2, r3⟩ := row4 HR8.out
                clear he hs HE7 HB7 HM7 HT7 HQ7 HR7 HTI7 HFI7 HO7 HA7 HRW HRX
                go_wp2_with fail
                refine (env_i HE8.out (by omega) HFI8.out HRY.out (by have := HFN.out; omega) HFO.out).mono ?_
                rintro e w9 ⟨rfl, cs9, u9, he, hs⟩
                have HE9 := Lib.hid he
                have HB9 := Lib.hid (HB8.out.kstep hs)
                have HM9 := Lib.hid (HM8.out.kstep hs)
                have HT9 := Lib.hid (HT8.out.kstep hs)
                have HQ9 := Lib.hid (hs.blk HQ8.out (by unfold Aside; decide))
                have HR9 := Lib.hid (hs.blk HR8.out (by unfold Aside; decide))
                have HTI9 := Lib.hid (hs.own HTI8.out aside_tier)
                have HFI9 := Lib.hid (hs.own HFI8.out aside_int)
                have HO9 := Lib.hid (hs.own HO8.out aside_int)
                have HA9 := Lib.hid (hs.own HA8.out aside_int)
                obtain ⟨r0, r1, r2, r3⟩ := row4 HR9.out
                clear he hs HE8 HB8 HM8 HT8 HQ8 HR8 HTI8 HFI8 HO8 HA8 HRY
                go_wp2_with fail
                refine (env_r HE9.out (by omega) HTI9.out HDR.out (by have := HLN.out; omega) HTO.out).mono ?_
                rintro e w10 ⟨rfl, cs10, u10, he, hs⟩
                obtain ⟨vi', hvi'⟩ : ∃ f, f = snocF (snocF vi (k + k) (.slice ua l.length uc)) (k + k + 1) (.slice ra fl.length rc) := ⟨_, rfl⟩
                obtain ⟨ui', hui'⟩ : ∃ f, f = snocF (snocF ui (k + k) u8) (k + k + 1) u9 := ⟨_, rfl⟩
                obtain ⟨li', hli'⟩ : ∃ f, f = snocF (snocF li (k + k) AL) (k + k + 1) fl := ⟨_, rfl⟩
                rw [← hvi', ← hui', ← hli', show k + k + 1 + 1 = (k + 1) + (k + 1) by omega] at he
                have HE10 := Lib.hid he
                have HB10 := Lib.hid (HB9.out.kstep hs)
                have HM10 := Lib.hid (HM9.out.kstep hs)
                have HT10 := Lib.hid (HT9.out.kstep hs)
                have HQ10 := Lib.hid (hs.blk HQ9.out (by unfold Aside; decide))
                have HR10 := Lib.hid (hs.blk HR9.out (by unfold Aside; decide))
                have HTI10 := Lib.hid (tiers_of_ownL (hs.own HTI9.out aside_tier) HTO.out)
                have HFI10 := Lib.hid (ints_of_ownL (hs.own HFI9.out aside_int) HFO.out)
                have HO10 := Lib.hid (show IntsAt w10 (.slice ua l.length uc) AL from ints_of_ownL (by rw [HALN.out]; exact hs.own HO9.out aside_int) HALO.out)
                have HA10 := Lib.hid (show IntsAt w10 (.slice aa l.length ac) AL from ints_of_ownL (by rw [HALN.out]; exact hs.own HA9.out aside_int) HALO.out)
                clear he hs hvi' hui' hli' HE9 HB9 HM9 HT9 HQ9 HR9 HTI9 HFI9 HO9 HA9 HDI HDR
                obtain ⟨r0, r1, r2, r3⟩ := row4 HR10.out
                go_wp2_with fail
                refine (start_any _ (⟨now, n, l, fl⟩ : RV) tier t _ ⟨_, _, rfl, HTI10.out, HFI10.out⟩ N.out KT.out KTT.out).mono ?_
                rintro e w11 ⟨rfl, hb⟩
                obtain ⟨vr', hvr'⟩ : ∃ f, f = snocF vr k (.slice ta l.length tc) := ⟨_, rfl⟩
                obtain ⟨ur', hur'⟩ : ∃ f, f = snocF ur k u10 := ⟨_, rfl⟩
                obtain ⟨lr', hlr'⟩ : ∃ f, f = snocF lr k l := ⟨_, rfl⟩
                rw [← hvr', ← hur', ← hlr'] at HE10
                obtain ⟨FS, h0, h1, h2⟩ : ∃ FS : World → Prop, FS w10 ∧ (∀ w1 w2, FS w1 → Below w1.heap.size w1 w2 → FS w2) ∧ (∀ w1, FS w1 → Env w w1 pb cs10 (k + 1 + (k + 1)) (k + 1) vi' ui' li' vr' ur' lr' ∧ Boxes w1 bb (bb + 1) (pb + 1) n pa l.length pc sn st sx now fa fl.length fc ∧ LentB w1 (.slice (some ⟨g, 0, none⟩) fl.length cap) fl g ∧ LentT w1 (.slice (some ⟨g2, 0, none⟩) l.length cap2) l g2 ∧ w1.heap[qb]? = some (.cells #[.string n, .slice (some ⟨g2, 0, none⟩) l.length cap2] 24) ∧ RBox w1 rb ta tc ra rc (⟨now, n, l, fl⟩ : RV) ∧ IntsAt w1 (.slice ua l.length uc) AL ∧ IntsAt w1 (.slice aa l.length ac) AL) := by
                  refine ⟨fun w' => Env w w' pb cs10 (k + 1 + (k + 1)) (k + 1) vi' ui' li' vr' ur' lr' ∧ Boxes w' bb (bb + 1) (pb + 1) n pa l.length pc sn st sx now fa fl.length fc ∧ LentB w' (.slice (some ⟨g, 0, none⟩) fl.length cap) fl g ∧ LentT w' (.slice (some ⟨g2, 0, none⟩) l.length cap2) l g2 ∧ w'.heap[qb]? = some (.cells #[.string n, .slice (some ⟨g2, 0, none⟩) l.length cap2] 24) ∧ RBox w' rb ta tc ra rc (⟨now, n, l, fl⟩ : RV) ∧ IntsAt w' (.slice ua l.length uc) AL ∧ IntsAt w' (.slice aa l.length ac) AL, ⟨HE10.out, HB10.out, HM10.out, HT10.out, HQ10.out, ⟨HR10.out, _, _, rfl, HTI10.out, HFI10.out⟩, HO10.out, HA10.out⟩, fun w1 w2 h hb => ?_, fun w1 h => h⟩
                  obtain ⟨a1, a2, a3, a4, a5, a6, a7, a8⟩ := h
                  exact ⟨a1.below hb, a2.below hb, a3.below hb, a4.below hb, heap_step a5 hb, a6.step hb, a7.below hb, a8.below hb⟩
                have HF11 := Lib.hid (h1 _ _ h0 hb)
                have HFB := Lib.hid h1
                have HFO2 := Lib.hid h2
                obtain ⟨S1, hS1⟩ : ∃ x, x = ((⟨now, n, l, fl⟩ : RV).start tier t).1 := ⟨_, rfl⟩
                obtain ⟨S2, hS2⟩ : ∃ x, x = ((⟨now, n, l, fl⟩ : RV).start tier t).2 := ⟨_, rfl⟩
                rw [← hS1, ← hS2]
                have HS1 := Lib.hid hS1
                have HS2 := Lib.hid hS2
                clear h0 h1 h2 hb hS1 hS2 hvr' hur' hlr' HE10 HB10 HM10 HT10 HQ10 HR10 HTI10 HFI10 HO10 HA10 r0 r1 r2 r3
                obtain ⟨d0, d1, d2, d3⟩ := row4 (HFO2.out _ HF11.out).2.1.ref
                go_wp2_with fail
                refine (qstart_any _ (⟨now, n, l, fl⟩ : RV) tier t _ ⟨_, _, rfl, HTV.out.below (HFO2.out _ HF11.out).1.bel, HFV.out.below (HFO2.out _ HF11.out).1.bel⟩ N.out KT.out KTT.out).mono ?_
                rintro e w12 ⟨rfl, hb⟩
                rw [← HS1.out, ← HS2.out]
                have HF12 := Lib.hid (HFB.out _ _ HF11.out hb)
                clear hb HF11 HS1 HS2 d0 d1 d2 d3
                obtain ⟨d0, d1, d2, d3⟩ := row4 (HFO2.out _ HF12.out).2.1.ref
                obtain ⟨r0, r1, r2, r3⟩ := (HFO2.out _ HF12.out).2.2.2.2.2.1.cells
                have HF13 := Lib.hid (HFB.out _ _ HF12.out (bel_new w12 (.cells #[.int .i64 (max now later), .string n, .slice pa l.length pc, .slice fa fl.length fc] 60)))
                obtain ⟨t0, t1, t2, t3⟩ := (HFO2.out _ HF13.out).2.2.2.2.2.1.cells
                dsimp only at r0 r1 r2 r3 t0 t1 t2 t3
                go_wp2_with fail
                obtain ⟨M, hM⟩ : ∃ M, M = max now later := ⟨_, rfl⟩
                obtain ⟨yb, hyb⟩ : ∃ yb, yb = w12.heap.size := ⟨_, rfl⟩
                rw [← hM] at HF13 ⊢
                have KM := Lib.hid (show I64 M by rw [hM]; unfold I64; omega)
                have HY13 := Lib.hid (show (w12.alloc (.cells #[.int .i64 M, .string n, .slice pa l.length pc, .slice fa fl.length fc] 60)).heap[yb]? = some (.cells #[.int .i64 M, .string n, .slice pa l.length pc, .slice fa fl.length fc] 60) by rw [hyb]; exact heap_alloc_new _ _)
                rw [← hyb]
                obtain ⟨w13, hw13⟩ : ∃ w13, w13 = w12.alloc (.cells #[.int .i64 M, .string n, .slice pa l.length pc, .slice fa fl.length fc] 60) := ⟨_, rfl⟩
                rw [← hw13] at HF13 HY13 ⊢
                have HMM := Lib.hid hM
                clear hM hyb hw13 HF12 d0 d1 d2 d3 r0 r1 r2 r3 t0 t1 t2 t3
                refine (later_any _ (⟨now, n, l, fl⟩ : RV) later _ (HFO2.out _ HF13.out).2.2.2.2.2.1.lies (by have := HLN.out; show l.length ≤ _; omega) (by have := HFN.out; show fl.length ≤ _; omega)).mono ?_
                rintro e w14 ⟨u, rfl, hu, hb⟩
                have HU := Lib.hid (show ReachAt w14 u (⟨M, n, l, fl⟩ : RV) by rw [HMM.out, Int.max_comm]; exact hu.at)
                obtain ⟨la, lc, lfa, lfc, hz⟩ := HU.out.form
                dsimp only at hz
                subst hz
                have hnb := chain hb (bel_new w14 (.cells #[.int .i64 M, .string n, .slice la l.length lc, .slice lfa fl.length lfc] 34))
                obtain ⟨lb, hlb⟩ : ∃ lb, lb = w14.heap.size := ⟨_, rfl⟩
                have HF15 := Lib.hid (HFB.out _ _ HF13.out hnb)
                have HY15 := Lib.hid (heap_step HY13.out hnb)
                have HL15 := Lib.hid (show RBox (w14.alloc (.cells #[.int .i64 M, .string n, .slice la l.length lc, .slice lfa fl.length lfc] 34)) lb la lc lfa lfc (⟨M, n, l, fl⟩ : RV) from ⟨by rw [hlb]; exact heap_alloc_new _ _, HU.out.below (bel_new _ _)⟩)
                obtain ⟨r0, r1, r2, r3⟩ := (HFO2.out _ HF15.out).2.2.2.2.2.1.cells
                obtain ⟨d0, d1, d2, d3⟩ := row4 (HFO2.out _ HF15.out).2.1.ref
                obtain ⟨y0, y1, y2, y3⟩ := row4 HY15.out
                obtain ⟨e0, e1, e2, e3⟩ := HL15.out.cells
                obtain ⟨s0, s1, s2⟩ := row3 (HFO2.out _ HF15.out).2.1.sam
                dsimp only at r0 r1 r2 r3 e0 e1 e2 e3
                obtain ⟨F, hF⟩ : ∃ F, F = (⟨now, n, l, fl⟩ : RV).from tier := ⟨_, rfl⟩
                obtain ⟨T, hT⟩ : ∃ F, F = (⟨now, n, l, fl⟩ : RV).takes sn st := ⟨_, rfl⟩
                obtain ⟨C, hC⟩ : ∃ F, F = (⟨now, n, l, fl⟩ : RV).cover t := ⟨_, rfl⟩
                obtain ⟨F2, hF2⟩ : ∃ F, F = (⟨M, n, l, fl⟩ : RV).from tier := ⟨_, rfl⟩
                have HF := Lib.hid hF
                have HT := Lib.hid hT
                have HC := Lib.hid hC
                have HF2 := Lib.hid hF2
                have HL6 := Lib.hid (show (⟨now, n, l, fl⟩ : RV).l.length ≤ 1000000 by have := HLN.out; show l.length ≤ _; omega)
                clear hu hb hnb HF13 HY13 HU hF hT hC hF2
                go_wp2_with fail
                rw [← hlb]
                obtain ⟨W15, hW15⟩ : ∃ W, W = w14.alloc (.cells #[.int .i64 M, .string n, .slice la l.length lc, .slice lfa fl.length lfc] 34) := ⟨_, rfl⟩
                rw [← hW15] at r0 r1 r2 r3 d0 d1 d2 d3 y0 y1 y2 y3 e0 e1 e2 e3 s0 s1 s2 HF15 HY15 HL15 ⊢
                clear hW15 hlb
                refine wp_region_inv (R := Blw) (S := (fun w' => (FS w' ∧ RBox w' lb la lc lfa lfc (⟨M, n, l, fl⟩ : RV) ∧ w'.heap[yb]? = some (.cells #[.int .i64 M, .string n, .slice pa l.length pc, .slice fa fl.length fc] 60)) ∧ w'.cell? ⟨rb, 0, none⟩ = some (.int .i64 now) ∧ w'.cell? ⟨rb, 1, none⟩ = some (.string n) ∧ w'.cell? ⟨rb, 2, none⟩ = some (.slice ta l.length tc) ∧ w'.cell? ⟨rb, 3, none⟩ = some (.slice ra fl.length rc) ∧ w'.cell? ⟨pb + 1, 0, none⟩ = some (.int .i64 now) ∧ w'.cell? ⟨pb + 1, 1, none⟩ = some (.string n) ∧ w'.cell? ⟨pb + 1, 2, none⟩ = some (.slice pa l.length pc) ∧ w'.cell? ⟨pb + 1, 3, none⟩ = some (.slice fa fl.length fc) ∧ w'.cell? ⟨yb, 0, none⟩ = some (.int .i64 M) ∧ w'.cell? ⟨yb, 1, none⟩ = some (.string n) ∧ w'.cell? ⟨yb, 2, none⟩ = some (.slice pa l.length pc) ∧ w'.cell? ⟨yb, 3, none⟩ = some (.slice fa fl.length fc) ∧ w'.cell? ⟨lb, 0, none⟩ = some (.int .i64 M) ∧ w'.cell? ⟨lb, 1, none⟩ = some (.string n) ∧ w'.cell? ⟨lb, 2, none⟩ = some (.slice la l.length lc) ∧ w'.cell? ⟨lb, 3, none⟩ = some (.slice lfa fl.length lfc) ∧ w'.cell? ⟨bb + 1, 0, none⟩ = some (.string sn) ∧ w'.cell? ⟨bb + 1, 1, none⟩ = some (.int .i64 st) ∧ w'.cell? ⟨bb + 1, 2, none⟩ = some (.int .i64 sx))) 63 (Spec.val ?_ :: Spec.val ?_ :: Spec.val ?_ :: Spec.val ?_ :: Spec.val ?_ :: Spec.val ?_ :: Spec.val ?_ :: Spec.val ?_ :: Spec.val ?_ :: Spec.val ?_ :: Spec.val ?_ :: Spec.val ?_ :: Spec.val ?_ :: Spec.val ?_ :: Spec.val ?_ :: Spec.val ?_ :: Spec.val ?_ :: Spec.val ?_ :: Spec.val ?_ :: Spec.val ?_ :: Spec.val ?_ :: Spec.val ?_ :: Spec.val ?_ :: Spec.val ?_ :: Spec.val ?_ :: Spec.val ?_ :: Spec.val ?_ :: Spec.val ?_ :: Spec.val ?_ :: Spec.val ?_ :: Spec.val ?_ :: Spec.val ?_ :: Spec.val ?_ :: Spec.val ?_ :: Spec.val ?_ :: Spec.val ?_ :: Spec.val ?_ :: Spec.val ?_ :: Spec.val ?_ :: Spec.val ?_ :: Spec.val ?_ :: Spec.val ?_ :: Spec.val ?_ :: Spec.val ?_ :: Spec.val ?_ :: Spec.val ?_ :: Spec.val ?_ :: Spec.val ?_ :: Spec.val ?_ :: Spec.val ?_ :: Spec.val ?_ :: Spec.val ?_ :: Spec.val ?_ :: Spec.val ?_ :: Spec.val ?_ :: Spec.val ?_ :: Spec.val ?_ :: Spec.val ?_ :: Spec.val ?_ :: Spec.val ?_ :: Spec.val ?_ :: Spec.val ?_ :: Spec.val ?_ :: []) (by kernel_rfl) (by kernel_rfl) rfl (fun w1 w2 h hb => ⟨⟨HFB.out _ _ h.1.1 hb, h.1.2.1.step hb, heap_step h.1.2.2 hb⟩, cell_step h.2.1 hb, cell_step h.2.2.1 hb, cell_step h.2.2.2.1 hb, cell_step h.2.2.2.2.1 hb, cell_step h.2.2.2.2.2.1 hb, cell_step h.2.2.2.2.2.2.1 hb, cell_step h.2.2.2.2.2.2.2.1 hb, cell_step h.2.2.2.2.2.2.2.2.1 hb, cell_step h.2.2.2.2.2.2.2.2.2.1 hb, cell_step h.2.2.2.2.2.2.2.2.2.2.1 hb, cell_step h.2.2.2.2.2.2.2.2.2.2.2.1 hb, cell_step h.2.2.2.2.2.2.2.2.2.2.2.2.1 hb, cell_step h.2.2.2.2.2.2.2.2.2.2.2.2.2.1 hb, cell_step h.2.2.2.2.2.2.2.2.2.2.2.2.2.2.1 hb, cell_step h.2.2.2.2.2.2.2.2.2.2.2.2.2.2.2.1 hb, cell_step h.2.2.2.2.2.2.2.2.2.2.2.2.2.2.2.2.1 hb, cell_step h.2.2.2.2.2.2.2.2.2.2.2.2.2.2.2.2.2.1 hb, cell_step h.2.2.2.2.2.2.2.2.2.2.2.2.2.2.2.2.2.2.1 hb, cell_step h.2.2.2.2.2.2.2.2.2.2.2.2.2.2.2.2.2.2.2 hb⟩) (⟨⟨HFB.out _ _ HF15.out (Below.refl _ _).drew, HL15.out.step (Below.refl _ _).drew, heap_step HY15.out (Below.refl _ _).drew⟩, r0, r1, r2, r3, d0, d1, d2, d3, y0, y1, y2, y3, e0, e1, e2, e3, s0, s1, s2⟩) ?hm1
                case' hm1 => skip
                refine inv_val (i := 0) (by kernel_rfl) rfl rfl (fun w1 hS hd K hK => ?_) ?_
                · (try dsimp only at hS); go_simp; exact hK.out _ _ (by simp only [Act.put, List.setIfInBounds_toArray, List.set_cons_zero, List.set_cons_succ, List.nil_append, List.cons_append]; rfl) (Below.refl _ _)
                simp only [Act.put, List.setIfInBounds_toArray, List.set_cons_zero, List.set_cons_succ, List.nil_append, List.cons_append]
                refine inv_val (i := 1) (by kernel_rfl) rfl rfl (fun w1 hS hd K hK => ?_) ?_
                · (try dsimp only at hS); go_simp; exact hK.out _ _ (by simp only [Act.put, List.setIfInBounds_toArray, List.set_cons_zero, List.set_cons_succ, List.nil_append, List.cons_append]; rfl) (Below.refl _ _)
                simp only [Act.put, List.setIfInBounds_toArray, List.set_cons_zero, List.set_cons_succ, List.nil_append, List.cons_append]
                refine inv_val (i := 2) (by kernel_rfl) rfl rfl (fun w1 hS hd K hK => ?_) ?_
                · (try dsimp only at hS); go_simp; refine (from_any _ (⟨now, n, l, fl⟩ : RV) tier _ (HFO2.out _ hS.1.1).2.2.2.2.2.1.lies N.out KT.out).mono ?_; rintro e w2 ⟨rfl, hb⟩; rw [← HF.out]; exact hK.out _ _ (by simp only [Act.put, List.setIfInBounds_toArray, List.set_cons_zero, List.set_cons_succ, List.nil_append, List.cons_append]; rfl) hb
                simp only [Act.put, List.setIfInBounds_toArray, List.set_cons_zero, List.set_cons_succ, List.nil_append, List.cons_append]
                refine inv_val (i := 3) (by kernel_rfl) rfl rfl (fun w1 hS hd K hK => ?_) ?_
                · (try dsimp only at hS); go_simp; exact hK.out _ _ (by simp only [Act.put, List.setIfInBounds_toArray, List.set_cons_zero, List.set_cons_succ, List.nil_append, List.cons_append]; rfl) (Below.refl _ _)
                simp only [Act.put, List.setIfInBounds_toArray, List.set_cons_zero, List.set_cons_succ, List.nil_append, List.cons_append]
                refine inv_val (i := 4) (by kernel_rfl) rfl rfl (fun w1 hS hd K hK => ?_) ?_
                · (try dsimp only at hS); go_simp; exact hK.out _ _ (by simp only [Act.put, List.setIfInBounds_toArray, List.set_cons_zero, List.set_cons_succ, List.nil_append, List.cons_append]; rfl) (Below.refl _ _)
                simp only [Act.put, List.setIfInBounds_toArray, List.set_cons_zero, List.set_cons_succ, List.nil_append, List.cons_append]
                refine inv_val (i := 5) (by kernel_rfl) rfl rfl (fun w1 hS hd K hK => ?_) ?_
                · (try dsimp only at hS); go_simp; refine (qfrom_any _ (⟨now, n, l, fl⟩ : RV) tier _ ⟨_, _, rfl, HTV.out.below (HFO2.out _ hS.1.1).1.bel, HFV.out.below (HFO2.out _ hS.1.1).1.bel⟩ N.out KT.out).mono ?_; rintro e w2 ⟨rfl, hb⟩; rw [← HF.out]; exact hK.out _ _ (by simp only [Act.put, List.setIfInBounds_toArray, List.set_cons_zero, List.set_cons_succ, List.nil_append, List.cons_append]; rfl) hb
                simp only [Act.put, List.setIfInBounds_toArray, List.set_cons_zero, List.set_cons_succ, List.nil_append, List.cons_append]
                refine inv_val (i := 6) (by kernel_rfl) rfl rfl (fun w1 hS hd K hK => ?_) ?_
                · (try dsimp only at hS); go_simp; exact hK.out _ _ (by simp only [Act.put, List.setIfInBounds_toArray, List.set_cons_zero, List.set_cons_succ, List.nil_append, List.cons_append]; rfl) (Below.refl _ _)
                simp only [Act.put, List.setIfInBounds_toArray, List.set_cons_zero, List.set_cons_succ, List.nil_append, List.cons_append]
                refine inv_val (i := 7) (by kernel_rfl) rfl rfl (fun w1 hS hd K hK => ?_) ?_
                · (try dsimp only at hS); go_simp; exact hK.out _ _ (by simp only [Act.put, List.setIfInBounds_toArray, List.set_cons_zero, List.set_cons_succ, List.nil_append, List.cons_append]; rfl) (Below.refl _ _)
                simp only [Act.put, List.setIfInBounds_toArray, List.set_cons_zero, List.set_cons_succ, List.nil_append, List.cons_append]
                refine inv_val (i := 8) (by kernel_rfl) rfl rfl (fun w1 hS hd K hK => ?_) ?_
                · (try dsimp only at hS); go_simp; exact hK.out _ _ (by simp only [Act.put, List.setIfInBounds_toArray, List.set_cons_zero, List.set_cons_succ, List.nil_append, List.cons_append]; rfl) (Below.refl _ _)
                simp only [Act.put, List.setIfInBounds_toArray, List.set_cons_zero, List.set_cons_succ, List.nil_append, List.cons_append]
                refine inv_val (i := 9) (by kernel_rfl) rfl rfl (fun w1 hS hd K hK => ?_) ?_
                · (try dsimp only at hS); go_simp; exact hK.out _ _ (by simp only [Act.put, List.setIfInBounds_toArray, List.set_cons_zero, List.set_cons_succ, List.nil_append, List.cons_append]; rfl) (Below.refl _ _)
                simp only [Act.put, List.setIfInBounds_toArray, List.set_cons_zero, List.set_cons_succ, List.nil_append, List.cons_append]
                refine inv_val (i := 10) (by kernel_rfl) rfl rfl (fun w1 hS hd K hK => ?_) ?_
                · (try dsimp only at hS); go_simp; refine (same_ints _ _ AL AL _ (HFO2.out _ hS.1.1).2.2.2.2.2.2.1 (HFO2.out _ hS.1.1).2.2.2.2.2.2.2).mono ?_; rintro e w2 ⟨rfl, hb⟩; rw [show decide (AL = AL) = true from decide_eq_true rfl]; exact hK.out _ _ (by simp only [Act.put, List.setIfInBounds_toArray, List.set_cons_zero, List.set_cons_succ, List.nil_append, List.cons_append]; rfl) hb
                simp only [Act.put, List.setIfInBounds_toArray, List.set_cons_zero, List.set_cons_succ, List.nil_append, List.cons_append]
                refine inv_val (i := 11) (by kernel_rfl) rfl rfl (fun w1 hS hd K hK => ?_) ?_
                · (try dsimp only at hS); go_simp; exact hK.out _ _ (by simp only [Act.put, List.setIfInBounds_toArray, List.set_cons_zero, List.set_cons_succ, List.nil_append, List.cons_append]; rfl) (Below.refl _ _)
                simp only [Act.put, List.setIfInBounds_toArray, List.set_cons_zero, List.set_cons_succ, List.nil_append, List.cons_append]
                refine inv_val (i := 12) (by kernel_rfl) rfl rfl (fun w1 hS hd K hK => ?_) ?_
                · (try dsimp only at hS); go_simp; exact hK.out _ _ (by simp only [Act.put, List.setIfInBounds_toArray, List.set_cons_zero, List.set_cons_succ, List.nil_append, List.cons_append]; rfl) (Below.refl _ _)
                simp only [Act.put, List.setIfInBounds_toArray, List.set_cons_zero, List.set_cons_succ, List.nil_append, List.cons_append]
                refine inv_val (i := 13) (by kernel_rfl) rfl rfl (fun w1 hS hd K hK => ?_) ?_
                · (try dsimp only at hS); go_simp; exact hK.out _ _ (by simp only [Act.put, List.setIfInBounds_toArray, List.set_cons_zero, List.set_cons_succ, List.nil_append, List.cons_append]; rfl) (Below.refl _ _)
                simp only [Act.put, List.setIfInBounds_toArray, List.set_cons_zero, List.set_cons_succ, List.nil_append, List.cons_append]
                refine inv_val (i := 14) (by kernel_rfl) rfl rfl (fun w1 hS hd K hK => ?_) ?_
                · (try dsimp only at hS); go_simp; exact hK.out _ _ (by simp only [Act.put, List.setIfInBounds_toArray, List.set_cons_zero, List.set_cons_succ, List.nil_append, List.cons_append]; rfl) (Below.refl _ _)
                simp only [Act.put, List.setIfInBounds_toArray, List.set_cons_zero, List.set_cons_succ, List.nil_append, List.cons_append]
                refine inv_val (i := 15) (by kernel_rfl) rfl rfl (fun w1 hS hd K hK => ?_) ?_
                · (try dsimp only at hS); go_simp; exact hK.out _ _ (by simp only [Act.put, List.setIfInBounds_toArray, List.set_cons_zero, List.set_cons_succ, List.nil_append, List.cons_append]; rfl) (Below.refl _ _)
                simp only [Act.put, List.setIfInBounds_toArray, List.set_cons_zero, List.set_cons_succ, List.nil_append, List.cons_append]
                refine inv_val (i := 16) (by kernel_rfl) rfl rfl (fun w1 hS hd K hK => ?_) ?_
                · (try dsimp only at hS); go_simp; refine (takes_any _ (⟨now, n, l, fl⟩ : RV) sn st sx _ (HFO2.out _ hS.1.1).2.2.2.2.2.1.lies N.out HSS.out HST.out).mono ?_; rintro e w2 ⟨rfl, hb⟩; rw [← HT.out]; exact hK.out _ _ (by simp only [Act.put, List.setIfInBounds_toArray, List.set_cons_zero, List.set_cons_succ, List.nil_append, List.cons_append]; rfl) hb
                simp only [Act.put, List.setIfInBounds_toArray, List.set_cons_zero, List.set_cons_succ, List.nil_append, List.cons_append]
                refine inv_val (i := 17) (by kernel_rfl) rfl rfl (fun w1 hS hd K hK => ?_) ?_
                · (try dsimp only at hS); go_simp; exact hK.out _ _ (by simp only [Act.put, List.setIfInBounds_toArray, List.set_cons_zero, List.set_cons_succ, List.nil_append, List.cons_append]; rfl) (Below.refl _ _)
                simp only [Act.put, List.setIfInBounds_toArray, List.set_cons_zero, List.set_cons_succ, List.nil_append, List.cons_append]
                refine inv_val (i := 18) (by kernel_rfl) rfl rfl (fun w1 hS hd K hK => ?_) ?_
                · (try dsimp only at hS); go_simp; exact hK.out _ _ (by simp only [Act.put, List.setIfInBounds_toArray, List.set_cons_zero, List.set_cons_succ, List.nil_append, List.cons_append]; rfl) (Below.refl _ _)
                simp only [Act.put, List.setIfInBounds_toArray, List.set_cons_zero, List.set_cons_succ, List.nil_append, List.cons_append]
                refine inv_val (i := 19) (by kernel_rfl) rfl rfl (fun w1 hS hd K hK => ?_) ?_
                · (try dsimp only at hS); go_simp; refine (qtakes_any _ (⟨now, n, l, fl⟩ : RV) sn st sx _ ⟨_, _, rfl, HTV.out.below (HFO2.out _ hS.1.1).1.bel, HFV.out.below (HFO2.out _ hS.1.1).1.bel⟩ N.out HSS.out HST.out).mono ?_; rintro e w2 ⟨rfl, hb⟩; rw [← HT.out]; exact hK.out _ _ (by simp only [Act.put, List.setIfInBounds_toArray, List.set_cons_zero, List.set_cons_succ, List.nil_append, List.cons_append]; rfl) hb
                simp only [Act.put, List.setIfInBounds_toArray, List.set_cons_zero, List.set_cons_succ, List.nil_append, List.cons_append]
                refine inv_val (i := 20) (by kernel_rfl) rfl rfl (fun w1 hS hd K hK => ?_) ?_
                · (try dsimp only at hS); go_simp; exact hK.out _ _ (by simp only [Act.put, List.setIfInBounds_toArray, List.set_cons_zero, List.set_cons_succ, List.nil_append, List.cons_append]; rfl) (Below.refl _ _)
                simp only [Act.put, List.setIfInBounds_toArray, List.set_cons_zero, List.set_cons_succ, List.nil_append, List.cons_append]
                refine inv_val (i := 21) (by kernel_rfl) rfl rfl (fun w1 hS hd K hK => ?_) ?_
                · (try dsimp only at hS); go_simp; exact hK.out _ _ (by simp only [Act.put, List.setIfInBounds_toArray, List.set_cons_zero, List.set_cons_succ, List.nil_append, List.cons_append]; rfl) (Below.refl _ _)
                simp only [Act.put, List.setIfInBounds_toArray, List.set_cons_zero, List.set_cons_succ, List.nil_append, List.cons_append]
                refine inv_val (i := 22) (by kernel_rfl) rfl rfl (fun w1 hS hd K hK => ?_) ?_
                · (try dsimp only at hS); go_simp; exact hK.out _ _ (by simp only [Act.put, List.setIfInBounds_toArray, List.set_cons_zero, List.set_cons_succ, List.nil_append, List.cons_append]; rfl) (Below.refl _ _)
                simp only [Act.put, List.setIfInBounds_toArray, List.set_cons_zero, List.set_cons_succ, List.nil_append, List.cons_append]
                refine inv_val (i := 23) (by kernel_rfl) rfl rfl (fun w1 hS hd K hK => ?_) ?_
                · (try dsimp only at hS); go_simp; exact hK.out _ _ (by simp only [Act.put, List.setIfInBounds_toArray, List.set_cons_zero, List.set_cons_succ, List.nil_append, List.cons_append]; rfl) (Below.refl _ _)
                simp only [Act.put, List.setIfInBounds_toArray, List.set_cons_zero, List.set_cons_succ, List.nil_append, List.cons_append]
                refine inv_val (i := 24) (by kernel_rfl) rfl rfl (fun w1 hS hd K hK => ?_) ?_
                · (try dsimp only at hS); go_simp; exact hK.out _ _ (by simp only [Act.put, List.setIfInBounds_toArray, List.set_cons_zero, List.set_cons_succ, List.nil_append, List.cons_append]; rfl) (Below.refl _ _)
                simp only [Act.put, List.setIfInBounds_toArray, List.set_cons_zero, List.set_cons_succ, List.nil_append, List.cons_append]
                refine inv_val (i := 25) (by kernel_rfl) rfl rfl (fun w1 hS hd K hK => ?_) ?_
                · (try dsimp only at hS); go_simp; exact hK.out _ _ (by simp only [Act.put, List.setIfInBounds_toArray, List.set_cons_zero, List.set_cons_succ, List.nil_append, List.cons_append]; rfl) (Below.refl _ _)
                simp only [Act.put, List.setIfInBounds_toArray, List.set_cons_zero, List.set_cons_succ, List.nil_append, List.cons_append]
                refine inv_val (i := 26) (by kernel_rfl) rfl rfl (fun w1 hS hd K hK => ?_) ?_
                · (try dsimp only at hS); go_simp; exact hK.out _ _ (by simp only [Act.put, List.setIfInBounds_toArray, List.set_cons_zero, List.set_cons_succ, List.nil_append, List.cons_append]; rfl) (Below.refl _ _)
                simp only [Act.put, List.setIfInBounds_toArray, List.set_cons_zero, List.set_cons_succ, List.nil_append, List.cons_append]
                refine inv_val (i := 27) (by kernel_rfl) rfl rfl (fun w1 hS hd K hK => ?_) ?_
                · (try dsimp only at hS); go_simp; exact hK.out _ _ (by simp only [Act.put, List.setIfInBounds_toArray, List.set_cons_zero, List.set_cons_succ, List.nil_append, List.cons_append]; rfl) (Below.refl _ _)
                simp only [Act.put, List.setIfInBounds_toArray, List.set_cons_zero, List.set_cons_succ, List.nil_append, List.cons_append]
                refine inv_val (i := 28) (by kernel_rfl) rfl rfl (fun w1 hS hd K hK => ?_) ?_
                · (try dsimp only at hS); go_simp; exact hK.out _ _ (by simp only [Act.put, List.setIfInBounds_toArray, List.set_cons_zero, List.set_cons_succ, List.nil_append, List.cons_append]; rfl) (Below.refl _ _)
                simp only [Act.put, List.setIfInBounds_toArray, List.set_cons_zero, List.set_cons_succ, List.nil_append, List.cons_append]
                refine inv_val (i := 29) (by kernel_rfl) rfl rfl (fun w1 hS hd K hK => ?_) ?_
                · (try dsimp only at hS); go_simp; exact hK.out _ _ (by simp only [Act.put, List.setIfInBounds_toArray, List.set_cons_zero, List.set_cons_succ, List.nil_append, List.cons_append]; rfl) (Below.refl _ _)
                simp only [Act.put, List.setIfInBounds_toArray, List.set_cons_zero, List.set_cons_succ, List.nil_append, List.cons_append]
                refine inv_val (i := 30) (by kernel_rfl) rfl rfl (fun w1 hS hd K hK => ?_) ?_
                · (try dsimp only at hS); go_simp; exact hK.out _ _ (by simp only [Act.put, List.setIfInBounds_toArray, List.set_cons_zero, List.set_cons_succ, List.nil_append, List.cons_append]; rfl) (Below.refl _ _)
                simp only [Act.put, List.setIfInBounds_toArray, List.set_cons_zero, List.set_cons_succ, List.nil_append, List.cons_append]
                refine inv_val (i := 31) (by kernel_rfl) rfl rfl (fun w1 hS hd K hK => ?_) ?_
                · (try dsimp only at hS); go_simp; exact hK.out _ _ (by simp only [Act.put, List.setIfInBounds_toArray, List.set_cons_zero, List.set_cons_succ, List.nil_append, List.cons_append]; rfl) (Below.refl _ _)
                simp only [Act.put, List.setIfInBounds_toArray, List.set_cons_zero, List.set_cons_succ, List.nil_append, List.cons_append]
                refine inv_val (i := 32) (by kernel_rfl) rfl rfl (fun w1 hS hd K hK => ?_) ?_
                · (try dsimp only at hS); go_simp; exact hK.out _ _ (by simp only [Act.put, List.setIfInBounds_toArray, List.set_cons_zero, List.set_cons_succ, List.nil_append, List.cons_append]; rfl) (Below.refl _ _)
                simp only [Act.put, List.setIfInBounds_toArray, List.set_cons_zero, List.set_cons_succ, List.nil_append, List.cons_append]
                refine inv_val (i := 33) (by kernel_rfl) rfl rfl (fun w1 hS hd K hK => ?_) ?_
                · (try dsimp only at hS); go_simp; exact hK.out _ _ (by simp only [Act.put, List.setIfInBounds_toArray, List.set_cons_zero, List.set_cons_succ, List.nil_append, List.cons_append]; rfl) (Below.refl _ _)
                simp only [Act.put, List.setIfInBounds_toArray, List.set_cons_zero, List.set_cons_succ, List.nil_append, List.cons_append]
                refine inv_val (i := 34) (by kernel_rfl) rfl rfl (fun w1 hS hd K hK => ?_) ?_
                · (try dsimp only at hS); go_simp; exact hK.out _ _ (by simp only [Act.put, List.setIfInBounds_toArray, List.set_cons_zero, List.set_cons_succ, List.nil_append, List.cons_append]; rfl) (Below.refl _ _)
                simp only [Act.put, List.setIfInBounds_toArray, List.set_cons_zero, List.set_cons_succ, List.nil_append, List.cons_append]
                refine inv_val (i := 35) (by kernel_rfl) rfl rfl (fun w1 hS hd K hK => ?_) ?_
                · (try dsimp only at hS); go_simp; refine (cover_any _ (⟨now, n, l, fl⟩ : RV) t _ (HFO2.out _ hS.1.1).2.2.2.2.2.1.lies N.out KTT.out HL6.out).mono ?_; rintro e w2 ⟨rfl, hb⟩; rw [← HC.out]; exact hK.out _ _ (by simp only [Act.put, List.setIfInBounds_toArray, List.set_cons_zero, List.set_cons_succ, List.nil_append, List.cons_append]; rfl) hb
                simp only [Act.put, List.setIfInBounds_toArray, List.set_cons_zero, List.set_cons_succ, List.nil_append, List.cons_append]
                refine inv_val (i := 36) (by kernel_rfl) rfl rfl (fun w1 hS hd K hK => ?_) ?_
                · (try dsimp only at hS); go_simp; exact hK.out _ _ (by simp only [Act.put, List.setIfInBounds_toArray, List.set_cons_zero, List.set_cons_succ, List.nil_append, List.cons_append]; rfl) (Below.refl _ _)
                simp only [Act.put, List.setIfInBounds_toArray, List.set_cons_zero, List.set_cons_succ, List.nil_append, List.cons_append]
                refine inv_val (i := 37) (by kernel_rfl) rfl rfl (fun w1 hS hd K hK => ?_) ?_
                · (try dsimp only at hS); go_simp; exact hK.out _ _ (by simp only [Act.put, List.setIfInBounds_toArray, List.set_cons_zero, List.set_cons_succ, List.nil_append, List.cons_append]; rfl) (Below.refl _ _)
                simp only [Act.put, List.setIfInBounds_toArray, List.set_cons_zero, List.set_cons_succ, List.nil_append, List.cons_append]
                refine inv_val (i := 38) (by kernel_rfl) rfl rfl (fun w1 hS hd K hK => ?_) ?_
                · (try dsimp only at hS); go_simp; refine (qcover_any _ (⟨now, n, l, fl⟩ : RV) t _ ⟨_, _, rfl, HTV.out.below (HFO2.out _ hS.1.1).1.bel, HFV.out.below (HFO2.out _ hS.1.1).1.bel⟩ N.out KTT.out HL6.out).mono ?_; rintro e w2 ⟨rfl, hb⟩; rw [← HC.out]; exact hK.out _ _ (by simp only [Act.put, List.setIfInBounds_toArray, List.set_cons_zero, List.set_cons_succ, List.nil_append, List.cons_append]; rfl) hb
                simp only [Act.put, List.setIfInBounds_toArray, List.set_cons_zero, List.set_cons_succ, List.nil_append, List.cons_append]
                refine inv_val (i := 39) (by kernel_rfl) rfl rfl (fun w1 hS hd K hK => ?_) ?_
                · (try dsimp only at hS); go_simp; exact hK.out _ _ (by simp only [Act.put, List.setIfInBounds_toArray, List.set_cons_zero, List.set_cons_succ, List.nil_append, List.cons_append]; rfl) (Below.refl _ _)
                simp only [Act.put, List.setIfInBounds_toArray, List.set_cons_zero, List.set_cons_succ, List.nil_append, List.cons_append]
                refine inv_val (i := 40) (by kernel_rfl) rfl rfl (fun w1 hS hd K hK => ?_) ?_
                · (try dsimp only at hS); go_simp; exact hK.out _ _ (by simp only [Act.put, List.setIfInBounds_toArray, List.set_cons_zero, List.set_cons_succ, List.nil_append, List.cons_append]; rfl) (Below.refl _ _)
                simp only [Act.put, List.setIfInBounds_toArray, List.set_cons_zero, List.set_cons_succ, List.nil_append, List.cons_append]
                refine inv_val (i := 41) (by kernel_rfl) rfl rfl (fun w1 hS hd K hK => ?_) ?_
                · (try dsimp only at hS); go_simp; exact hK.out _ _ (by simp only [Act.put, List.setIfInBounds_toArray, List.set_cons_zero, List.set_cons_succ, List.nil_append, List.cons_append]; rfl) (Below.refl _ _)
                simp only [Act.put, List.setIfInBounds_toArray, List.set_cons_zero, List.set_cons_succ, List.nil_append, List.cons_append]
                refine inv_val (i := 42) (by kernel_rfl) rfl rfl (fun w1 hS hd K hK => ?_) ?_
                · (try dsimp only at hS); go_simp; exact hK.out _ _ (by simp only [Act.put, List.setIfInBounds_toArray, List.set_cons_zero, List.set_cons_succ, List.nil_append, List.cons_append]; rfl) (Below.refl _ _)
                simp only [Act.put, List.setIfInBounds_toArray, List.set_cons_zero, List.set_cons_succ, List.nil_append, List.cons_append]
                refine inv_val (i := 43) (by kernel_rfl) rfl rfl (fun w1 hS hd K hK => ?_) ?_
                · (try dsimp only at hS); go_simp; exact hK.out _ _ (by simp only [Act.put, List.setIfInBounds_toArray, List.set_cons_zero, List.set_cons_succ, List.nil_append, List.cons_append]; rfl) (Below.refl _ _)
                simp only [Act.put, List.setIfInBounds_toArray, List.set_cons_zero, List.set_cons_succ, List.nil_append, List.cons_append]
                refine inv_val (i := 44) (by kernel_rfl) rfl rfl (fun w1 hS hd K hK => ?_) ?_
                · (try dsimp only at hS); go_simp; refine (from_any _ (⟨M, n, l, fl⟩ : RV) tier _ hS.1.2.1.lies KM.out KT.out).mono ?_; rintro e w2 ⟨rfl, hb⟩; rw [← HF2.out]; exact hK.out _ _ (by simp only [Act.put, List.setIfInBounds_toArray, List.set_cons_zero, List.set_cons_succ, List.nil_append, List.cons_append]; rfl) hb
                simp only [Act.put, List.setIfInBounds_toArray, List.set_cons_zero, List.set_cons_succ, List.nil_append, List.cons_append]
                refine inv_val (i := 45) (by kernel_rfl) rfl rfl (fun w1 hS hd K hK => ?_) ?_
                · (try dsimp only at hS); go_simp; exact hK.out _ _ (by simp only [Act.put, List.setIfInBounds_toArray, List.set_cons_zero, List.set_cons_succ, List.nil_append, List.cons_append]; rfl) (Below.refl _ _)
                simp only [Act.put, List.setIfInBounds_toArray, List.set_cons_zero, List.set_cons_succ, List.nil_append, List.cons_append]
                refine inv_val (i := 46) (by kernel_rfl) rfl rfl (fun w1 hS hd K hK => ?_) ?_
                · (try dsimp only at hS); go_simp; exact hK.out _ _ (by simp only [Act.put, List.setIfInBounds_toArray, List.set_cons_zero, List.set_cons_succ, List.nil_append, List.cons_append]; rfl) (Below.refl _ _)
                simp only [Act.put, List.setIfInBounds_toArray, List.set_cons_zero, List.set_cons_succ, List.nil_append, List.cons_append]
                refine inv_val (i := 47) (by kernel_rfl) rfl rfl (fun w1 hS hd K hK => ?_) ?_
                · (try dsimp only at hS); go_simp; refine (qfrom_any _ (⟨M, n, l, fl⟩ : RV) tier _ ⟨_, _, rfl, HTV.out.below (HFO2.out _ hS.1.1).1.bel, HFV.out.below (HFO2.out _ hS.1.1).1.bel⟩ KM.out KT.out).mono ?_; rintro e w2 ⟨rfl, hb⟩; rw [← HF2.out]; exact hK.out _ _ (by simp only [Act.put, List.setIfInBounds_toArray, List.set_cons_zero, List.set_cons_succ, List.nil_append, List.cons_append]; rfl) hb
                simp only [Act.put, List.setIfInBounds_toArray, List.set_cons_zero, List.set_cons_succ, List.nil_append, List.cons_append]
                refine inv_val (i := 48) (by kernel_rfl) rfl rfl (fun w1 hS hd K hK => ?_) ?_
                · (try dsimp only at hS); go_simp; exact hK.out _ _ (by simp only [Act.put, List.setIfInBounds_toArray, List.set_cons_zero, List.set_cons_succ, List.nil_append, List.cons_append]; rfl) (Below.refl _ _)
                simp only [Act.put, List.setIfInBounds_toArray, List.set_cons_zero, List.set_cons_succ, List.nil_append, List.cons_append]
                refine inv_val (i := 49) (by kernel_rfl) rfl rfl (fun w1 hS hd K hK => ?_) ?_
                · (try dsimp only at hS); go_simp; exact hK.out _ _ (by simp only [Act.put, List.setIfInBounds_toArray, List.set_cons_zero, List.set_cons_succ, List.nil_append, List.cons_append]; rfl) (Below.refl _ _)
                simp only [Act.put, List.setIfInBounds_toArray, List.set_cons_zero, List.set_cons_succ, List.nil_append, List.cons_append]
                refine inv_val (i := 50) (by kernel_rfl) rfl rfl (fun w1 hS hd K hK => ?_) ?_
                · (try dsimp only at hS); go_simp; exact hK.out _ _ (by simp only [Act.put, List.setIfInBounds_toArray, List.set_cons_zero, List.set_cons_succ, List.nil_append, List.cons_append]; rfl) (Below.refl _ _)
                simp only [Act.put, List.setIfInBounds_toArray, List.set_cons_zero, List.set_cons_succ, List.nil_append, List.cons_append]
                refine inv_val (i := 51) (by kernel_rfl) rfl rfl (fun w1 hS hd K hK => ?_) ?_
                · (try dsimp only at hS); go_simp; exact hK.out _ _ (by simp only [Act.put, List.setIfInBounds_toArray, List.set_cons_zero, List.set_cons_succ, List.nil_append, List.cons_append]; rfl) (Below.refl _ _)
                simp only [Act.put, List.setIfInBounds_toArray, List.set_cons_zero, List.set_cons_succ, List.nil_append, List.cons_append]
                refine inv_val (i := 52) (by kernel_rfl) rfl rfl (fun w1 hS hd K hK => ?_) ?_
                · (try dsimp only at hS); go_simp; exact hK.out _ _ (by simp only [Act.put, List.setIfInBounds_toArray, List.set_cons_zero, List.set_cons_succ, List.nil_append, List.cons_append]; rfl) (Below.refl _ _)
                simp only [Act.put, List.setIfInBounds_toArray, List.set_cons_zero, List.set_cons_succ, List.nil_append, List.cons_append]
                refine inv_val (i := 53) (by kernel_rfl) rfl rfl (fun w1 hS hd K hK => ?_) ?_
                · (try dsimp only at hS); go_simp; exact hK.out _ _ (by simp only [Act.put, List.setIfInBounds_toArray, List.set_cons_zero, List.set_cons_succ, List.nil_append, List.cons_append]; rfl) (Below.refl _ _)
                simp only [Act.put, List.setIfInBounds_toArray, List.set_cons_zero, List.set_cons_succ, List.nil_append, List.cons_append]
                refine inv_val (i := 54) (by kernel_rfl) rfl rfl (fun w1 hS hd K hK => ?_) ?_
                · (try dsimp only at hS); go_simp; exact hK.out _ _ (by simp only [Act.put, List.setIfInBounds_toArray, List.set_cons_zero, List.set_cons_succ, List.nil_append, List.cons_append]; rfl) (Below.refl _ _)
                simp only [Act.put, List.setIfInBounds_toArray, List.set_cons_zero, List.set_cons_succ, List.nil_append, List.cons_append]
                refine inv_val (i := 55) (by kernel_rfl) rfl rfl (fun w1 hS hd K hK => ?_) ?_
                · (try dsimp only at hS); go_simp; exact hK.out _ _ (by simp only [Act.put, List.setIfInBounds_toArray, List.set_cons_zero, List.set_cons_succ, List.nil_append, List.cons_append]; rfl) (Below.refl _ _)
                simp only [Act.put, List.setIfInBounds_toArray, List.set_cons_zero, List.set_cons_succ, List.nil_append, List.cons_append]
                refine inv_val (i := 56) (by kernel_rfl) rfl rfl (fun w1 hS hd K hK => ?_) ?_
                · (try dsimp only at hS); go_simp; exact hK.out _ _ (by simp only [Act.put, List.setIfInBounds_toArray, List.set_cons_zero, List.set_cons_succ, List.nil_append, List.cons_append]; rfl) (Below.refl _ _)
                simp only [Act.put, List.setIfInBounds_toArray, List.set_cons_zero, List.set_cons_succ, List.nil_append, List.cons_append]
                refine inv_val (i := 57) (by kernel_rfl) rfl rfl (fun w1 hS hd K hK => ?_) ?_
                · (try dsimp only at hS); go_simp; exact hK.out _ _ (by simp only [Act.put, List.setIfInBounds_toArray, List.set_cons_zero, List.set_cons_succ, List.nil_append, List.cons_append]; rfl) (Below.refl _ _)
                simp only [Act.put, List.setIfInBounds_toArray, List.set_cons_zero, List.set_cons_succ, List.nil_append, List.cons_append]
                refine inv_val (i := 58) (by kernel_rfl) rfl rfl (fun w1 hS hd K hK => ?_) ?_
                · (try dsimp only at hS); go_simp; exact hK.out _ _ (by simp only [Act.put, List.setIfInBounds_toArray, List.set_cons_zero, List.set_cons_succ, List.nil_append, List.cons_append]; rfl) (Below.refl _ _)
                simp only [Act.put, List.setIfInBounds_toArray, List.set_cons_zero, List.set_cons_succ, List.nil_append, List.cons_append]
                refine inv_val (i := 59) (by kernel_rfl) rfl rfl (fun w1 hS hd K hK => ?_) ?_
                · (try dsimp only at hS); go_simp; exact hK.out _ _ (by simp only [Act.put, List.setIfInBounds_toArray, List.set_cons_zero, List.set_cons_succ, List.nil_append, List.cons_append]; rfl) (Below.refl _ _)
                simp only [Act.put, List.setIfInBounds_toArray, List.set_cons_zero, List.set_cons_succ, List.nil_append, List.cons_append]
                refine inv_val (i := 60) (by kernel_rfl) rfl rfl (fun w1 hS hd K hK => ?_) ?_
                · (try dsimp only at hS); go_simp; exact hK.out _ _ (by simp only [Act.put, List.setIfInBounds_toArray, List.set_cons_zero, List.set_cons_succ, List.nil_append, List.cons_append]; rfl) (Below.refl _ _)
                simp only [Act.put, List.setIfInBounds_toArray, List.set_cons_zero, List.set_cons_succ, List.nil_append, List.cons_append]
                refine inv_val (i := 61) (by kernel_rfl) rfl rfl (fun w1 hS hd K hK => ?_) ?_
                · (try dsimp only at hS); go_simp; exact hK.out _ _ (by simp only [Act.put, List.setIfInBounds_toArray, List.set_cons_zero, List.set_cons_succ, List.nil_append, List.cons_append]; rfl) (Below.refl _ _)
                simp only [Act.put, List.setIfInBounds_toArray, List.set_cons_zero, List.set_cons_succ, List.nil_append, List.cons_append]
                refine inv_val (i := 62) (by kernel_rfl) rfl rfl (fun w1 hS hd K hK => ?_) ?_
                · (try dsimp only at hS); go_simp; exact hK.out _ _ (by simp only [Act.put, List.setIfInBounds_toArray, List.set_cons_zero, List.set_cons_succ, List.nil_append, List.cons_append]; rfl) (Below.refl _ _)
                simp only [Act.put, List.setIfInBounds_toArray, List.set_cons_zero, List.set_cons_succ, List.nil_append, List.cons_append]
                refine inv_done (by kernel_rfl) (fun w16 hS hd => ?_)
                clear r0 r1 r2 r3 d0 d1 d2 d3 y0 y1 y2 y3 e0 e1 e2 e3 s0 s1 s2 HF15 HY15 HL15 hd
                have HF16 := Lib.hid hS.1.1
                have HM16 := Lib.hid (HFO2.out _ HF16.out).2.2.1
                obtain ⟨q0, q1⟩ := row2 (HFO2.out _ HF16.out).2.2.2.2.1
                clear hS
                have HFE := Lib.hid (HFO2.out _ HF16.out).1.bel
                go_wp2_with fail
                refine (stays_ints _ _ fl _ (by obtain ⟨_, _, _, h, _⟩ := HM16.out; exact h) (HFV.out.below HFE.out) HFO.out).mono ?_
                rintro e w17 ⟨rfl, hb⟩
                have HF17 := Lib.hid (HFB.out _ _ HF16.out hb)
                have HT17 := Lib.hid (HFO2.out _ HF17.out).2.2.2.1
                have HFE2 := Lib.hid (HFO2.out _ HF17.out).1.bel
                obtain ⟨q2, q3⟩ := row2 (HFO2.out _ HF17.out).2.2.2.2.1
                obtain ⟨p2, p3⟩ := row2 (HFO2.out _ HF17.out).2.1.pol
                clear hb HF16 HM16 HFE
                go_wp2_with fail
                refine (stays_tiers _ _ l _ (by obtain ⟨_, _, _, h, _⟩ := HT17.out; exact h) (HTV.out.below HFE2.out) HTO.out).mono ?_
                rintro e w18 ⟨rfl, hb⟩
                have HF18 := Lib.hid (HFB.out _ _ HF17.out hb)
                clear hb HF17 HT17 HFE2 q0 q1 q2 q3 p2 p3
                go_wp2
                go_roundw
                case rel => exact ⟨k + 1, cs10, vi', ui', li', vr', ur', lr', hlt, by go_num, Lib.hid (HFO2.out _ HF18.out).1, Lib.hid (HFO2.out _ HF18.out).2.1⟩
                case measure => simp [intOf]; omega
          · have hkI : ¬ (k : Int) < 2 := by omega
            have HBX := Lib.hid HE.out.bel
            go_wp2_with fail
            refine (alive_any _).mono ?_
            rintro e w4 ⟨rfl, hb4⟩
            have HE4 := Lib.hid (HE.out.below hb4)
            have HX4 := Lib.hid (chain HBX.out hb4)
            clear hb4
            go_wp2_with fail
            refine (env_apart HE4.out).mono ?_
            rintro e w5 ⟨rfl, hb5⟩
            have HX5 := Lib.hid (HX4.out.trans hb5)
            clear hb5
            go_wp2
            go_ret
            exact ⟨rfl, HX5.out⟩
end Go.Proofs.Ytaenpcglaenlaaa
