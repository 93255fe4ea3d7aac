/-
  The walk of the law ReachCovers.
-/
import Derived.Test.YtaenpcglaenlaaaReachAlive
namespace Go.Proofs.Ytaenpcglaenlaaa
open Go.RowKit
set_option linter.unusedVariables false
set_option linter.unusedSimpArgs false

theorem small_len {n : ByteArray} {l : List TierV} (h : smallP n l = true) : l.length ≤ 10 ∧ n.size ≤ 60 := by
  unfold smallP at h
  rw [Bool.and_eq_true, decide_eq_true_eq] at h
  exact h.2
theorem coverFrom_spec (r : RV) (t : Int) : ∀ (n k : Nat), n + k = r.l.length → 0 < r.l.length → (∀ i, i < k → t < r.fromN i) →
    ∃ K : Nat, K < r.l.length ∧ coverFrom r t n k = (K : Int) ∧ (∀ i, i < K → t < r.fromN i) ∧ (K + 1 < r.l.length → r.fromN K ≤ t)
  | 0, k, h, h0, hk => ⟨r.l.length - 1, by omega, by show (r.l.length : Int) - 1 = _; omega, fun i hi => hk i (by omega), fun h => by omega⟩
  | n + 1, k, h, h0, hk => by
    by_cases hc : r.fromN k ≤ t
    · exact ⟨k, by omega, by show (if r.fromN k ≤ t then (k : Int) else _) = _; rw [if_pos hc], hk, fun _ => hc⟩
    · obtain ⟨K, h1, h2, h3, h4⟩ := coverFrom_spec r t n (k + 1) (by omega) h0 (fun i hi => by
        by_cases hik : i < k
        · exact hk i hik
        · obtain rfl : i = k := by omega
          omega)
      exact ⟨K, h1, by show (if r.fromN k ≤ t then (k : Int) else coverFrom r t n (k + 1)) = _; rw [if_neg hc, h2], h3, h4⟩
theorem cover_spec (r : RV) (t : Int) (h0 : 0 < r.l.length) : ∃ K : Nat, K < r.l.length ∧ r.cover t = (K : Int) ∧ (∀ i, i < K → t < r.fromN i) ∧ (K + 1 < r.l.length → r.fromN K ≤ t) :=
  coverFrom_spec r t r.l.length 0 rfl h0 (fun i hi => absurd hi (Nat.not_lt_zero _))
theorem takes_zero {r : RV} {s : ByteArray} {t : Int} (h : r.takes s t = 0) : 0 ≤ t ∧ t ≤ r.now ∧ r.is 0 = true ∧ r.from 0 ≤ t := by
  unfold RV.takes at h
  by_cases h1 : nameOk s = false ∨ t < 0
  · rw [if_pos h1] at h; omega
  · rw [if_neg h1] at h
    by_cases h2 : r.now < t
    · rw [if_pos h2] at h; omega
    · rw [if_neg h2] at h
      by_cases h3 : r.is 0 = false ∨ t < r.from 0
      · rw [if_pos h3] at h; omega
      · have h4 : ¬ t < 0 := fun h => h1 (.inr h)
        have h5 : ¬ t < r.from 0 := fun h => h3 (.inr h)
        exact ⟨by omega, by omega, by cases h6 : r.is 0 <;> simp_all, by omega⟩
theorem gfloor_one (t : Int) (h : I64 t) : gfloor t 1 = t := by
  unfold gfloor I64 at *
  rw [if_neg (by omega)]
  split <;> omega
theorem start_zero {r : RV} {s : ByteArray} {t : Int} (ht : I64 t) (h : r.takes s t = 0) (he : (r.l.getD 0 TierV.zero).every = 1) : r.start 0 t = (t, true) := by
  obtain ⟨h1, h2, h3, h4⟩ := takes_zero h
  unfold RV.start
  rw [if_pos ⟨h3, h1⟩]
  have e : (r.l.getD (0 : Int).toNat TierV.zero).every = 1 := he
  rw [e, gfloor_one t ht]
  simp; omega

set_option maxRecDepth 100000 in
set_option maxHeartbeats 4000000 in
theorem walkReachCovers (v : Value) (n : ByteArray) (l : List TierV) (now : Int) (wn : (Lit.int .i64 now).wf = true) (s : ByteArray) (t x fr : Int) (wf : (Lit.int .i64 fr).wf = true) (w : World)
    (hp : PolAt w v n l) (hns : n.size ≤ 9223372036854775807) (hs : s.size ≤ 9223372036854775807) (ht : I64 t) (hx : I64 x) :
    Calls Try.prog 4 #[v, .int .i64 now, .agg #[.string s, .int .i64 t, .int .i64 x], .int .i64 fr] w (BoolPost w true) := by
  have hn := wf64' wn
  have hfr := wf64' wf
  clear wn wf
  have HP := Lib.hid hp
  have HNS := Lib.hid hns
  obtain ⟨pv, rfl, htv⟩ := hp
  have HTV := Lib.hid htv
  obtain ⟨pa, pc, rfl, _, hpc, htc⟩ := htv
  have HTC := Lib.hid htc
  obtain ⟨q, hq⟩ : ∃ q, q = smallP n l := ⟨_, rfl⟩
  have HQ := Lib.hid hq
  have KF := Lib.hid (show I64 fr from hfr)
  have HSZ := Lib.hid hs
  have HT := Lib.hid ht
  have K0 := Lib.hid (show I64 0 by unfold I64; omega)
  have htI := ht
  unfold I64 at htI
  have HBN := Lib.hid (show Below w.heap.size w ((w.alloc (.cells #[.string n, .slice pa l.length pc] 24)).alloc (.cells #[.string s, .int .i64 t, .int .i64 x] 41)) from chain (bel_new _ _) (bel_new _ _))
  clear hq hns htc ht hx
  by_cases g1 : (300 : Int) < s.size
  · go_enter Try.func4, Try.ntmps4
    go_wp2_with fail
    refine (small_pol _ n l _ (HP.out.below HBN.out) HNS.out).mono ?_
    rintro e w1 ⟨rfl, hb⟩
    rw [← HQ.out]
    obtain ⟨h1, h2, hbw⟩ := two_new hb
    have HB1 := Lib.hid hbw
    obtain ⟨p0, p1⟩ := row2 h1
    obtain ⟨d0, d1, d2⟩ := row3 h2
    clear hb hbw h1 h2
    cases q
    all_goals
      go_wp2_with fail
      refine (alive_any _).mono ?_
      rintro e w9 ⟨rfl, hb⟩
      have HB := Lib.hid (chain HB1.out hb)
      clear hb
      go_wp2
      go_ret
      exact ⟨rfl, HB.out⟩
  · go_enter Try.func4, Try.ntmps4
    go_wp2_with fail
    refine (small_pol _ n l _ (HP.out.below HBN.out) HNS.out).mono ?_
    rintro e w1 ⟨rfl, hb⟩
    rw [← HQ.out]
    obtain ⟨h1, h2, hbw⟩ := two_new hb
    have HB1 := Lib.hid hbw
    have HP1 := Lib.hid h1
    have HS1 := Lib.hid h2
    obtain ⟨p0, p1⟩ := row2 h1
    obtain ⟨d0, d1, d2⟩ := row3 h2
    clear hb hbw h1 h2
    cases q
    · go_wp2_with fail
      refine (alive_any _).mono ?_
      rintro e w9 ⟨rfl, hb⟩
      have HB := Lib.hid (chain HB1.out hb)
      clear hb
      go_wp2
      go_ret
      exact ⟨rfl, HB.out⟩
    · have hsm := small_len HQ.out.symm
      have HLN := Lib.hid (show l.length ≤ 1000000 by omega)
      obtain ⟨r, hr⟩ : ∃ r : RV, r = ⟨now, n, l, []⟩ := ⟨_, rfl⟩
      have HR := Lib.hid hr
      have HRL := Lib.hid (show r.l = l by rw [hr])
      have N := Lib.hid (show I64 r.now by rw [hr]; exact hn)
      have hnow : r.now = now := by rw [hr]
      have HL := Lib.hid (show r.l.length ≤ 1000000 by rw [hr]; dsimp only; omega)
      have HNW := Lib.hid hnow
      obtain ⟨E, hE⟩ : ∃ E, E = r.takes s t := ⟨_, rfl⟩
      have HE := Lib.hid hE
      have HTK := Lib.hid (show E = 0 → t ≤ now ∧ 0 ≤ t ∧ r.from 0 ≤ t from fun h => by have := takes_zero (hE ▸ h); omega)
      clear hr hE hnow hsm
      go_wp2_with fail
      refine (of_any _ _ now n l [] _ (HP.out.below HB1.out) (ints_nil _) HLN.out (by decide)).mono ?_
      rintro e w2 ⟨u, rfl, hu, hb⟩
      have HU := Lib.hid (show ReachAt w2 u r by rw [HR.out]; exact hu.at)
      obtain ⟨a, c, fa, fc, hz⟩ := HU.out.form
      subst hz
      have HP2 := Lib.hid (heap_step (heap_step HP1.out hb) (bel_new w2 (.cells #[.int .i64 r.now, .string r.name, .slice a r.l.length c, .slice fa r.fl.length fc] 34)))
      have HS2 := Lib.hid (heap_step (heap_step HS1.out hb) (bel_new w2 (.cells #[.int .i64 r.now, .string r.name, .slice a r.l.length c, .slice fa r.fl.length fc] 34)))
      have HB2 := Lib.hid (chain (chain HB1.out hb) (bel_new w2 (.cells #[.int .i64 r.now, .string r.name, .slice a r.l.length c, .slice fa r.fl.length fc] 34)))
      have HX2 := Lib.hid (RBox.new rfl HU.out)
      obtain ⟨A, hA⟩ : ∃ A, A = w2.heap.size := ⟨_, rfl⟩
      rw [← hA] at HX2
      have HA := Lib.hid hA
      clear hu hb p0 p1 d0 d1 d2 HU hA
      obtain ⟨p0, p1⟩ := row2 HP2.out
      obtain ⟨c0, c1, c2, c3⟩ := HX2.out.cells
      obtain ⟨d0, d1, d2⟩ := row3 HS2.out
      go_wp2_with fail
      refine (cover_any _ r fr _ HX2.out.lies N.out KF.out HL.out).mono ?_
      rintro e w3 ⟨rfl, hb⟩
      clear p0 p1 c0 c1 c2 c3 d0 d1 d2
      rw [← HA.out]
      have HX3 := Lib.hid (HX2.out.step hb)
      have HB3 := Lib.hid (chain HB2.out hb)
      have HP3 := Lib.hid (heap_step HP2.out hb)
      have HS3 := Lib.hid (heap_step HS2.out hb)
      clear hb
      by_cases g2 : l.length = 0
      · have e2 : r.cover fr = -1 := by
          have : r.l.length = 0 := by rw [HRL.out]; exact g2
          unfold RV.cover; rw [this]; show (r.l.length : Int) - 1 = -1; omega
        rw [e2]
        clear e2
        obtain ⟨p0, p1⟩ := row2 HP3.out
        obtain ⟨c0, c1, c2, c3⟩ := HX3.out.cells
        obtain ⟨d0, d1, d2⟩ := row3 HS3.out
        go_wp2_with fail
        refine (alive_any _).mono ?_
        rintro e w9 ⟨rfl, hb⟩
        have HB9 := Lib.hid (chain HB3.out hb)
        have HS9 := Lib.hid (heap_step HS3.out hb)
        clear hb d0 d1 d2
        obtain ⟨d0, d1, d2⟩ := row3 HS9.out
        go_wp2
        go_ret
        exact ⟨by first | rfl | (apply ret_bool; simp; omega), HB9.out⟩
      · obtain ⟨K, hK, eK, hK1, hK2⟩ := cover_spec r fr (by rw [HRL.out]; omega)
        rw [eK]
        rw [HRL.out] at hK hK2
        have HK1 := Lib.hid hK1
        have HK2 := Lib.hid hK2
        have hne : l ≠ [] := fun h => g2 (by rw [h]; rfl)
        obtain ⟨bb, oo, hpa, hbb, hcl⟩ := HTC.out hne
        subst hpa
        obtain ⟨_, y0, _, _⟩ := hcl 0 (by omega)
        rw [Nat.zero_mul] at y0
        obtain ⟨ev, hev⟩ : ∃ ev, ev = (l.getD 0 TierV.zero).every := ⟨_, rfl⟩
        rw [← hev] at y0
        have hevI : I64 ev := by rw [hev]; exact (tier_ok HTV.out 0 (by omega)).2.1
        unfold I64 at hevI
        have HST := Lib.hid (show E = 0 → ev = 1 → r.start 0 t = (t, true) from fun h1 h2 => start_zero HT.out (HE.out ▸ h1) (by rw [HRL.out, ← hev]; exact h2))
        have HBZ := Lib.hid (Below.refl w.heap.size w)
        have hl0 : ((l.length : Int) == 0) = false := by simp; omega
        clear eK hK1 hK2 hne hcl hev g2
        obtain ⟨p0, p1⟩ := row2 HP3.out
        obtain ⟨c0, c1, c2, c3⟩ := HX3.out.cells
        obtain ⟨d0, d1, d2⟩ := row3 HS3.out
        go_wp2_with fail
        go_loopw [11] (fun i wr => ∃ (j : Nat), j ≤ K ∧ i = .int .i64 j ∧ Hid (wr.heap[w.heap.size]? = some (.cells #[.string n, .slice (some ⟨bb, oo, none⟩) l.length pc] 24)) ∧ Hid (wr.heap[w.heap.size + 1]? = some (.cells #[.string s, .int .i64 t, .int .i64 x] 41)) ∧ Hid (RBox wr A a c fa fc r) ∧ Hid (Below w.heap.size w wr)) (fun i _ => K - (intOf i).toNat)
        case atStart => exact ⟨0, Nat.zero_le _, rfl, HP3, HS3, HX3, HB3⟩
        case round =>
          clear p0 p1 c0 c1 c2 c3 d0 d1 d2
          obtain ⟨j, hj, rfl, HP5, HS5, HX5, HB5⟩ := hrel
          obtain ⟨p0, p1⟩ := row2 HP5.out
          obtain ⟨c0, c1, c2, c3⟩ := HX5.out.cells
          obtain ⟨d0, d1, d2⟩ := row3 HS5.out
          by_cases hlt : j < K
          · have JI := Lib.hid (show I64 (j : Int) by unfold I64; omega)
            obtain ⟨F, hF⟩ : ∃ F, F = r.from j := ⟨_, rfl⟩
            have hF2 : fr < F := by rw [hF, r.from_nat j (by rw [HRL.out]; omega)]; exact HK1.out j hlt
            have hFI : I64 F := by rw [hF]; exact RV.from_I64 HX5.out.lies N.out j
            unfold I64 at hFI
            have HF := Lib.hid hF
            clear hF
            go_wp2_with fail
            refine (from_any _ r j _ HX5.out.lies N.out JI.out).mono ?_
            rintro e w6 ⟨rfl, hb⟩
            rw [← HF.out]
            have HX6 := Lib.hid (HX5.out.step hb)
            have HB6 := Lib.hid (chain HB5.out hb)
            have HP6 := Lib.hid (heap_step HP5.out hb)
            have HS6 := Lib.hid (heap_step HS5.out hb)
            clear hb
            clear p0 p1 c0 c1 c2 c3 d0 d1 d2
            go_wp2
            go_roundw
            case rel => exact ⟨j + 1, by omega, by go_num, HP6, HS6, HX6, HB6⟩
            case measure => simp [intOf]; omega
          · have hjK : j = K := by omega
            subst hjK
            by_cases g3 : j + 1 < l.length
            · have JI := Lib.hid (show I64 (j : Int) by unfold I64; omega)
              obtain ⟨F, hF⟩ : ∃ F, F = r.from j := ⟨_, rfl⟩
              have hF2 : F ≤ fr := by rw [hF, r.from_nat j (by rw [HRL.out]; omega)]; exact HK2.out g3
              have hFI : I64 F := by rw [hF]; exact RV.from_I64 HX5.out.lies N.out j
              unfold I64 at hFI
              have HF := Lib.hid hF
              clear hF hlt
              go_wp2_with fail
              refine (from_any _ r j _ HX5.out.lies N.out JI.out).mono ?_
              rintro e w6 ⟨rfl, hb⟩
              rw [← HF.out]
              have HX6 := Lib.hid (HX5.out.step hb)
              have HB6 := Lib.hid (chain HB5.out hb)
              have HP6 := Lib.hid (heap_step HP5.out hb)
              have HS6 := Lib.hid (heap_step HS5.out hb)
              clear hb
              clear p0 p1 c0 c1 c2 c3 d0 d1 d2
              obtain ⟨p0, p1⟩ := row2 HP6.out
              obtain ⟨c0, c1, c2, c3⟩ := HX6.out.cells
              obtain ⟨d0, d1, d2⟩ := row3 HS6.out
              go_wp2_with fail
              refine (takes_any _ r s t x _ HX6.out.lies N.out HSZ.out HT.out).mono ?_
              rintro e w7 ⟨rfl, hb⟩
              rw [← HE.out]
              clear p0 p1 c0 c1 c2 c3 d0 d1 d2
              have HX7 := Lib.hid (HX6.out.step hb)
              have HB7 := Lib.hid (chain HB6.out hb)
              have HP7 := Lib.hid (heap_step HP6.out hb)
              have HS7 := Lib.hid (heap_step HS6.out hb)
              clear hb
              obtain ⟨p0, p1⟩ := row2 HP7.out
              obtain ⟨c0, c1, c2, c3⟩ := HX7.out.cells
              obtain ⟨d0, d1, d2⟩ := row3 HS7.out
              by_cases q0 : E = 0
              · obtain ⟨u1, u2, u3⟩ := HTK.out q0
                subst q0
                by_cases q1 : ev = 1
                · have q4 := HST.out rfl q1
                  have Q4 := Lib.hid q4
                  subst q1
                  clear q4
                  have y1 := cell_step y0 HB7.out
                  go_wp2_with fail
                  refine (start_any _ r 0 t _ HX7.out.lies N.out K0.out HT.out).mono ?_
                  rintro e w8 ⟨rfl, hb⟩
                  rw [Q4.out]
                  clear p0 p1 c0 c1 c2 c3 d0 d1 d2 y1
                  have HX8 := Lib.hid (HX7.out.step hb)
                  have HB8 := Lib.hid (chain HB7.out hb)
                  have HP8 := Lib.hid (heap_step HP7.out hb)
                  have HS8 := Lib.hid (heap_step HS7.out hb)
                  clear hb
                  obtain ⟨p0, p1⟩ := row2 HP8.out
                  obtain ⟨c0, c1, c2, c3⟩ := HX8.out.cells
                  obtain ⟨d0, d1, d2⟩ := row3 HS8.out
                  go_wp2_with fail
                  refine (alive_any _).mono ?_
                  rintro e w9 ⟨rfl, hb⟩
                  have HB9 := Lib.hid (chain HB8.out hb)
                  have HS9 := Lib.hid (heap_step HS8.out hb)
                  clear hb d0 d1 d2
                  obtain ⟨d0, d1, d2⟩ := row3 HS9.out
                  go_wp2
                  go_ret
                  exact ⟨by first | rfl | (apply ret_bool; simp; omega), HB9.out⟩
                · have q1' : (ev != 1) = true := by simpa using q1
                  have y1 := cell_step y0 HB7.out
                  clear q1
                  go_wp2_with fail
                  refine (alive_any _).mono ?_
                  rintro e w9 ⟨rfl, hb⟩
                  have HB9 := Lib.hid (chain HB7.out hb)
                  have HS9 := Lib.hid (heap_step HS7.out hb)
                  clear hb d0 d1 d2
                  obtain ⟨d0, d1, d2⟩ := row3 HS9.out
                  go_wp2
                  go_ret
                  exact ⟨by first | rfl | (apply ret_bool; simp; omega), HB9.out⟩
              · have q0' : (E != 0) = true := by simpa using q0
                clear q0
                go_wp2_with fail
                refine (alive_any _).mono ?_
                rintro e w9 ⟨rfl, hb⟩
                have HB9 := Lib.hid (chain HB7.out hb)
                have HS9 := Lib.hid (heap_step HS7.out hb)
                clear hb d0 d1 d2
                obtain ⟨d0, d1, d2⟩ := row3 HS9.out
                go_wp2
                go_ret
                exact ⟨by first | rfl | (apply ret_bool; simp; omega), HB9.out⟩
            · clear hlt
              go_wp2_with fail
              refine (takes_any _ r s t x _ HX5.out.lies N.out HSZ.out HT.out).mono ?_
              rintro e w7 ⟨rfl, hb⟩
              rw [← HE.out]
              clear p0 p1 c0 c1 c2 c3 d0 d1 d2
              have HX7 := Lib.hid (HX5.out.step hb)
              have HB7 := Lib.hid (chain HB5.out hb)
              have HP7 := Lib.hid (heap_step HP5.out hb)
              have HS7 := Lib.hid (heap_step HS5.out hb)
              clear hb
              obtain ⟨p0, p1⟩ := row2 HP7.out
              obtain ⟨c0, c1, c2, c3⟩ := HX7.out.cells
              obtain ⟨d0, d1, d2⟩ := row3 HS7.out
              by_cases q0 : E = 0
              · obtain ⟨u1, u2, u3⟩ := HTK.out q0
                subst q0
                by_cases q1 : ev = 1
                · have q4 := HST.out rfl q1
                  have Q4 := Lib.hid q4
                  subst q1
                  clear q4
                  have y1 := cell_step y0 HB7.out
                  go_wp2_with fail
                  refine (start_any _ r 0 t _ HX7.out.lies N.out K0.out HT.out).mono ?_
                  rintro e w8 ⟨rfl, hb⟩
                  rw [Q4.out]
                  clear p0 p1 c0 c1 c2 c3 d0 d1 d2 y1
                  have HX8 := Lib.hid (HX7.out.step hb)
                  have HB8 := Lib.hid (chain HB7.out hb)
                  have HP8 := Lib.hid (heap_step HP7.out hb)
                  have HS8 := Lib.hid (heap_step HS7.out hb)
                  clear hb
                  obtain ⟨p0, p1⟩ := row2 HP8.out
                  obtain ⟨c0, c1, c2, c3⟩ := HX8.out.cells
                  obtain ⟨d0, d1, d2⟩ := row3 HS8.out
                  go_wp2_with fail
                  refine (alive_any _).mono ?_
                  rintro e w9 ⟨rfl, hb⟩
                  have HB9 := Lib.hid (chain HB8.out hb)
                  have HS9 := Lib.hid (heap_step HS8.out hb)
                  clear hb d0 d1 d2
                  obtain ⟨d0, d1, d2⟩ := row3 HS9.out
                  go_wp2
                  go_ret
                  exact ⟨by first | rfl | (apply ret_bool; simp; omega), HB9.out⟩
                · have q1' : (ev != 1) = true := by simpa using q1
                  have y1 := cell_step y0 HB7.out
                  clear q1
                  go_wp2_with fail
                  refine (alive_any _).mono ?_
                  rintro e w9 ⟨rfl, hb⟩
                  have HB9 := Lib.hid (chain HB7.out hb)
                  have HS9 := Lib.hid (heap_step HS7.out hb)
                  clear hb d0 d1 d2
                  obtain ⟨d0, d1, d2⟩ := row3 HS9.out
                  go_wp2
                  go_ret
                  exact ⟨by first | rfl | (apply ret_bool; simp; omega), HB9.out⟩
              · have q0' : (E != 0) = true := by simpa using q0
                clear q0
                go_wp2_with fail
                refine (alive_any _).mono ?_
                rintro e w9 ⟨rfl, hb⟩
                have HB9 := Lib.hid (chain HB7.out hb)
                have HS9 := Lib.hid (heap_step HS7.out hb)
                clear hb d0 d1 d2
                obtain ⟨d0, d1, d2⟩ := row3 HS9.out
                go_wp2
                go_ret
                exact ⟨by first | rfl | (apply ret_bool; simp; omega), HB9.out⟩
end Go.Proofs.Ytaenpcglaenlaaa
