/-
  The walk of the law LogPlays.
-/
import Derived.Test.YtjcggkfinhkcoaaGreatLogFrame
import Derived.Lib.MinMax
namespace Go.Proofs.YtjcggkfinhkcoaaGreat
open Go.RowKit
set_option linter.unusedVariables false
set_option linter.unusedSimpArgs false

theorem sumT_le (l : List OpV) (k : Nat) : sumT l k ≤ sumT l l.length := by
  unfold sumT
  rw [List.take_length]
  conv => rhs; rw [← List.take_append_drop k l, List.map_append, List.sum_append]
  exact Nat.le_add_right _ _
theorem flat_many (g : Int) : ∀ (A : List ByteArray) (nb : Nat), A.length ≤ (flatR g nb A).length
  | [], _ => Nat.zero_le _
  | x :: A, nb => by
    show A.length + 1 ≤ (layL g nb x ++ flatR g (nb + 1) A).length
    rw [List.length_append, layL_len]
    have := flat_many g A (nb + 1)
    have : 1 ≤ blks x.size := by unfold blks; split <;> omega
    omega
theorem LI.left_ {d : DV} {G : LV} {R rest : List ByteArray} {n : Nat} (h : LI d G R rest n) : G.left = rest.length := by
  unfold LV.left
  have := h.le
  rw [h.nn, h.used]; omega
/-- A log under way: R went in, m blocks are left; c records were tried, in k calls. -/
structure PL (D : DV) (G : LV) (R : List ByteArray) (m n : Nat) (frm gen : Int) (c k : Nat) : Prop where
  li : LI D G R (List.replicate m zeroB) n
  frm : G.frm = frm
  gen : G.gen = gen
  fit : G.fit c
  wr : 0 ≤ D.writes ∧ D.writes ≤ 14 * c + k
section
variable {D : DV} {G : LV} {R : List ByteArray} {m n c k : Nat} {frm gen : Int}
theorem PL.few (h : PL D G R m n frm gen c k) : R.length ≤ n ∧ m ≤ n ∧ ∀ s ∈ R, s.size ≤ 3000 := by
  have h1 := h.li.le
  have h2 := flat_many G.gen R 0
  rw [List.length_replicate] at h1
  exact ⟨by omega, by omega, h.li.hz⟩
theorem PL.more {c' k' : Nat} (h : PL D G R m n frm gen c k) (hc : c ≤ c') (hk : k ≤ k') : PL D G R m n frm gen c' k' :=
  ⟨h.li, h.frm, h.gen, ⟨h.fit.1, h.fit.2.1, by have := h.fit.2.2; omega⟩, by have := h.wr; omega⟩
theorem PL.app (h : PL D G R m n frm gen c k) (l : List ByteArray) (hc : c + l.length ≤ 900000) :
    ∃ D' G', G.App D l = (D', G', (wantN m l l.length).1) ∧ PL D' G' (R ++ l.take (wantN m l l.length).2.2) (wantN m l l.length).2.1 n frm gen (c + l.length) k := by
  obtain ⟨h1, h2⟩ := want_apps h.li l l.length (Nat.le_refl _)
  have e : G.App D l = appN G D l l.length := if_neg (by rw [h.li.bad]; decide)
  have hf := App_fit (d := D) (l := l) h.fit (by omega)
  rw [e] at hf ⊢
  obtain ⟨D', G', E, hr⟩ : ∃ D' G' E, appN G D l l.length = (D', G', E) := ⟨_, _, _, rfl⟩
  rw [hr] at h1 h2 hf ⊢
  dsimp only at h1 h2 hf
  have hw := h.wr
  refine ⟨D', G', by rw [h1], h2, hf.2.2.2.2.1.trans h.frm, hf.2.2.2.1.trans h.gen, ⟨hf.1.1, hf.1.2.1, by have := hf.1.2.2; omega⟩, by omega, by omega⟩
theorem PL.flush (h : PL D G R m n frm gen c k) : G.flush D = (D.spent.flushed, G, 0) ∧ PL D.spent.flushed G R m n frm gen c (k + 1) := by
  obtain ⟨h1, h2⟩ := h.li.flush
  refine ⟨h1, h2, h.frm, h.gen, h.fit, ?_⟩
  have := h.wr
  show 0 ≤ D.writes + 1 ∧ D.writes + 1 ≤ _
  omega
end

theorem lblocks_any (n : Nat) (w : World) (hn : n ≤ 9000000000000000000) : Calls Tryz.prog 9 #[.int .i64 n] w (RetB w (.int .i64 (blks n))) := by
  have hnI : (n : Int) ≤ 9000000000000000000 := by omega
  have HB := Lib.hid (show ((blks n : Nat) : Int) = max (((n : Int) + 223) / 224) 1 from by unfold blks; split <;> omega)
  rw [HB.out]
  go_enter Tryz.func9, Tryz.ntmps9
  go_wp2
  go_ret
  exact ⟨rfl, Below.refl _ _⟩
def book0 : Array Value := #[.slice none 0 0, .slice none 0 0, .slice none 0 0, .slice none 0 0, .slice none 0 0, .slice none 0 0, .slice none 0 0, .slice none 0 0, .slice none 0 0, .slice none 0 0, .slice none 0 0, .slice none 0 0, .slice none 0 0, .slice none 0 0, .slice none 0 0, .slice none 0 0]
theorem book0_nil (j : Nat) (h : j < 16) : book0[j]? = some (.slice none 0 0) := by
  have : j = 0 ∨ j = 1 ∨ j = 2 ∨ j = 3 ∨ j = 4 ∨ j = 5 ∨ j = 6 ∨ j = 7 ∨ j = 8 ∨ j = 9 ∨ j = 10 ∨ j = 11 ∨ j = 12 ∨ j = 13 ∨ j = 14 ∨ j = 15 := by omega
  rcases this with rfl | rfl | rfl | rfl | rfl | rfl | rfl | rfl | rfl | rfl | rfl | rfl | rfl | rfl | rfl | rfl <;> rfl
theorem book_new {w : World} {B : Nat} (hB : B ≤ w.heap.size) : BB_t (w.alloc (.cells book0 43)) B w.heap.size book0 0 (fun _ => undef) (fun _ => undef) (fun _ => []) := by
  refine ⟨⟨heap_alloc_new _ _, ⟨_, book0_nil 0 (by decide), OwnL.nil _ _ _ _ _⟩, Fam.none _ _ _ _ _ _ _, by decide, fun i hi => absurd hi (Nat.not_lt_zero _), fun i hi => absurd hi (Nat.not_lt_zero _), by simp; omega⟩, rfl, _, book0_nil 1 (by decide), OwnL.nil _ _ _ _ _, fun i hi => absurd hi (Nat.not_lt_zero _), fun lv g e1 e2 => ?_⟩
  rw [book0_nil 0 (by decide)] at e1
  injection e1 with e1
  rw [← e1] at e2
  cases e2
set_option maxRecDepth 100000 in
set_option maxHeartbeats 16000000 in
theorem walkLogPlays (frm : Int) (wf : (Lit.int .i64 frm).wf = true) (n : Int) (wn : (Lit.int .i64 n).wf = true) (gen : Int) (wg : (Lit.int .u64 gen).wf = true) (v : Value) (l : List OpV) (w : World) (i3 : OpsAt w v l) (z3 : ∀ X ∈ l, ∀ s ∈ X.texts, s.size ≤ 140737488351232) :
    Calls Tryz.prog 3 #[.int .i64 frm, .int .i64 n, .int .u64 gen, v] w (BoolPost w true) := by
  obtain ⟨i0, hi0, hz0, hz1, hz2⟩ := info_parts info_str
  have hfr := wf64' wf
  have hnn := wf64' wn
  have hgg : 0 ≤ gen ∧ gen ≤ 18446744073709551615 := by simp [Lit.wf, IntKind.bits, IntKind.signed, IntKind.min, IntKind.max] at wg; omega
  have HV := Lib.hid i3
  have HZ := Lib.hid z3
  obtain ⟨a0, ca0, rfl, _, _⟩ := i3
  clear wf wn wg z3
  go_enter Tryz.func3, Tryz.ntmps3
  go_wp2_with fail
  refine (light_any _ l _ HV.out).mono ?_
  rintro e w1 ⟨b1, rfl, hb0, hl1⟩
  have HL1 := Lib.hid hl1
  have HB0 := Lib.hid hb0
  clear hb0 hl1
  cases b1
  · go_wp2_with fail
    refine (alive_any _).mono ?_
    rintro e w2 ⟨rfl, hb2⟩
    go_wp2
    go_ret
    exact ⟨rfl, chain HB0.out hb2⟩
  by_cases q1 : 30 < n
  · go_wp2_with fail
    refine (alive_any _).mono ?_
    rintro e w2 ⟨rfl, hb2⟩
    go_wp2
    go_ret
    exact ⟨rfl, chain HB0.out hb2⟩
  by_cases q2 : frm < 0
  · go_wp2_with fail
    refine (alive_any _).mono ?_
    rintro e w2 ⟨rfl, hb2⟩
    go_wp2
    go_ret
    exact ⟨rfl, chain HB0.out hb2⟩
  by_cases q3 : 20 < frm
  · go_wp2_with fail
    refine (alive_any _).mono ?_
    rintro e w2 ⟨rfl, hb2⟩
    go_wp2
    go_ret
    exact ⟨rfl, chain HB0.out hb2⟩
  have HF1 := Lib.hid (HL1.out (by first | rfl | trivial))
  have hll : (l.length : Int) ≤ 50 := by have := HF1.out.1; omega
  have HVb := Lib.hid (HV.out.below HB0.out)
  clear HL1 HV
  go_wp2_with fail
  refine (new_any 60 _ (by omega)).mono ?_
  rintro e w2 ⟨q, rfl, hD, hb2⟩
  have HD2 := Lib.hid hD
  have HB2 := Lib.hid hb2
  clear hD hb2
  by_cases hX : 0 < gen ∧ 1 ≤ n
  · obtain ⟨hX1, hX2⟩ := hX
    obtain ⟨N, hN⟩ : ∃ N : Nat, n = N := ⟨n.toNat, by omega⟩
    subst hN
    have hg0 : (gen != 0) = true := by simp; omega
    go_wp2_with fail
    refine (new_yes frm N gen HD2.out hX1 ⟨hX2, by omega⟩).mono ?_
    rintro e w3 ⟨t, rfl, ht, hD, hbes, hb3⟩
    have H3 := Lib.hid (show LgAt w1 w3 w1.heap.size q 0 (DV.fresh 60) t (LV.new frm N gen) from ⟨hD, hbes, chain HB2.out hb3, Nat.le_refl _, Nat.le_trans HB2.out.size ht⟩)
    have HP3 := Lib.hid (show PL (DV.fresh 60) (LV.new frm N gen) [] N N frm gen 0 0 from ⟨li_new 60 frm gen N ⟨by omega, by omega⟩, rfl, rfl, new_fit frm gen N ⟨by omega, by omega⟩ (by omega) hgg, by show (0 : Int) ≤ 0 ∧ (0 : Int) ≤ 14 * 0 + 0; decide⟩)
    clear ht hD hbes hb3
    have hB3 := H3.out.bel.size
    have HBK := Lib.hid (book_new (w := w3) hB3)
    have HBP := Lib.hid hB3
    go_wp2
    go_loopw [12, 13, 15] (fun lf al x wr => ∃ (k m : Nat) (mi : Int) (R : List ByteArray) (D : DV) (G : LV) (aa : Option Addr) (ac : Nat) (cs : Array Value) (vs us : Nat → Value) (ls : Nat → List ByteArray), k ≤ l.length ∧ x = .int .i64 k ∧ lf = .int .i64 mi ∧ Hid ((m : Int) = mi) ∧ al = .slice aa R.length ac ∧
      Hid (LgAt w1 wr w1.heap.size q (14 * sumT l k) D t G) ∧ Hid (PL D G R m N frm gen (sumT l k) k) ∧ Hid (OwnL wr w1.heap.size 9 1 (.slice aa R.length ac) R.length (R.map Value.string)) ∧ Hid (BB_t wr w1.heap.size w3.heap.size cs k vs us ls) ∧
      Hid (∀ j, (j < 16 ∧ j ≠ 0 ∧ j ≠ 1) → cs[j]? = some (.slice none 0 0)) ∧ Hid (∀ g, rowOf (.slice aa R.length ac) = some g → ∀ i, i < k → rowOf (vs i) ≠ some g ∧ rowOf (us i) ≠ some g)) (fun _ _ x _ => l.length - (intOf x).toNat)
    case atStart => exact ⟨0, N, N, [], _, _, none, 0, _, _, _, _, Nat.zero_le _, rfl, rfl, Lib.hid rfl, rfl, Lib.hid (by simpa [sumT] using H3.out.step_ (bel_new w3 _)), Lib.hid (by simpa [sumT] using HP3.out), Lib.hid (OwnL.nil _ _ _ _ _), HBK, Lib.hid (fun j hj => book0_nil j hj.1), Lib.hid (fun g hg => nomatch hg)⟩
    case round =>
      obtain ⟨k, m, mi, R, D, G, aa, ac, cs, vs, us, ls, hk, rfl, rfl, HMI, rfl, HG, HP, HA, HB, HC, HD⟩ := hrel
      have HST := Lib.hid (sumT_le l k)
      by_cases hlt : k < l.length
      · obtain ⟨b, o, tv, kv, rfl, hX0⟩ := HVb.out.nth hlt
        have HSU := Lib.hid (sumT_succ hlt)
        have HST1 := Lib.hid (sumT_le l (k + 1))
        obtain ⟨X, hXe⟩ : ∃ X, X = l.getD k OpV.zero := ⟨_, rfl⟩
        have HZX := Lib.hid (show ∀ s ∈ X.texts, s.size ≤ 140737488351232 from HZ.out X (by rw [hXe, List.getD_eq_getElem?_getD, List.getElem?_eq_getElem hlt]; exact List.getElem_mem hlt))
        rw [← hXe] at hX0 HSU
        obtain ⟨ta, tc, rfl, _, htl, _⟩ := hX0.texts
        obtain ⟨ka, kc, rfl, _, hkl2, _⟩ := hX0.keep
        have HX0 := Lib.hid hX0
        have q0 := (hX0.below HG.out.bel).c0
        have q1' := (hX0.below HG.out.bel).c1
        have q2' := (hX0.below HG.out.bel).c2
        have q3' := (hX0.below HG.out.bel).c3
        have hbd : sumT l k + X.texts.length ≤ 20000 := by have := HSU.out; have := HST1.out; have := HF1.out.2.1; omega
        have HBD := Lib.hid hbd
        have hk50 : k ≤ 50 := by omega
        have HK50 := Lib.hid hk50
        have htl' : (X.texts.length : Int) ≤ 20000 := by omega
        clear hXe hbd hk50 hX0
        obtain ⟨ob, hob⟩ : ∃ ob, ob = wr.heap.size := ⟨_, rfl⟩
        go_wp2_with fail
        refine (lent_texts_own (.slice ta X.texts.length tc) X.texts _ (HX0.out.texts.below (bel_alloc HG.out.bel HG.out.bel.size)) (by omega)).mono ?_
        rintro e w4 ⟨mv, rfl, hl4, hb4, mg, mcap, mcur, hmv, hmg, hmrow⟩
        subst hmv
        have hbel4 := chain (bel_new wr (.cells #[.int .i64 X.kind, .int .i64 X.n, .slice ta X.texts.length tc, .slice ka X.keep.length kc] 46)) hb4
        have HG4 := Lib.hid (HG.out.step_ hbel4)
        have HA4 := Lib.hid (HA.out.below hbel4)
        have HB4 := Lib.hid (HB.out.below hbel4)
        have HM4 := Lib.hid (show LentS w4 (.slice (some ⟨mg, 0, none⟩) X.texts.length mcap) X.texts mg from ⟨hl4, ⟨mcap, rfl⟩, _, _, hmrow⟩)
        have HO4 := Lib.hid (show w4.heap[ob]? = some (.cells #[.int .i64 X.kind, .int .i64 X.n, .slice ta X.texts.length tc, .slice ka X.keep.length kc] 46) by rw [hob]; exact heap_step (heap_alloc_new _ _) hb4)
        have HMG := Lib.hid (show ∀ g, rowOf (.slice aa R.length ac) = some g → g ≠ mg from fun g hg e => by
          have := (HA.out.lt hg).2.1
          simp at hmg; omega)
        rw [← hob]
        clear hl4 hb4 hmg hmrow hbel4 hob q0 q1' q2' q3' HG HA HB
        obtain ⟨K, hK9⟩ : ∃ K, K = X.kind := ⟨_, rfl⟩
        have p0 : w4.cell? ⟨ob, 0, none⟩ = some (.int .i64 K) := by rw [cell_of_row w4 ob _ _ _ _ HO4.out, hK9]; rfl
        clear hK9
        by_cases e1 : K = 1
        · subst e1
          go_wp2
          clear p0
          go_loopw [12, 13, 18, 19] (fun lf al we kk wr => ∃ (j mm tt rl : Nat) (ei mi : Int) (aa : Option Addr) (ac : Nat), j ≤ X.texts.length ∧ kk = .int .i64 j ∧ we = .int .i64 ei ∧ lf = .int .i64 mi ∧ al = .slice aa rl ac ∧ Hid (rl = R.length + tt) ∧ Hid (tt ≤ X.texts.length) ∧ Hid (wantN m X.texts j = (ei, mm, tt)) ∧ Hid ((mm : Int) = mi) ∧
            Hid (LgAt w1 wr w1.heap.size q (14 * sumT l k) D t G) ∧ Hid (OwnL wr w1.heap.size 9 1 (.slice aa rl ac) rl ((R ++ X.texts.take tt).map Value.string)) ∧ Hid (BB_t wr w1.heap.size w3.heap.size cs k vs us ls) ∧ Hid (∀ g, rowOf (.slice aa rl ac) = some g → ∀ i, i < k → rowOf (vs i) ≠ some g ∧ rowOf (us i) ≠ some g) ∧
            Hid (wr.heap[ob]? = some (.cells #[.int .i64 X.kind, .int .i64 X.n, .slice ta X.texts.length tc, .slice ka X.keep.length kc] 46)) ∧ Hid (LentS wr (.slice (some ⟨mg, 0, none⟩) X.texts.length mcap) X.texts mg) ∧ Hid (∀ g, rowOf (.slice aa rl ac) = some g → g ≠ mg)) (fun _ _ _ x _ => X.texts.length - (intOf x).toNat)
          case atStart => exact ⟨0, m, 0, R.length, 0, mi, aa, ac, Nat.zero_le _, rfl, rfl, rfl, rfl, Lib.hid rfl, Lib.hid (Nat.zero_le _), Lib.hid rfl, HMI, HG4, Lib.hid (by rw [List.take_zero, List.append_nil]; exact HA4.out), HB4, HD, HO4, HM4, HMG⟩
          case round =>
            clear HMI HD HG4 HA4 HB4 HM4 HO4 HMG
            obtain ⟨j, mm, tt, rl, ei, mi, aa, ac, hj, rfl, rfl, rfl, rfl, HRL, HTT, HW, HMIi, HGi, HAi, HBi, HDi, HOi, HMi, HMGi⟩ := hrel
            have p2 : wr.cell? ⟨ob, 2, none⟩ = some (.slice ta X.texts.length tc) := by rw [cell_of_row wr ob _ _ _ _ HOi.out]; rfl
            by_cases hjl : j < X.texts.length
            · by_cases he0 : ei = 0
              · subst he0
                have htj : tt = j := by have := wantN_good (m := m) (l := X.texts) j (by rw [HW.out]); rw [HW.out] at this; exact this
                subst htj
                obtain ⟨bt, ot, rfl, hcl⟩ : ∃ bt ot, ta = some ⟨bt, ot, none⟩ ∧ ∀ w', Below w1.heap.size w1 w' → w'.cell? ⟨bt, ot + tt, none⟩ = some (.string (X.texts.getD tt ByteArray.empty)) := by
                  obtain ⟨a', c', e1, e2, _, e4⟩ := HX0.out.texts
                  obtain ⟨b, o, e5, e6, e7⟩ := e4 (fun h => by rw [h] at hjl; exact absurd hjl (Nat.not_lt_zero _))
                  injection e1 with e1 _ _
                  exact ⟨b, o, by rw [e1, e5], fun w' hb => (hb.cell (p := ⟨b, o + tt, none⟩) e6).trans (e7 tt hjl)⟩
                have hsz := HZX.out (X.texts.getD tt ByteArray.empty) (by rw [List.getD_eq_getElem?_getD, List.getElem?_eq_getElem hjl]; exact List.getElem_mem hjl)
                have hwn : wantN m X.texts (tt + 1) = if 3000 < (X.texts.getD tt ByteArray.empty).size then (2, mm, tt) else if mm < blks (X.texts.getD tt ByteArray.empty).size then (20, mm, tt) else (0, mm - blks (X.texts.getD tt ByteArray.empty).size, tt + 1) := by
                  show (if (wantN m X.texts tt).1 ≠ 0 then wantN m X.texts tt else _) = _
                  rw [HW.out]
                  rfl
                have HTS := Lib.hid (take_snocX hjl)
                obtain ⟨s, hs⟩ : ∃ s, s = X.texts.getD tt ByteArray.empty := ⟨_, rfl⟩
                rw [← hs] at hcl hsz hwn HTS
                have hx := hcl wr HGi.out.bel
                have HCL := Lib.hid hcl
                have HWN := Lib.hid hwn
                have hszI : (s.size : Int) ≤ 140737488351232 := by omega
                clear hs hcl hwn
                by_cases hlong : 3000 < s.size
                · have hlI : (3000 : Int) < s.size := by omega
                  have HL := Lib.hid hlong
                  clear hlong
                  go_wp2
                  go_roundw
                  case rel => exact ⟨tt + 1, mm, tt, rl, 2, mi, aa, ac, hjl, by go_num, rfl, rfl, rfl, HRL, HTT, Lib.hid (by rw [HWN.out, if_pos HL.out]), HMIi, HGi, HAi, HBi, HDi, HOi, HMi, HMGi⟩
                  case measure => simp [intOf]; omega
                · have hlI : ¬ (3000 : Int) < s.size := by omega
                  have HL := Lib.hid hlong
                  clear hlong
                  go_wp2_with fail
                  refine (lblocks_any s.size _ (by omega)).mono ?_
                  rintro e w5 ⟨rfl, hb5⟩
                  have HG5 := Lib.hid (HGi.out.step_ hb5)
                  have HA5 := Lib.hid (HAi.out.below hb5)
                  have HB5 := Lib.hid (HBi.out.below hb5)
                  have HO5 := Lib.hid (heap_step HOi.out hb5)
                  have HM5 := Lib.hid (HMi.out.below hb5)
                  have p2 := cell_step p2 hb5
                  have hx := HCL.out w5 HG5.out.bel
                  obtain ⟨bk, hbk⟩ : ∃ bk, bk = blks s.size := ⟨_, rfl⟩
                  rw [← hbk] at HWN ⊢
                  have HBK2 := Lib.hid hbk
                  have hbk2 : bk ≤ 14 := by rw [hbk]; unfold blks; split <;> omega
                  obtain ⟨bi, hbi⟩ : ∃ bi : Int, bi = bk := ⟨_, rfl⟩
                  rw [← hbi]
                  have HBI := Lib.hid hbi
                  have hbi2 : 0 ≤ bi ∧ bi ≤ 14 := by omega
                  have hmi2 : 0 ≤ mi ∧ mi ≤ 4096 := by have h1 := HMIi.out; have h2 := (wantN_le (m := m) (l := X.texts) tt).1; rw [HW.out] at h2; have h3 := HP.out.few.2.1; dsimp only at h2; omega
                  clear hb5 hbk hbi HGi HAi HBi HOi HMi
                  by_cases hfull : mm < bk
                  · have hfI : mi < bi := by have := HMIi.out; have := HBI.out; omega
                    have HFL := Lib.hid hfull
                    clear hfull
                    go_wp2
                    go_roundw
                    case rel => exact ⟨tt + 1, mm, tt, rl, 20, mi, aa, ac, hjl, by go_num, rfl, rfl, rfl, HRL, HTT, Lib.hid (by rw [HWN.out, if_neg HL.out, if_pos HFL.out]), HMIi, HG5, HA5, HB5, HDi, HO5, HM5, HMGi⟩
                    case measure => simp [intOf]; omega
                  · have hfI : ¬ mi < bi := by have := HMIi.out; have := HBI.out; omega
                    have HFL := Lib.hid hfull
                    clear hfull
                    go_wp2_with fail
                    refine (lblocks_any s.size _ (by omega)).mono ?_
                    rintro e w6 ⟨rfl, hb6⟩
                    rw [← HBK2.out, ← HBI.out]
                    have HG6 := Lib.hid (HG5.out.step_ hb6)
                    have HA6 := Lib.hid (HA5.out.below hb6)
                    have HB6 := Lib.hid (HB5.out.below hb6)
                    have HO6 := Lib.hid (heap_step HO5.out hb6)
                    have HM6 := Lib.hid (HM5.out.below hb6)
                    have p2 := cell_step p2 hb6
                    have hx := HCL.out w6 HG6.out.bel
                    have hrl : rl ≤ 30 + 20000 := by have h1 := HRL.out; have h2 := HP.out.few.1; have := HTT.out; omega
                    have hB6 := HG6.out.bel.size
                    clear hb6 HG5 HA5 HB5 HO5 HM5
                    go_wp2_with (at_builtin; refine wpList_append_two rfl (.tmp 111) (.tmp 117) 32 rfl w1.heap.size 9 i0 (.string ByteArray.empty) 1 16 Tryz.underlying32 hi0 hz0 hz1 hz2 rfl (by decide) _ rl _ rfl (HA6.out.below (bel_new w6 (.cells #[.string s] 9))) ⟨w6.heap.size, 0, none⟩ 1 1 [.string s] rfl rfl ?c1 ?c2 (by decide) ?c3 ?c4 ?c5 ?_)
                    (try case c1 => exact one_cell _ _ _)
                    (try case c2 => simp [Value.oneCell'])
                    case c3 => unfold maxLen; omega
                    case c4 => omega
                    case c5 => first | omega | (simp; omega)
                    intro g7 cap7 w7 hown7 hcase7 hcap7
                    obtain ⟨r, hg, hr, hgn⟩ : ∃ r, (w6.alloc (.cells #[.string s] 9)).grownBy w7 r ∧ (∀ g, r = some g → rowOf (.slice aa rl ac) = some g) ∧ (rowOf (.slice aa rl ac) = some g7 ∨ g7 = w6.heap.size + 1) := by
                      rcases hcase7.out with ⟨e, hg⟩ | ⟨e, hg⟩
                      · refine ⟨_, hg, fun g e2 => ?_, .inl (by rw [e]; exact rowOf_pos hcap7)⟩
                        injection e2 with e2
                        subst e2
                        rw [e]; exact rowOf_pos hcap7
                      · exact ⟨_, hg, (fun g e2 => nomatch e2), .inr (by rw [e]; simp)⟩
                    have hnb := bel_new w6 (.cells #[.string s] 9)
                    have hal := HA6.out.below hnb
                    have hrs : ∀ g, r = some g → ∃ cs fr, (w6.alloc (.cells #[.string s] 9)).heap[g]? = some (.cells cs 9 fr) := fun g e => by obtain ⟨_, _, cur, hc⟩ := hal.lt (hr g e); exact ⟨_, _, hc⟩
                    have hbel7 : Below w1.heap.size (w6.alloc (.cells #[.string s] 9)) w7 := grown_below hg (by simp; omega) (fun g e => (hal.lt (hr g e)).1)
                    have HG7 := Lib.hid ((HG6.out.step_ hnb).xstep (XStep.of_grown hg hrs) ((HG6.out.step_ hnb).bel.trans hbel7))
                    have HA7 := Lib.hid (show OwnL w7 w1.heap.size 9 1 (.slice (some ⟨g7, 0, none⟩) (rl + 1) cap7) (rl + 1) ((R ++ X.texts.take (tt + 1)).map Value.string) by rw [HTS.out, ← List.append_assoc, List.map_append]; first | exact hown7 | simpa [List.map_append, List.append_assoc] using hown7)
                    have HB7 := Lib.hid ((HB6.out.below hnb).grown (g := 0) hg (fun g e => ⟨hrs g e, HDi.out g (hr g e)⟩))
                    have HO7 := Lib.hid ((hg.block ob (by simp; have := heap_lt HO6.out; omega) (fun e => by
                      obtain ⟨cs9, fr9, h9⟩ := hrs ob e.symm
                      have h8 := heap_step HO6.out hnb
                      rw [h8] at h9
                      injection h9 with h9; injection h9 with _ h9; exact absurd h9 (by decide))).trans (heap_step HO6.out hnb))
                    have HM7 := Lib.hid ((HM6.out.below hnb).frame hg.size (hg.block mg (by obtain ⟨_, _, cs9, fr9, h9⟩ := HM6.out.below hnb; exact heap_lt h9) (fun e => HMGi.out mg (hr mg e.symm) rfl)))
                    have HD7 := Lib.hid (show ∀ g, rowOf (.slice (some ⟨g7, 0, none⟩) (rl + 1) cap7) = some g → ∀ i, i < k → rowOf (vs i) ≠ some g ∧ rowOf (us i) ≠ some g from fun g hg2 i hi => by
                      rw [rowOf_pos hcap7] at hg2
                      injection hg2 with hg2
                      subst hg2
                      rcases hgn with h | h
                      · exact HDi.out g7 h i hi
                      · refine ⟨fun e => ?_, fun e => ?_⟩
                        · obtain ⟨cur, hc⟩ := HB6.out.rows hi (.inl e)
                          have := heap_lt hc; omega
                        · obtain ⟨cur, hc⟩ := HB6.out.rows hi (.inr e)
                          have := heap_lt hc; omega)
                    have HMG7 := Lib.hid (show ∀ g, rowOf (.slice (some ⟨g7, 0, none⟩) (rl + 1) cap7) = some g → g ≠ mg from fun g hg2 e => by
                      rw [rowOf_pos hcap7] at hg2
                      injection hg2 with hg2
                      subst hg2
                      rcases hgn with h | h
                      · exact HMGi.out g7 h e
                      · obtain ⟨_, _, cs9, fr9, h9⟩ := HM6.out
                        have := heap_lt h9; omega)
                    clear hown7 hcase7 hg hr hgn hnb hal hrs hbel7 HG6 HA6 HB6 HO6 HM6
                    go_wp2
                    go_roundw
                    case rel => exact ⟨tt + 1, mm - bk, tt + 1, rl + 1, 0, mi - bi, some ⟨g7, 0, none⟩, cap7, hjl, by go_num, rfl, rfl, rfl, Lib.hid (by have := HRL.out; omega), Lib.hid hjl, Lib.hid (by rw [HWN.out, if_neg HL.out, if_neg HFL.out]), Lib.hid (by have h1 := HMIi.out; have h2 := HBI.out; have h3 := HFL.out; omega), HG7, HA7, HB7, HD7, HO7, HM7, HMG7⟩
                    case measure => simp [intOf]; omega
              · have he1 : (ei == 0) = false := by simpa using he0
                have HST2 := Lib.hid (wantN_stay (m := m) (l := X.texts) (k := j) (by rw [HW.out]; exact he0) (X.texts.length - j))
                have HJL := Lib.hid (show j + (X.texts.length - j) = X.texts.length by omega)
                clear he0
                have HWF := Lib.hid (show wantN m X.texts X.texts.length = (ei, mm, tt) from (by have h1 := HST2.out; rw [HJL.out, HW.out] at h1; exact h1))
                obtain ⟨D', G', hr, hp⟩ := HP.out.app X.texts (by have := HBD.out; omega)
                rw [HWF.out] at hr hp
                dsimp only at hr hp
                have HR := Lib.hid hr
                have HP5 := Lib.hid (show PL D' G' (R ++ X.texts.take tt) mm N frm gen (sumT l (k + 1)) (k + 1) from by rw [HSU.out]; exact hp.more (Nat.le_refl _) (Nat.le_succ _))
                obtain ⟨R2, hR2⟩ : ∃ R2, R2 = R ++ X.texts.take tt := ⟨_, rfl⟩
                rw [← hR2] at HP5
                have hrl2 : rl = R2.length := by rw [hR2, List.length_append, List.length_take, HRL.out]; have := HTT.out; omega
                have HA2 := Lib.hid (show OwnL wr w1.heap.size 9 1 (.slice aa R2.length ac) R2.length (R2.map Value.string) by rw [← hrl2, hR2]; exact HAi.out)
                subst hrl2
                have hei : (ei != ei) = false := by simp
                clear hr hp hR2 HAi HRL
                go_wp2_with fail
                have hTB : TB wr q t (.slice (some ⟨mg, 0, none⟩) X.texts.length mcap) X.texts := ⟨HMi.out.1.texts (fun s hs => by have := HZX.out s hs; omega), fun b o s n c e hn => by
                  injection e with e _ _; injection e with e; injection e with e
                  subst e
                  obtain ⟨_, _, cs9, fr9, h9⟩ := HMi.out
                  refine ⟨fun ho => ?_, fun e2 => ?_⟩
                  · rcases own_type HGi.out.disk ho h9 with e3 | e3 <;> exact absurd e3 (by decide)
                  · subst e2
                    rw [HGi.out.bes.2] at h9
                    injection h9 with h9; injection h9 with _ h9; exact absurd h9 (by decide)⟩
                refine (App_every (.slice (some ⟨mg, 0, none⟩) X.texts.length mcap) X.texts (sumT l k) HGi.out HP.out.fit (by have := HBD.out; omega) hTB (fun i hi _ => HZX.out _ (by rw [List.getD_eq_getElem?_getD, List.getElem?_eq_getElem hi]; exact List.getElem_mem hi)) (by have := HBD.out; omega) (by have := HP.out.wr; have := HBD.out; have := HK50.out; omega)).mono ?_
                rintro e w5 ⟨rfl, h5, s5⟩
                rw [HR.out] at h5 ⊢
                dsimp only at h5
                have HG5 := Lib.hid (h5.mono (show 14 * sumT l k + 14 * X.texts.length ≤ 14 * sumT l (k + 1) by have := HSU.out; omega))
                have HA5 := Lib.hid (HA2.out.log HGi.out s5)
                have HB5 := Lib.hid (HBi.out.log HGi.out s5)
                have HM5 := Lib.hid (HMi.out.frame s5.size (by obtain ⟨_, _, cs9, fr9, h9⟩ := HMi.out; exact HGi.out.other s5 h9 (by decide)))
                have HO5 := Lib.hid ((HGi.out.other s5 HOi.out (by decide)).trans HOi.out)
                clear h5 s5 hTB
                have p2 : w5.cell? ⟨ob, 2, none⟩ = some (.slice ta X.texts.length tc) := by rw [cell_of_row w5 ob _ _ _ _ HO5.out]; rfl
                go_wp2_with fail
                refine (stays_texts _ _ X.texts _ HM5.out.1 (HX0.out.texts.below HG5.out.bel) (fun s hs => by have := HZX.out s hs; omega)).mono ?_
                rintro e w6 ⟨rfl, hb6⟩
                have HG6 := Lib.hid (HG5.out.step_ hb6)
                have HA6 := Lib.hid (HA5.out.below hb6)
                have HB6 := Lib.hid (HB5.out.below hb6)
                clear hb6 p2 HG5 HA5 HB5 HM5 HO5 HMi HOi HBi HGi HA2 HMGi
                have hr1 := HP5.out.li.read (clean_rep _ _)
                have he := HP5.out.li.err N (Nat.le_refl _)
                rw [HP5.out.frm] at hr1 he
                rw [HP5.out.gen] at hr1
                have HR1 := Lib.hid hr1
                have HE := Lib.hid he
                have HSM := Lib.hid (fun i hi => read_size HP5.out.li.sm i hi)
                have hN16 : 1 ≤ N ∧ N ≤ 4096 := by omega
                have HFEW := Lib.hid HP5.out.few
                have hR30 : (R2.length : Int) ≤ 30 := by have := HP5.out.few.1; omega
                clear hr1 he
                go_wp2_with fail
                refine (lread_any frm gen N HG6.out.disk ⟨hX1, hgg.2⟩ hN16 (by omega) HSM.out).mono ?_
                rintro e w7 ⟨v7, rfl, ho7, hb7⟩
                rw [HR1.out] at ho7
                rw [HE.out]
                obtain ⟨a7, c7, hv7⟩ := own_form ho7
                subst hv7
                have HV7 := Lib.hid (OwnL.of_row ho7)
                have HG7 := Lib.hid (HG6.out.step_ hb7)
                have HA7 := Lib.hid (HA6.out.below hb7)
                have HB7 := Lib.hid (HB6.out.below hb7)
                have HDV := Lib.hid (show ∀ i g, i < k → rowOf (vs i) = some g → rowOf (.slice a7 R2.length c7) ≠ some g from fun i g hi hg e => by
                  have h1 := ((HB6.out.bk.fam.own i hi).lt hg).2.1
                  have h2 := ((OwnL.of_row ho7).lt e).1
                  omega)
                have HDA := Lib.hid (show ∀ g, rowOf (.slice aa R2.length ac) = some g → rowOf (.slice a7 R2.length c7) ≠ some g from fun g hg e => by
                  have h1 := (HA6.out.lt hg).2.1
                  have h2 := ((OwnL.of_row ho7).lt e).1
                  omega)
                have hB7 : w1.heap.size ≤ w7.heap.size := HG7.out.bel.size
                have HV7b := Lib.hid (HV7.out.mono (show w1.heap.size ≤ w6.heap.size from HG6.out.bel.size))
                clear ho7 hb7 HG6 HA6 HB6
                by_cases hmx : gen = 18446744073709551615
                · subst hmx
                  have hno := lread_no (w := w7) (q := q) frm N 0 (by omega)
                  go_wp2_with fail
                  refine hno.mono ?_
                  rintro e w8 ⟨rfl, hb8⟩
                  clear hno
                  have HV8 := Lib.hid (HV7b.out.below hb8)
                  have HG8 := Lib.hid (HG7.out.step_ hb8)
                  have HA8 := Lib.hid (HA7.out.below hb8)
                  have HB8 := Lib.hid (HB7.out.below hb8)
                  have HSZ8 := Lib.hid hb8.size
                  clear hb8 HG7 HA7 HB7
                  go_wp2_with fail
                  refine (add_t HB8.out (by omega) HV8.out HDV.out HBP.out (by have := HFEW.out.1; omega) (fun s hs => by have := HFEW.out.2.2 s hs; omega)).mono ?_
                  rintro e w9 ⟨rfl, lv, uv, u9, hbb9, hu9, hb9, hs9⟩
                  have HB9 := Lib.hid hbb9
                  have HG9 := Lib.hid (HG8.out.xstep (XStep.of_b hs9) (HG8.out.bel.trans hb9))
                  have hty : ∀ {B n : Nat} {v : Value} {xs : List Value}, OwnL w8 B 9 1 v n xs → OwnL w9 B 9 1 v n xs := fun ho => ho.frame (fun g hg => by
                    obtain ⟨_, hlt, cur, hc⟩ := ho.lt hg
                    exact hs9.2 g hlt (fun cs fr e2 => by
                      rw [hc] at e2
                      injection e2 with e2; injection e2 with _ e2; exact absurd e2 (by decide)) (fun cs fr e2 => by
                      rw [hc] at e2
                      injection e2 with e2; injection e2 with _ e2; exact absurd e2 (by decide)))
                  have HA9 := Lib.hid (hty HA8.out)
                  have HV9 := Lib.hid (hty HV8.out)
                  have HC9 := Lib.hid (show ∀ j, (j < 16 ∧ j ≠ 0 ∧ j ≠ 1) → ((cs.setIfInBounds 0 lv).setIfInBounds 1 uv)[j]? = some (.slice none 0 0) from fun j hj => by
                    rw [Array.getElem?_setIfInBounds_ne (by omega), Array.getElem?_setIfInBounds_ne (by omega)]; exact HC.out j hj)
                  have HD9 := Lib.hid (show ∀ g, rowOf (.slice aa R2.length ac) = some g → ∀ i, i < k + 1 → rowOf (snocF vs k (.slice a7 R2.length c7) i) ≠ some g ∧ rowOf (snocF us k u9 i) ≠ some g from fun g hg i hi => by
                    by_cases hik : i = k
                    · subst hik
                      rw [snocF_last, snocF_last]
                      refine ⟨HDA.out g hg, fun e => ?_⟩
                      have h1 := (HA8.out.lt hg).2.1
                      have h2 := hu9 g e
                      omega
                    · rw [snocF_old _ _ (show i < k by omega), snocF_old _ _ (show i < k by omega)]
                      exact HDi.out g hg i (by omega))
                  clear hbb9 hu9 hb9 hs9 hty HG8 HA8 HB8 HV8
                  go_wp2_with fail
                  refine (same_texts _ _ R2 R2 _ (texts_of_ownL HV9.out (fun s hs => by have := HFEW.out.2.2 s hs; omega)) (texts_of_ownL HA9.out (fun s hs => by have := HFEW.out.2.2 s hs; omega))).mono ?_
                  rintro e w10 ⟨rfl, hb10⟩
                  rw [dec_t]
                  have HG10 := Lib.hid (HG9.out.step_ hb10)
                  have HA10 := Lib.hid (HA9.out.below hb10)
                  have HB10 := Lib.hid (HB9.out.below hb10)
                  clear hb10 HG9 HA9 HB9 HV9
                  have HLF := Lib.hid (show G'.left = mi from by rw [HP5.out.li.left_, List.length_replicate]; exact HMIi.out)
                  have HRC := Lib.hid (show G'.recs = (R2.length : Int) from HP5.out.li.recs)
                  have HGE := Lib.hid HP5.out.gen
                  have HBA := Lib.hid HP5.out.li.bad
                  go_wp2_with fail
                  refine (left_any HG10.out.bes.2 HP5.out.fit.1).mono ?_
                  rintro e w11 ⟨rfl, hb11⟩
                  rw [HLF.out]
                  have HG11 := Lib.hid (HG10.out.step_ hb11)
                  have HA11 := Lib.hid (HA10.out.below hb11)
                  have HB11 := Lib.hid (HB10.out.below hb11)
                  clear hb11 HG10 HA10 HB10
                  have hmm : (mi != mi) = false := by simp
                  go_wp2_with fail
                  refine (len_any HG11.out.bes.2).mono ?_
                  rintro e w12 ⟨rfl, hb12⟩
                  rw [HRC.out]
                  have HG12 := Lib.hid (HG11.out.step_ hb12)
                  have HA12 := Lib.hid (HA11.out.below hb12)
                  have HB12 := Lib.hid (HB11.out.below hb12)
                  clear hb12 HG11 HA11 HB11
                  have hrr : ((R2.length : Int) != R2.length) = false := by simp
                  go_wp2_with fail
                  refine (gen_any HG12.out.bes.2).mono ?_
                  rintro e w13 ⟨rfl, hb13⟩
                  rw [HGE.out]
                  have HG13 := Lib.hid (HG12.out.step_ hb13)
                  have HA13 := Lib.hid (HA12.out.below hb13)
                  have HB13 := Lib.hid (HB12.out.below hb13)
                  clear hb13 HG12 HA12 HB12
                  go_wp2_with fail
                  refine (broken_any HG13.out.bes.2).mono ?_
                  rintro e w14 ⟨rfl, hb14⟩
                  rw [HBA.out, show ((0 : Int) != 0) = false from rfl]
                  have HG14 := Lib.hid (HG13.out.step_ hb14)
                  have HA14 := Lib.hid (HA13.out.below hb14)
                  have HB14 := Lib.hid (HB13.out.below hb14)
                  clear hb14 HG13 HA13 HB13
                  go_wp2
                  go_roundw
                  case rel => exact ⟨k + 1, mm, mi, R2, D', G', aa, ac, _, _, _, _, hlt, by go_num, rfl, HMIi, rfl, HG14, HP5, HA14, HB14, HC9, HD9⟩
                  case measure => simp [intOf]; omega
                · have hmx2 : gen ≤ 18446744073709551614 := by omega
                  have hgm : (gen != 18446744073709551615) = true := by simpa using hmx
                  have hr2 := HP5.out.li.other (g := gen + 1) (by omega) (by rw [HP5.out.gen]; exact hgg) (by rw [HP5.out.gen]; omega) (clean_rep _ _)
                  rw [HP5.out.frm] at hr2
                  have HR2 := Lib.hid hr2
                  clear hr2
                  go_wp2_with fail
                  refine (lread_any frm (gen + 1) N HG7.out.disk ⟨by omega, by omega⟩ hN16 (by omega) HSM.out).mono ?_
                  rintro e w8 ⟨v8, rfl, ho8, hb8⟩
                  rw [HR2.out] at ho8
                  rw [HE.out]
                  obtain ⟨a8, c8, hv8⟩ := own_form ho8
                  subst hv8
                  clear ho8
                  have HV8 := Lib.hid (HV7b.out.below hb8)
                  have HG8 := Lib.hid (HG7.out.step_ hb8)
                  have HA8 := Lib.hid (HA7.out.below hb8)
                  have HB8 := Lib.hid (HB7.out.below hb8)
                  have HSZ8 := Lib.hid hb8.size
                  clear hb8 HG7 HA7 HB7
                  go_wp2_with fail
                  refine (add_t HB8.out (by omega) HV8.out HDV.out HBP.out (by have := HFEW.out.1; omega) (fun s hs => by have := HFEW.out.2.2 s hs; omega)).mono ?_
                  rintro e w9 ⟨rfl, lv, uv, u9, hbb9, hu9, hb9, hs9⟩
                  have HB9 := Lib.hid hbb9
                  have HG9 := Lib.hid (HG8.out.xstep (XStep.of_b hs9) (HG8.out.bel.trans hb9))
                  have hty : ∀ {B n : Nat} {v : Value} {xs : List Value}, OwnL w8 B 9 1 v n xs → OwnL w9 B 9 1 v n xs := fun ho => ho.frame (fun g hg => by
                    obtain ⟨_, hlt, cur, hc⟩ := ho.lt hg
                    exact hs9.2 g hlt (fun cs fr e2 => by
                      rw [hc] at e2
                      injection e2 with e2; injection e2 with _ e2; exact absurd e2 (by decide)) (fun cs fr e2 => by
                      rw [hc] at e2
                      injection e2 with e2; injection e2 with _ e2; exact absurd e2 (by decide)))
                  have HA9 := Lib.hid (hty HA8.out)
                  have HV9 := Lib.hid (hty HV8.out)
                  have HC9 := Lib.hid (show ∀ j, (j < 16 ∧ j ≠ 0 ∧ j ≠ 1) → ((cs.setIfInBounds 0 lv).setIfInBounds 1 uv)[j]? = some (.slice none 0 0) from fun j hj => by
                    rw [Array.getElem?_setIfInBounds_ne (by omega), Array.getElem?_setIfInBounds_ne (by omega)]; exact HC.out j hj)
                  have HD9 := Lib.hid (show ∀ g, rowOf (.slice aa R2.length ac) = some g → ∀ i, i < k + 1 → rowOf (snocF vs k (.slice a7 R2.length c7) i) ≠ some g ∧ rowOf (snocF us k u9 i) ≠ some g from fun g hg i hi => by
                    by_cases hik : i = k
                    · subst hik
                      rw [snocF_last, snocF_last]
                      refine ⟨HDA.out g hg, fun e => ?_⟩
                      have h1 := (HA8.out.lt hg).2.1
                      have h2 := hu9 g e
                      omega
                    · rw [snocF_old _ _ (show i < k by omega), snocF_old _ _ (show i < k by omega)]
                      exact HDi.out g hg i (by omega))
                  clear hbb9 hu9 hb9 hs9 hty HG8 HA8 HB8 HV8
                  go_wp2_with fail
                  refine (same_texts _ _ R2 R2 _ (texts_of_ownL HV9.out (fun s hs => by have := HFEW.out.2.2 s hs; omega)) (texts_of_ownL HA9.out (fun s hs => by have := HFEW.out.2.2 s hs; omega))).mono ?_
                  rintro e w10 ⟨rfl, hb10⟩
                  rw [dec_t]
                  have HG10 := Lib.hid (HG9.out.step_ hb10)
                  have HA10 := Lib.hid (HA9.out.below hb10)
                  have HB10 := Lib.hid (HB9.out.below hb10)
                  clear hb10 HG9 HA9 HB9 HV9
                  have HLF := Lib.hid (show G'.left = mi from by rw [HP5.out.li.left_, List.length_replicate]; exact HMIi.out)
                  have HRC := Lib.hid (show G'.recs = (R2.length : Int) from HP5.out.li.recs)
                  have HGE := Lib.hid HP5.out.gen
                  have HBA := Lib.hid HP5.out.li.bad
                  go_wp2_with fail
                  refine (left_any HG10.out.bes.2 HP5.out.fit.1).mono ?_
                  rintro e w11 ⟨rfl, hb11⟩
                  rw [HLF.out]
                  have HG11 := Lib.hid (HG10.out.step_ hb11)
                  have HA11 := Lib.hid (HA10.out.below hb11)
                  have HB11 := Lib.hid (HB10.out.below hb11)
                  clear hb11 HG10 HA10 HB10
                  have hmm : (mi != mi) = false := by simp
                  go_wp2_with fail
                  refine (len_any HG11.out.bes.2).mono ?_
                  rintro e w12 ⟨rfl, hb12⟩
                  rw [HRC.out]
                  have HG12 := Lib.hid (HG11.out.step_ hb12)
                  have HA12 := Lib.hid (HA11.out.below hb12)
                  have HB12 := Lib.hid (HB11.out.below hb12)
                  clear hb12 HG11 HA11 HB11
                  have hrr : ((R2.length : Int) != R2.length) = false := by simp
                  go_wp2_with fail
                  refine (gen_any HG12.out.bes.2).mono ?_
                  rintro e w13 ⟨rfl, hb13⟩
                  rw [HGE.out]
                  have HG13 := Lib.hid (HG12.out.step_ hb13)
                  have HA13 := Lib.hid (HA12.out.below hb13)
                  have HB13 := Lib.hid (HB12.out.below hb13)
                  clear hb13 HG12 HA12 HB12
                  go_wp2_with fail
                  refine (broken_any HG13.out.bes.2).mono ?_
                  rintro e w14 ⟨rfl, hb14⟩
                  rw [HBA.out, show ((0 : Int) != 0) = false from rfl]
                  have HG14 := Lib.hid (HG13.out.step_ hb14)
                  have HA14 := Lib.hid (HA13.out.below hb14)
                  have HB14 := Lib.hid (HB13.out.below hb14)
                  clear hb14 HG13 HA13 HB13
                  go_wp2
                  go_roundw
                  case rel => exact ⟨k + 1, mm, mi, R2, D', G', aa, ac, _, _, _, _, hlt, by go_num, rfl, HMIi, rfl, HG14, HP5, HA14, HB14, HC9, HD9⟩
                  case measure => simp [intOf]; omega
            · obtain rfl : j = X.texts.length := by omega
              have HWF := Lib.hid (show wantN m X.texts X.texts.length = (ei, mm, tt) from HW.out)
              obtain ⟨D', G', hr, hp⟩ := HP.out.app X.texts (by have := HBD.out; omega)
              rw [HWF.out] at hr hp
              dsimp only at hr hp
              have HR := Lib.hid hr
              have HP5 := Lib.hid (show PL D' G' (R ++ X.texts.take tt) mm N frm gen (sumT l (k + 1)) (k + 1) from by rw [HSU.out]; exact hp.more (Nat.le_refl _) (Nat.le_succ _))
              obtain ⟨R2, hR2⟩ : ∃ R2, R2 = R ++ X.texts.take tt := ⟨_, rfl⟩
              rw [← hR2] at HP5
              have hrl2 : rl = R2.length := by rw [hR2, List.length_append, List.length_take, HRL.out]; have := HTT.out; omega
              have HA2 := Lib.hid (show OwnL wr w1.heap.size 9 1 (.slice aa R2.length ac) R2.length (R2.map Value.string) by rw [← hrl2, hR2]; exact HAi.out)
              subst hrl2
              have hei : (ei != ei) = false := by simp
              clear hr hp hR2 HAi HRL
              go_wp2_with fail
              have hTB : TB wr q t (.slice (some ⟨mg, 0, none⟩) X.texts.length mcap) X.texts := ⟨HMi.out.1.texts (fun s hs => by have := HZX.out s hs; omega), fun b o s n c e hn => by
                injection e with e _ _; injection e with e; injection e with e
                subst e
                obtain ⟨_, _, cs9, fr9, h9⟩ := HMi.out
                refine ⟨fun ho => ?_, fun e2 => ?_⟩
                · rcases own_type HGi.out.disk ho h9 with e3 | e3 <;> exact absurd e3 (by decide)
                · subst e2
                  rw [HGi.out.bes.2] at h9
                  injection h9 with h9; injection h9 with _ h9; exact absurd h9 (by decide)⟩
              refine (App_every (.slice (some ⟨mg, 0, none⟩) X.texts.length mcap) X.texts (sumT l k) HGi.out HP.out.fit (by have := HBD.out; omega) hTB (fun i hi _ => HZX.out _ (by rw [List.getD_eq_getElem?_getD, List.getElem?_eq_getElem hi]; exact List.getElem_mem hi)) (by have := HBD.out; omega) (by have := HP.out.wr; have := HBD.out; have := HK50.out; omega)).mono ?_
              rintro e w5 ⟨rfl, h5, s5⟩
              rw [HR.out] at h5 ⊢
              dsimp only at h5
              have HG5 := Lib.hid (h5.mono (show 14 * sumT l k + 14 * X.texts.length ≤ 14 * sumT l (k + 1) by have := HSU.out; omega))
              have HA5 := Lib.hid (HA2.out.log HGi.out s5)
              have HB5 := Lib.hid (HBi.out.log HGi.out s5)
              have HM5 := Lib.hid (HMi.out.frame s5.size (by obtain ⟨_, _, cs9, fr9, h9⟩ := HMi.out; exact HGi.out.other s5 h9 (by decide)))
              have HO5 := Lib.hid ((HGi.out.other s5 HOi.out (by decide)).trans HOi.out)
              clear h5 s5 hTB
              have p2 : w5.cell? ⟨ob, 2, none⟩ = some (.slice ta X.texts.length tc) := by rw [cell_of_row w5 ob _ _ _ _ HO5.out]; rfl
              go_wp2_with fail
              refine (stays_texts _ _ X.texts _ HM5.out.1 (HX0.out.texts.below HG5.out.bel) (fun s hs => by have := HZX.out s hs; omega)).mono ?_
              rintro e w6 ⟨rfl, hb6⟩
              have HG6 := Lib.hid (HG5.out.step_ hb6)
              have HA6 := Lib.hid (HA5.out.below hb6)
              have HB6 := Lib.hid (HB5.out.below hb6)
              clear hb6 p2 HG5 HA5 HB5 HM5 HO5 HMi HOi HBi HGi HA2 HMGi
              have hr1 := HP5.out.li.read (clean_rep _ _)
              have he := HP5.out.li.err N (Nat.le_refl _)
              rw [HP5.out.frm] at hr1 he
              rw [HP5.out.gen] at hr1
              have HR1 := Lib.hid hr1
              have HE := Lib.hid he
              have HSM := Lib.hid (fun i hi => read_size HP5.out.li.sm i hi)
              have hN16 : 1 ≤ N ∧ N ≤ 4096 := by omega
              have HFEW := Lib.hid HP5.out.few
              have hR30 : (R2.length : Int) ≤ 30 := by have := HP5.out.few.1; omega
              clear hr1 he
              go_wp2_with fail
              refine (lread_any frm gen N HG6.out.disk ⟨hX1, hgg.2⟩ hN16 (by omega) HSM.out).mono ?_
              rintro e w7 ⟨v7, rfl, ho7, hb7⟩
              rw [HR1.out] at ho7
              rw [HE.out]
              obtain ⟨a7, c7, hv7⟩ := own_form ho7
              subst hv7
              have HV7 := Lib.hid (OwnL.of_row ho7)
              have HG7 := Lib.hid (HG6.out.step_ hb7)
              have HA7 := Lib.hid (HA6.out.below hb7)
              have HB7 := Lib.hid (HB6.out.below hb7)
              have HDV := Lib.hid (show ∀ i g, i < k → rowOf (vs i) = some g → rowOf (.slice a7 R2.length c7) ≠ some g from fun i g hi hg e => by
                have h1 := ((HB6.out.bk.fam.own i hi).lt hg).2.1
                have h2 := ((OwnL.of_row ho7).lt e).1
                omega)
              have HDA := Lib.hid (show ∀ g, rowOf (.slice aa R2.length ac) = some g → rowOf (.slice a7 R2.length c7) ≠ some g from fun g hg e => by
                have h1 := (HA6.out.lt hg).2.1
                have h2 := ((OwnL.of_row ho7).lt e).1
                omega)
              have hB7 : w1.heap.size ≤ w7.heap.size := HG7.out.bel.size
              have HV7b := Lib.hid (HV7.out.mono (show w1.heap.size ≤ w6.heap.size from HG6.out.bel.size))
              clear ho7 hb7 HG6 HA6 HB6
              by_cases hmx : gen = 18446744073709551615
              · subst hmx
                have hno := lread_no (w := w7) (q := q) frm N 0 (by omega)
                go_wp2_with fail
                refine hno.mono ?_
                rintro e w8 ⟨rfl, hb8⟩
                clear hno
                have HV8 := Lib.hid (HV7b.out.below hb8)
                have HG8 := Lib.hid (HG7.out.step_ hb8)
                have HA8 := Lib.hid (HA7.out.below hb8)
                have HB8 := Lib.hid (HB7.out.below hb8)
                have HSZ8 := Lib.hid hb8.size
                clear hb8 HG7 HA7 HB7
                go_wp2_with fail
                refine (add_t HB8.out (by omega) HV8.out HDV.out HBP.out (by have := HFEW.out.1; omega) (fun s hs => by have := HFEW.out.2.2 s hs; omega)).mono ?_
                rintro e w9 ⟨rfl, lv, uv, u9, hbb9, hu9, hb9, hs9⟩
                have HB9 := Lib.hid hbb9
                have HG9 := Lib.hid (HG8.out.xstep (XStep.of_b hs9) (HG8.out.bel.trans hb9))
                have hty : ∀ {B n : Nat} {v : Value} {xs : List Value}, OwnL w8 B 9 1 v n xs → OwnL w9 B 9 1 v n xs := fun ho => ho.frame (fun g hg => by
                  obtain ⟨_, hlt, cur, hc⟩ := ho.lt hg
                  exact hs9.2 g hlt (fun cs fr e2 => by
                    rw [hc] at e2
                    injection e2 with e2; injection e2 with _ e2; exact absurd e2 (by decide)) (fun cs fr e2 => by
                    rw [hc] at e2
                    injection e2 with e2; injection e2 with _ e2; exact absurd e2 (by decide)))
                have HA9 := Lib.hid (hty HA8.out)
                have HV9 := Lib.hid (hty HV8.out)
                have HC9 := Lib.hid (show ∀ j, (j < 16 ∧ j ≠ 0 ∧ j ≠ 1) → ((cs.setIfInBounds 0 lv).setIfInBounds 1 uv)[j]? = some (.slice none 0 0) from fun j hj => by
                  rw [Array.getElem?_setIfInBounds_ne (by omega), Array.getElem?_setIfInBounds_ne (by omega)]; exact HC.out j hj)
                have HD9 := Lib.hid (show ∀ g, rowOf (.slice aa R2.length ac) = some g → ∀ i, i < k + 1 → rowOf (snocF vs k (.slice a7 R2.length c7) i) ≠ some g ∧ rowOf (snocF us k u9 i) ≠ some g from fun g hg i hi => by
                  by_cases hik : i = k
                  · subst hik
                    rw [snocF_last, snocF_last]
                    refine ⟨HDA.out g hg, fun e => ?_⟩
                    have h1 := (HA8.out.lt hg).2.1
                    have h2 := hu9 g e
                    omega
                  · rw [snocF_old _ _ (show i < k by omega), snocF_old _ _ (show i < k by omega)]
                    exact HDi.out g hg i (by omega))
                clear hbb9 hu9 hb9 hs9 hty HG8 HA8 HB8 HV8
                go_wp2_with fail
                refine (same_texts _ _ R2 R2 _ (texts_of_ownL HV9.out (fun s hs => by have := HFEW.out.2.2 s hs; omega)) (texts_of_ownL HA9.out (fun s hs => by have := HFEW.out.2.2 s hs; omega))).mono ?_
                rintro e w10 ⟨rfl, hb10⟩
                rw [dec_t]
                have HG10 := Lib.hid (HG9.out.step_ hb10)
                have HA10 := Lib.hid (HA9.out.below hb10)
                have HB10 := Lib.hid (HB9.out.below hb10)
                clear hb10 HG9 HA9 HB9 HV9
                have HLF := Lib.hid (show G'.left = mi from by rw [HP5.out.li.left_, List.length_replicate]; exact HMIi.out)
                have HRC := Lib.hid (show G'.recs = (R2.length : Int) from HP5.out.li.recs)
                have HGE := Lib.hid HP5.out.gen
                have HBA := Lib.hid HP5.out.li.bad
                go_wp2_with fail
                refine (left_any HG10.out.bes.2 HP5.out.fit.1).mono ?_
                rintro e w11 ⟨rfl, hb11⟩
                rw [HLF.out]
                have HG11 := Lib.hid (HG10.out.step_ hb11)
                have HA11 := Lib.hid (HA10.out.below hb11)
                have HB11 := Lib.hid (HB10.out.below hb11)
                clear hb11 HG10 HA10 HB10
                have hmm : (mi != mi) = false := by simp
                go_wp2_with fail
                refine (len_any HG11.out.bes.2).mono ?_
                rintro e w12 ⟨rfl, hb12⟩
                rw [HRC.out]
                have HG12 := Lib.hid (HG11.out.step_ hb12)
                have HA12 := Lib.hid (HA11.out.below hb12)
                have HB12 := Lib.hid (HB11.out.below hb12)
                clear hb12 HG11 HA11 HB11
                have hrr : ((R2.length : Int) != R2.length) = false := by simp
                go_wp2_with fail
                refine (gen_any HG12.out.bes.2).mono ?_
                rintro e w13 ⟨rfl, hb13⟩
                rw [HGE.out]
                have HG13 := Lib.hid (HG12.out.step_ hb13)
                have HA13 := Lib.hid (HA12.out.below hb13)
                have HB13 := Lib.hid (HB12.out.below hb13)
                clear hb13 HG12 HA12 HB12
                go_wp2_with fail
                refine (broken_any HG13.out.bes.2).mono ?_
                rintro e w14 ⟨rfl, hb14⟩
                rw [HBA.out, show ((0 : Int) != 0) = false from rfl]
                have HG14 := Lib.hid (HG13.out.step_ hb14)
                have HA14 := Lib.hid (HA13.out.below hb14)
                have HB14 := Lib.hid (HB13.out.below hb14)
                clear hb14 HG13 HA13 HB13
                go_wp2
                go_roundw
                case rel => exact ⟨k + 1, mm, mi, R2, D', G', aa, ac, _, _, _, _, hlt, by go_num, rfl, HMIi, rfl, HG14, HP5, HA14, HB14, HC9, HD9⟩
                case measure => simp [intOf]; omega
              · have hmx2 : gen ≤ 18446744073709551614 := by omega
                have hgm : (gen != 18446744073709551615) = true := by simpa using hmx
                have hr2 := HP5.out.li.other (g := gen + 1) (by omega) (by rw [HP5.out.gen]; exact hgg) (by rw [HP5.out.gen]; omega) (clean_rep _ _)
                rw [HP5.out.frm] at hr2
                have HR2 := Lib.hid hr2
                clear hr2
                go_wp2_with fail
                refine (lread_any frm (gen + 1) N HG7.out.disk ⟨by omega, by omega⟩ hN16 (by omega) HSM.out).mono ?_
                rintro e w8 ⟨v8, rfl, ho8, hb8⟩
                rw [HR2.out] at ho8
                rw [HE.out]
                obtain ⟨a8, c8, hv8⟩ := own_form ho8
                subst hv8
                clear ho8
                have HV8 := Lib.hid (HV7b.out.below hb8)
                have HG8 := Lib.hid (HG7.out.step_ hb8)
                have HA8 := Lib.hid (HA7.out.below hb8)
                have HB8 := Lib.hid (HB7.out.below hb8)
                have HSZ8 := Lib.hid hb8.size
                clear hb8 HG7 HA7 HB7
                go_wp2_with fail
                refine (add_t HB8.out (by omega) HV8.out HDV.out HBP.out (by have := HFEW.out.1; omega) (fun s hs => by have := HFEW.out.2.2 s hs; omega)).mono ?_
                rintro e w9 ⟨rfl, lv, uv, u9, hbb9, hu9, hb9, hs9⟩
                have HB9 := Lib.hid hbb9
                have HG9 := Lib.hid (HG8.out.xstep (XStep.of_b hs9) (HG8.out.bel.trans hb9))
                have hty : ∀ {B n : Nat} {v : Value} {xs : List Value}, OwnL w8 B 9 1 v n xs → OwnL w9 B 9 1 v n xs := fun ho => ho.frame (fun g hg => by
                  obtain ⟨_, hlt, cur, hc⟩ := ho.lt hg
                  exact hs9.2 g hlt (fun cs fr e2 => by
                    rw [hc] at e2
                    injection e2 with e2; injection e2 with _ e2; exact absurd e2 (by decide)) (fun cs fr e2 => by
                    rw [hc] at e2
                    injection e2 with e2; injection e2 with _ e2; exact absurd e2 (by decide)))
                have HA9 := Lib.hid (hty HA8.out)
                have HV9 := Lib.hid (hty HV8.out)
                have HC9 := Lib.hid (show ∀ j, (j < 16 ∧ j ≠ 0 ∧ j ≠ 1) → ((cs.setIfInBounds 0 lv).setIfInBounds 1 uv)[j]? = some (.slice none 0 0) from fun j hj => by
                  rw [Array.getElem?_setIfInBounds_ne (by omega), Array.getElem?_setIfInBounds_ne (by omega)]; exact HC.out j hj)
                have HD9 := Lib.hid (show ∀ g, rowOf (.slice aa R2.length ac) = some g → ∀ i, i < k + 1 → rowOf (snocF vs k (.slice a7 R2.length c7) i) ≠ some g ∧ rowOf (snocF us k u9 i) ≠ some g from fun g hg i hi => by
                  by_cases hik : i = k
                  · subst hik
                    rw [snocF_last, snocF_last]
                    refine ⟨HDA.out g hg, fun e => ?_⟩
                    have h1 := (HA8.out.lt hg).2.1
                    have h2 := hu9 g e
                    omega
                  · rw [snocF_old _ _ (show i < k by omega), snocF_old _ _ (show i < k by omega)]
                    exact HDi.out g hg i (by omega))
                clear hbb9 hu9 hb9 hs9 hty HG8 HA8 HB8 HV8
                go_wp2_with fail
                refine (same_texts _ _ R2 R2 _ (texts_of_ownL HV9.out (fun s hs => by have := HFEW.out.2.2 s hs; omega)) (texts_of_ownL HA9.out (fun s hs => by have := HFEW.out.2.2 s hs; omega))).mono ?_
                rintro e w10 ⟨rfl, hb10⟩
                rw [dec_t]
                have HG10 := Lib.hid (HG9.out.step_ hb10)
                have HA10 := Lib.hid (HA9.out.below hb10)
                have HB10 := Lib.hid (HB9.out.below hb10)
                clear hb10 HG9 HA9 HB9 HV9
                have HLF := Lib.hid (show G'.left = mi from by rw [HP5.out.li.left_, List.length_replicate]; exact HMIi.out)
                have HRC := Lib.hid (show G'.recs = (R2.length : Int) from HP5.out.li.recs)
                have HGE := Lib.hid HP5.out.gen
                have HBA := Lib.hid HP5.out.li.bad
                go_wp2_with fail
                refine (left_any HG10.out.bes.2 HP5.out.fit.1).mono ?_
                rintro e w11 ⟨rfl, hb11⟩
                rw [HLF.out]
                have HG11 := Lib.hid (HG10.out.step_ hb11)
                have HA11 := Lib.hid (HA10.out.below hb11)
                have HB11 := Lib.hid (HB10.out.below hb11)
                clear hb11 HG10 HA10 HB10
                have hmm : (mi != mi) = false := by simp
                go_wp2_with fail
                refine (len_any HG11.out.bes.2).mono ?_
                rintro e w12 ⟨rfl, hb12⟩
                rw [HRC.out]
                have HG12 := Lib.hid (HG11.out.step_ hb12)
                have HA12 := Lib.hid (HA11.out.below hb12)
                have HB12 := Lib.hid (HB11.out.below hb12)
                clear hb12 HG11 HA11 HB11
                have hrr : ((R2.length : Int) != R2.length) = false := by simp
                go_wp2_with fail
                refine (gen_any HG12.out.bes.2).mono ?_
                rintro e w13 ⟨rfl, hb13⟩
                rw [HGE.out]
                have HG13 := Lib.hid (HG12.out.step_ hb13)
                have HA13 := Lib.hid (HA12.out.below hb13)
                have HB13 := Lib.hid (HB12.out.below hb13)
                clear hb13 HG12 HA12 HB12
                go_wp2_with fail
                refine (broken_any HG13.out.bes.2).mono ?_
                rintro e w14 ⟨rfl, hb14⟩
                rw [HBA.out, show ((0 : Int) != 0) = false from rfl]
                have HG14 := Lib.hid (HG13.out.step_ hb14)
                have HA14 := Lib.hid (HA13.out.below hb14)
                have HB14 := Lib.hid (HB13.out.below hb14)
                clear hb14 HG13 HA13 HB13
                go_wp2
                go_roundw
                case rel => exact ⟨k + 1, mm, mi, R2, D', G', aa, ac, _, _, _, _, hlt, by go_num, rfl, HMIi, rfl, HG14, HP5, HA14, HB14, HC9, HD9⟩
                case measure => simp [intOf]; omega
        · have e1' : (K == 1) = false := by simpa using e1
          have HDi := HD
          have HMIi := HMI
          obtain ⟨mm, rfl⟩ : ∃ mm, mm = m := ⟨_, rfl⟩
          obtain ⟨R2, rfl⟩ : ∃ R2, R2 = R := ⟨_, rfl⟩
          obtain ⟨hfl, hpf⟩ := HP.out.flush
          have HFLS := Lib.hid hfl
          obtain ⟨G', rfl⟩ : ∃ G', G' = G := ⟨_, rfl⟩
          obtain ⟨D', hD'⟩ : ∃ D', D' = D.spent.flushed := ⟨_, rfl⟩
          rw [← hD'] at hpf HFLS
          have HP5 := Lib.hid (show PL D' G' R2 mm N frm gen (sumT l (k + 1)) (k + 1) from hpf.more (by have := HSU.out; omega) (Nat.le_refl _))
          clear hfl hpf hD' HM4 HO4 HMG
          go_wp2_with fail
          refine (gflush_any HG4.out (by have := HBD.out; omega) (by have := HP.out.wr; have := HBD.out; have := HK50.out; omega)).mono ?_
          rintro e w5 ⟨rfl, h5, s5⟩
          rw [HFLS.out] at h5 ⊢
          dsimp only at h5
          have HG6 := Lib.hid (h5.mono (show 14 * sumT l k ≤ 14 * sumT l (k + 1) by have := HSU.out; omega))
          have HA6 := Lib.hid (HA4.out.log HG4.out s5)
          have HB6 := Lib.hid (HB4.out.log HG4.out s5)
          obtain ⟨w6, hw6⟩ : ∃ w6, w6 = w5 := ⟨_, rfl⟩
          rw [← hw6] at HG6 HA6 HB6 ⊢
          clear h5 s5 hw6 HG4 HA4 HB4 p0
          have hr1 := HP5.out.li.read (clean_rep _ _)
          have he := HP5.out.li.err N (Nat.le_refl _)
          rw [HP5.out.frm] at hr1 he
          rw [HP5.out.gen] at hr1
          have HR1 := Lib.hid hr1
          have HE := Lib.hid he
          have HSM := Lib.hid (fun i hi => read_size HP5.out.li.sm i hi)
          have hN16 : 1 ≤ N ∧ N ≤ 4096 := by omega
          have HFEW := Lib.hid HP5.out.few
          have hR30 : (R2.length : Int) ≤ 30 := by have := HP5.out.few.1; omega
          clear hr1 he
          go_wp2_with fail
          refine (lread_any frm gen N HG6.out.disk ⟨hX1, hgg.2⟩ hN16 (by omega) HSM.out).mono ?_
          rintro e w7 ⟨v7, rfl, ho7, hb7⟩
          rw [HR1.out] at ho7
          rw [HE.out]
          obtain ⟨a7, c7, hv7⟩ := own_form ho7
          subst hv7
          have HV7 := Lib.hid (OwnL.of_row ho7)
          have HG7 := Lib.hid (HG6.out.step_ hb7)
          have HA7 := Lib.hid (HA6.out.below hb7)
          have HB7 := Lib.hid (HB6.out.below hb7)
          have HDV := Lib.hid (show ∀ i g, i < k → rowOf (vs i) = some g → rowOf (.slice a7 R2.length c7) ≠ some g from fun i g hi hg e => by
            have h1 := ((HB6.out.bk.fam.own i hi).lt hg).2.1
            have h2 := ((OwnL.of_row ho7).lt e).1
            omega)
          have HDA := Lib.hid (show ∀ g, rowOf (.slice aa R2.length ac) = some g → rowOf (.slice a7 R2.length c7) ≠ some g from fun g hg e => by
            have h1 := (HA6.out.lt hg).2.1
            have h2 := ((OwnL.of_row ho7).lt e).1
            omega)
          have hB7 : w1.heap.size ≤ w7.heap.size := HG7.out.bel.size
          have HV7b := Lib.hid (HV7.out.mono (show w1.heap.size ≤ w6.heap.size from HG6.out.bel.size))
          clear ho7 hb7 HG6 HA6 HB6
          by_cases hmx : gen = 18446744073709551615
          · subst hmx
            have hno := lread_no (w := w7) (q := q) frm N 0 (by omega)
            go_wp2_with fail
            refine hno.mono ?_
            rintro e w8 ⟨rfl, hb8⟩
            clear hno
            have HV8 := Lib.hid (HV7b.out.below hb8)
            have HG8 := Lib.hid (HG7.out.step_ hb8)
            have HA8 := Lib.hid (HA7.out.below hb8)
            have HB8 := Lib.hid (HB7.out.below hb8)
            have HSZ8 := Lib.hid hb8.size
            clear hb8 HG7 HA7 HB7
            go_wp2_with fail
            refine (add_t HB8.out (by omega) HV8.out HDV.out HBP.out (by have := HFEW.out.1; omega) (fun s hs => by have := HFEW.out.2.2 s hs; omega)).mono ?_
            rintro e w9 ⟨rfl, lv, uv, u9, hbb9, hu9, hb9, hs9⟩
            have HB9 := Lib.hid hbb9
            have HG9 := Lib.hid (HG8.out.xstep (XStep.of_b hs9) (HG8.out.bel.trans hb9))
            have hty : ∀ {B n : Nat} {v : Value} {xs : List Value}, OwnL w8 B 9 1 v n xs → OwnL w9 B 9 1 v n xs := fun ho => ho.frame (fun g hg => by
              obtain ⟨_, hlt, cur, hc⟩ := ho.lt hg
              exact hs9.2 g hlt (fun cs fr e2 => by
                rw [hc] at e2
                injection e2 with e2; injection e2 with _ e2; exact absurd e2 (by decide)) (fun cs fr e2 => by
                rw [hc] at e2
                injection e2 with e2; injection e2 with _ e2; exact absurd e2 (by decide)))
            have HA9 := Lib.hid (hty HA8.out)
            have HV9 := Lib.hid (hty HV8.out)
            have HC9 := Lib.hid (show ∀ j, (j < 16 ∧ j ≠ 0 ∧ j ≠ 1) → ((cs.setIfInBounds 0 lv).setIfInBounds 1 uv)[j]? = some (.slice none 0 0) from fun j hj => by
              rw [Array.getElem?_setIfInBounds_ne (by omega), Array.getElem?_setIfInBounds_ne (by omega)]; exact HC.out j hj)
            have HD9 := Lib.hid (show ∀ g, rowOf (.slice aa R2.length ac) = some g → ∀ i, i < k + 1 → rowOf (snocF vs k (.slice a7 R2.length c7) i) ≠ some g ∧ rowOf (snocF us k u9 i) ≠ some g from fun g hg i hi => by
              by_cases hik : i = k
              · subst hik
                rw [snocF_last, snocF_last]
                refine ⟨HDA.out g hg, fun e => ?_⟩
                have h1 := (HA8.out.lt hg).2.1
                have h2 := hu9 g e
                omega
              · rw [snocF_old _ _ (show i < k by omega), snocF_old _ _ (show i < k by omega)]
                exact HDi.out g hg i (by omega))
            clear hbb9 hu9 hb9 hs9 hty HG8 HA8 HB8 HV8
            go_wp2_with fail
            refine (same_texts _ _ R2 R2 _ (texts_of_ownL HV9.out (fun s hs => by have := HFEW.out.2.2 s hs; omega)) (texts_of_ownL HA9.out (fun s hs => by have := HFEW.out.2.2 s hs; omega))).mono ?_
            rintro e w10 ⟨rfl, hb10⟩
            rw [dec_t]
            have HG10 := Lib.hid (HG9.out.step_ hb10)
            have HA10 := Lib.hid (HA9.out.below hb10)
            have HB10 := Lib.hid (HB9.out.below hb10)
            clear hb10 HG9 HA9 HB9 HV9
            have HLF := Lib.hid (show G'.left = mi from by rw [HP5.out.li.left_, List.length_replicate]; exact HMIi.out)
            have HRC := Lib.hid (show G'.recs = (R2.length : Int) from HP5.out.li.recs)
            have HGE := Lib.hid HP5.out.gen
            have HBA := Lib.hid HP5.out.li.bad
            go_wp2_with fail
            refine (left_any HG10.out.bes.2 HP5.out.fit.1).mono ?_
            rintro e w11 ⟨rfl, hb11⟩
            rw [HLF.out]
            have HG11 := Lib.hid (HG10.out.step_ hb11)
            have HA11 := Lib.hid (HA10.out.below hb11)
            have HB11 := Lib.hid (HB10.out.below hb11)
            clear hb11 HG10 HA10 HB10
            have hmm : (mi != mi) = false := by simp
            go_wp2_with fail
            refine (len_any HG11.out.bes.2).mono ?_
            rintro e w12 ⟨rfl, hb12⟩
            rw [HRC.out]
            have HG12 := Lib.hid (HG11.out.step_ hb12)
            have HA12 := Lib.hid (HA11.out.below hb12)
            have HB12 := Lib.hid (HB11.out.below hb12)
            clear hb12 HG11 HA11 HB11
            have hrr : ((R2.length : Int) != R2.length) = false := by simp
            go_wp2_with fail
            refine (gen_any HG12.out.bes.2).mono ?_
            rintro e w13 ⟨rfl, hb13⟩
            rw [HGE.out]
            have HG13 := Lib.hid (HG12.out.step_ hb13)
            have HA13 := Lib.hid (HA12.out.below hb13)
            have HB13 := Lib.hid (HB12.out.below hb13)
            clear hb13 HG12 HA12 HB12
            go_wp2_with fail
            refine (broken_any HG13.out.bes.2).mono ?_
            rintro e w14 ⟨rfl, hb14⟩
            rw [HBA.out, show ((0 : Int) != 0) = false from rfl]
            have HG14 := Lib.hid (HG13.out.step_ hb14)
            have HA14 := Lib.hid (HA13.out.below hb14)
            have HB14 := Lib.hid (HB13.out.below hb14)
            clear hb14 HG13 HA13 HB13
            go_wp2
            go_roundw
            case rel => exact ⟨k + 1, mm, mi, R2, D', G', aa, ac, _, _, _, _, hlt, by go_num, rfl, HMIi, rfl, HG14, HP5, HA14, HB14, HC9, HD9⟩
            case measure => simp [intOf]; omega
          · have hmx2 : gen ≤ 18446744073709551614 := by omega
            have hgm : (gen != 18446744073709551615) = true := by simpa using hmx
            have hr2 := HP5.out.li.other (g := gen + 1) (by omega) (by rw [HP5.out.gen]; exact hgg) (by rw [HP5.out.gen]; omega) (clean_rep _ _)
            rw [HP5.out.frm] at hr2
            have HR2 := Lib.hid hr2
            clear hr2
            go_wp2_with fail
            refine (lread_any frm (gen + 1) N HG7.out.disk ⟨by omega, by omega⟩ hN16 (by omega) HSM.out).mono ?_
            rintro e w8 ⟨v8, rfl, ho8, hb8⟩
            rw [HR2.out] at ho8
            rw [HE.out]
            obtain ⟨a8, c8, hv8⟩ := own_form ho8
            subst hv8
            clear ho8
            have HV8 := Lib.hid (HV7b.out.below hb8)
            have HG8 := Lib.hid (HG7.out.step_ hb8)
            have HA8 := Lib.hid (HA7.out.below hb8)
            have HB8 := Lib.hid (HB7.out.below hb8)
            have HSZ8 := Lib.hid hb8.size
            clear hb8 HG7 HA7 HB7
            go_wp2_with fail
            refine (add_t HB8.out (by omega) HV8.out HDV.out HBP.out (by have := HFEW.out.1; omega) (fun s hs => by have := HFEW.out.2.2 s hs; omega)).mono ?_
            rintro e w9 ⟨rfl, lv, uv, u9, hbb9, hu9, hb9, hs9⟩
            have HB9 := Lib.hid hbb9
            have HG9 := Lib.hid (HG8.out.xstep (XStep.of_b hs9) (HG8.out.bel.trans hb9))
            have hty : ∀ {B n : Nat} {v : Value} {xs : List Value}, OwnL w8 B 9 1 v n xs → OwnL w9 B 9 1 v n xs := fun ho => ho.frame (fun g hg => by
              obtain ⟨_, hlt, cur, hc⟩ := ho.lt hg
              exact hs9.2 g hlt (fun cs fr e2 => by
                rw [hc] at e2
                injection e2 with e2; injection e2 with _ e2; exact absurd e2 (by decide)) (fun cs fr e2 => by
                rw [hc] at e2
                injection e2 with e2; injection e2 with _ e2; exact absurd e2 (by decide)))
            have HA9 := Lib.hid (hty HA8.out)
            have HV9 := Lib.hid (hty HV8.out)
            have HC9 := Lib.hid (show ∀ j, (j < 16 ∧ j ≠ 0 ∧ j ≠ 1) → ((cs.setIfInBounds 0 lv).setIfInBounds 1 uv)[j]? = some (.slice none 0 0) from fun j hj => by
              rw [Array.getElem?_setIfInBounds_ne (by omega), Array.getElem?_setIfInBounds_ne (by omega)]; exact HC.out j hj)
            have HD9 := Lib.hid (show ∀ g, rowOf (.slice aa R2.length ac) = some g → ∀ i, i < k + 1 → rowOf (snocF vs k (.slice a7 R2.length c7) i) ≠ some g ∧ rowOf (snocF us k u9 i) ≠ some g from fun g hg i hi => by
              by_cases hik : i = k
              · subst hik
                rw [snocF_last, snocF_last]
                refine ⟨HDA.out g hg, fun e => ?_⟩
                have h1 := (HA8.out.lt hg).2.1
                have h2 := hu9 g e
                omega
              · rw [snocF_old _ _ (show i < k by omega), snocF_old _ _ (show i < k by omega)]
                exact HDi.out g hg i (by omega))
            clear hbb9 hu9 hb9 hs9 hty HG8 HA8 HB8 HV8
            go_wp2_with fail
            refine (same_texts _ _ R2 R2 _ (texts_of_ownL HV9.out (fun s hs => by have := HFEW.out.2.2 s hs; omega)) (texts_of_ownL HA9.out (fun s hs => by have := HFEW.out.2.2 s hs; omega))).mono ?_
            rintro e w10 ⟨rfl, hb10⟩
            rw [dec_t]
            have HG10 := Lib.hid (HG9.out.step_ hb10)
            have HA10 := Lib.hid (HA9.out.below hb10)
            have HB10 := Lib.hid (HB9.out.below hb10)
            clear hb10 HG9 HA9 HB9 HV9
            have HLF := Lib.hid (show G'.left = mi from by rw [HP5.out.li.left_, List.length_replicate]; exact HMIi.out)
            have HRC := Lib.hid (show G'.recs = (R2.length : Int) from HP5.out.li.recs)
            have HGE := Lib.hid HP5.out.gen
            have HBA := Lib.hid HP5.out.li.bad
            go_wp2_with fail
            refine (left_any HG10.out.bes.2 HP5.out.fit.1).mono ?_
            rintro e w11 ⟨rfl, hb11⟩
            rw [HLF.out]
            have HG11 := Lib.hid (HG10.out.step_ hb11)
            have HA11 := Lib.hid (HA10.out.below hb11)
            have HB11 := Lib.hid (HB10.out.below hb11)
            clear hb11 HG10 HA10 HB10
            have hmm : (mi != mi) = false := by simp
            go_wp2_with fail
            refine (len_any HG11.out.bes.2).mono ?_
            rintro e w12 ⟨rfl, hb12⟩
            rw [HRC.out]
            have HG12 := Lib.hid (HG11.out.step_ hb12)
            have HA12 := Lib.hid (HA11.out.below hb12)
            have HB12 := Lib.hid (HB11.out.below hb12)
            clear hb12 HG11 HA11 HB11
            have hrr : ((R2.length : Int) != R2.length) = false := by simp
            go_wp2_with fail
            refine (gen_any HG12.out.bes.2).mono ?_
            rintro e w13 ⟨rfl, hb13⟩
            rw [HGE.out]
            have HG13 := Lib.hid (HG12.out.step_ hb13)
            have HA13 := Lib.hid (HA12.out.below hb13)
            have HB13 := Lib.hid (HB12.out.below hb13)
            clear hb13 HG12 HA12 HB12
            go_wp2_with fail
            refine (broken_any HG13.out.bes.2).mono ?_
            rintro e w14 ⟨rfl, hb14⟩
            rw [HBA.out, show ((0 : Int) != 0) = false from rfl]
            have HG14 := Lib.hid (HG13.out.step_ hb14)
            have HA14 := Lib.hid (HA13.out.below hb14)
            have HB14 := Lib.hid (HB13.out.below hb14)
            clear hb14 HG13 HA13 HB13
            go_wp2
            go_roundw
            case rel => exact ⟨k + 1, mm, mi, R2, D', G', aa, ac, _, _, _, _, hlt, by go_num, rfl, HMIi, rfl, HG14, HP5, HA14, HB14, HC9, HD9⟩
            case measure => simp [intOf]; omega
      · have hkl : k = l.length := by omega
        have HBX := Lib.hid HG.out.bel
        go_wp2_with fail
        refine (alive_any _).mono ?_
        rintro e w4 ⟨rfl, hb4⟩
        have HB4 := Lib.hid (HB.out.below hb4)
        have HX4 := Lib.hid (HBX.out.trans (hb4.mono HBX.out.size))
        clear hb4
        go_wp2_with fail
        refine (apart_any HB4.out (fun j hj => HC.out j hj) HBP.out).mono ?_
        rintro e w5 ⟨rfl, hb5⟩
        have HX5 := Lib.hid (HX4.out.trans hb5)
        clear hb5
        go_wp2
        go_ret
        exact ⟨rfl, chain HB0.out HX5.out⟩
  · by_cases hX1 : 0 < gen
    · have hg0 : (gen != 0) = true := by simp; omega
      have hn1 : n < 1 := by omega
      have hno := new_no (w := w2) (q := q) frm n gen (by omega)
      clear hX
      go_wp2_with fail
      refine hno.mono ?_
      rintro e w3 ⟨rfl, hb3⟩
      have HB3 := Lib.hid (chain HB2.out hb3)
      clear hno hb3
      go_wp2_with fail
      refine (alive_any _).mono ?_
      rintro e w4 ⟨rfl, hb4⟩
      go_wp2
      go_ret
      exact ⟨rfl, chain HB0.out (chain HB3.out hb4)⟩
    · have hg0 : (gen != 0) = false := by simp; omega
      have hno := new_no (w := w2) (q := q) frm n gen (by omega)
      clear hX
      go_wp2_with fail
      refine hno.mono ?_
      rintro e w3 ⟨rfl, hb3⟩
      have HB3 := Lib.hid (chain HB2.out hb3)
      clear hno hb3
      go_wp2_with fail
      refine (alive_any _).mono ?_
      rintro e w4 ⟨rfl, hb4⟩
      go_wp2
      go_ret
      exact ⟨rfl, chain HB0.out (chain HB3.out hb4)⟩
end Go.Proofs.YtjcggkfinhkcoaaGreat
