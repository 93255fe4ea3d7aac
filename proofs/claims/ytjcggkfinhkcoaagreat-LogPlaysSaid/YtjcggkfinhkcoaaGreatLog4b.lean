/-
  The contracts of a log's append and Append for records of any length that there may be.
-/
import Derived.Test.YtjcggkfinhkcoaaGreatLog5
import Derived.Test.YtjcggkfinhkcoaaGreatLogBig
namespace Go.Proofs.YtjcggkfinhkcoaaGreat
open Go.RowKit
set_option linter.unusedVariables false
set_option linter.unusedSimpArgs false

def longS (B n : Nat) : Spec Blw := .rel (fun v w => ∃ l : List ByteArray, l.length = n ∧ w.ownsRow B 9 1 v l.length (l.map Value.string)) (fun v w w' h hb => by obtain ⟨l, h1, h2⟩ := h; exact ⟨l, h1, own_step h2 hb⟩)
section
variable {w0 w w' : World} {B q c t : Nat} {d : DV} {G : LV}
set_option maxRecDepth 100000 in
set_option maxHeartbeats 4000000 in
theorem app_long (s : ByteArray) (h : LgAt w0 w B q c d t G) (hG : G.ok) (hs0 : 3000 < s.size) (hs : s.size ≤ 140737488351232) :
    Calls Tryz.prog 25 #[.pointer (some ⟨t, 0, none⟩), .string s] w (RetL w0 w B q (c + 14) (G.app d s).1 t (G.app d s).2.1 (.int .i64 (G.app d s).2.2)) := by
  have H := Lib.hid h
  rw [show G.app d s = (d, G, 2) from if_pos hs0]
  obtain ⟨⟨k1, k2⟩, ⟨k3, k4⟩, ⟨k5, k6⟩, ⟨k7, k8⟩, k9⟩ := hG
  have h1' : (3000 : Int) < s.size := by omega
  have hrow := h.bes.2
  obtain ⟨c0, c1, c2, c3, c4, c5, c6⟩ := row7 hrow
  have HS := Lib.hid hs
  clear h hs hrow hs0
  go_enter Tryz.func25, Tryz.ntmps25
  go_wp2_with fail
  refine wp_region_inv (R := Blw) (S := (fun w' => LgAt w0 w' B q c d t G ∧ Below w.heap.size w w' ∧ w'.cell? ⟨t, 3, none⟩ = some (.int .u64 G.gen) ∧ w'.cell? ⟨t, 5, none⟩ = some (.int .i64 G.recs))) 10 (Spec.val ?_ :: Spec.val ?_ :: Spec.val ?_ :: Spec.val ?_ :: Spec.val ?_ :: Spec.val ?_ :: Spec.val ?_ :: Spec.val ?_ :: Spec.val ?_ :: (longS w.heap.size (blks s.size)) :: []) (by kernel_rfl) (by kernel_rfl) rfl (fun w1 w2 h hb => ⟨h.1.step_ hb, chain h.2.1 hb, cell_step h.2.2.1 hb, cell_step h.2.2.2 hb⟩) (⟨H.out.step_ (Below.refl _ _).drew, (Below.refl _ _).drew, c3, c5⟩) ?hm9
  case' hm9 => skip
  refine inv_val (i := 0) (by kernel_rfl) rfl rfl (fun w1 hS hd K hK => ?_) ?_
  · (try dsimp only at hS); go_simp; exact hK.out _ _ (by simp only [Act.put, List.setIfInBounds_toArray, List.set_cons_zero, List.set_cons_succ, List.nil_append, List.cons_append]; rfl) (Below.refl _ _)
  simp only [Act.put, List.setIfInBounds_toArray, List.set_cons_zero, List.set_cons_succ, List.nil_append, List.cons_append]
  refine inv_val (i := 1) (by kernel_rfl) rfl rfl (fun w1 hS hd K hK => ?_) ?_
  · (try dsimp only at hS); go_simp; exact hK.out _ _ (by simp only [Act.put, List.setIfInBounds_toArray, List.set_cons_zero, List.set_cons_succ, List.nil_append, List.cons_append]; rfl) (Below.refl _ _)
  simp only [Act.put, List.setIfInBounds_toArray, List.set_cons_zero, List.set_cons_succ, List.nil_append, List.cons_append]
  refine inv_val (i := 2) (by kernel_rfl) rfl rfl (fun w1 hS hd K hK => ?_) ?_
  · (try dsimp only at hS); go_simp; exact hK.out _ _ (by simp only [Act.put, List.setIfInBounds_toArray, List.set_cons_zero, List.set_cons_succ, List.nil_append, List.cons_append]; rfl) (Below.refl _ _)
  simp only [Act.put, List.setIfInBounds_toArray, List.set_cons_zero, List.set_cons_succ, List.nil_append, List.cons_append]
  refine inv_val (i := 3) (by kernel_rfl) rfl rfl (fun w1 hS hd K hK => ?_) ?_
  · (try dsimp only at hS); go_simp; exact hK.out _ _ (by simp only [Act.put, List.setIfInBounds_toArray, List.set_cons_zero, List.set_cons_succ, List.nil_append, List.cons_append]; rfl) (Below.refl _ _)
  simp only [Act.put, List.setIfInBounds_toArray, List.set_cons_zero, List.set_cons_succ, List.nil_append, List.cons_append]
  refine inv_val (i := 4) (by kernel_rfl) rfl rfl (fun w1 hS hd K hK => ?_) ?_
  · (try dsimp only at hS); go_simp; exact hK.out _ _ (by simp only [Act.put, List.setIfInBounds_toArray, List.set_cons_zero, List.set_cons_succ, List.nil_append, List.cons_append]; rfl) (Below.refl _ _)
  simp only [Act.put, List.setIfInBounds_toArray, List.set_cons_zero, List.set_cons_succ, List.nil_append, List.cons_append]
  refine inv_val (i := 5) (by kernel_rfl) rfl rfl (fun w1 hS hd K hK => ?_) ?_
  · (try dsimp only at hS); go_simp; exact hK.out _ _ (by simp only [Act.put, List.setIfInBounds_toArray, List.set_cons_zero, List.set_cons_succ, List.nil_append, List.cons_append]; rfl) (Below.refl _ _)
  simp only [Act.put, List.setIfInBounds_toArray, List.set_cons_zero, List.set_cons_succ, List.nil_append, List.cons_append]
  refine inv_val (i := 6) (by kernel_rfl) rfl rfl (fun w1 hS hd K hK => ?_) ?_
  · (try dsimp only at hS); go_simp; exact hK.out _ _ (by simp only [Act.put, List.setIfInBounds_toArray, List.set_cons_zero, List.set_cons_succ, List.nil_append, List.cons_append]; rfl) (Below.refl _ _)
  simp only [Act.put, List.setIfInBounds_toArray, List.set_cons_zero, List.set_cons_succ, List.nil_append, List.cons_append]
  refine inv_val (i := 7) (by kernel_rfl) rfl rfl (fun w1 hS hd K hK => ?_) ?_
  · (try dsimp only at hS); go_simp; exact hK.out _ _ (by simp only [Act.put, List.setIfInBounds_toArray, List.set_cons_zero, List.set_cons_succ, List.nil_append, List.cons_append]; rfl) (Below.refl _ _)
  simp only [Act.put, List.setIfInBounds_toArray, List.set_cons_zero, List.set_cons_succ, List.nil_append, List.cons_append]
  refine inv_val (i := 8) (by kernel_rfl) rfl rfl (fun w1 hS hd K hK => ?_) ?_
  · (try dsimp only at hS); go_simp; exact hK.out _ _ (by simp only [Act.put, List.setIfInBounds_toArray, List.set_cons_zero, List.set_cons_succ, List.nil_append, List.cons_append]; rfl) (Below.refl _ _)
  simp only [Act.put, List.setIfInBounds_toArray, List.set_cons_zero, List.set_cons_succ, List.nil_append, List.cons_append]
  refine inv_rel (i := 9) (by kernel_rfl) rfl rfl (fun w1 hS hd K hK => ?_) (fun v9 => ?_)
  · (try dsimp only at hS); go_simp; refine (lay_long _ _ s _ k9 ⟨k7, by omega⟩ HS.out).mono ?_; rintro e w2 ⟨v, l, rfl, hl, ho, hb⟩; refine hK.out _ _ _ (by simp only [Act.put, List.setIfInBounds_toArray, List.set_cons_zero, List.set_cons_succ, List.nil_append, List.cons_append]; rfl) ?_ hb; exact ⟨l, hl, own_mono ho hS.2.1.size⟩
  simp only [Act.put, List.setIfInBounds_toArray, List.set_cons_zero, List.set_cons_succ, List.nil_append, List.cons_append]
  refine inv_tail1 (by kernel_rfl) rfl (fun w2 hS hd => ?_)
  obtain ⟨l, hl, ho⟩ : ∃ l : List ByteArray, l.length = blks s.size ∧ w2.ownsRow w.heap.size 9 1 v9 l.length (l.map Value.string) := hd.out 9
  obtain ⟨a9, c9, rfl⟩ := own_form ho
  have H2 := Lib.hid hS.1
  have S2 := Lib.hid (H.out.lstep hS.2.1)
  clear hS hd ho H c0 c1 c2 c3 c4 c5 c6
  go_wp2
  go_ret
  exact ⟨rfl, H2.out.mono (show c ≤ c + 14 by omega), S2.out⟩
end
theorem app_every {w0 w : World} {B q c t : Nat} {d : DV} {G : LV} (s : ByteArray) (h : LgAt w0 w B q c d t G) (hG : G.ok) (hs : s.size ≤ 140737488351232) (hc : c + 100 ≤ 1000000) (hw : 0 ≤ d.writes ∧ d.writes ≤ 100000000000) :
    Calls Tryz.prog 25 #[.pointer (some ⟨t, 0, none⟩), .string s] w (RetL w0 w B q (c + 14) (G.app d s).1 t (G.app d s).2.1 (.int .i64 (G.app d s).2.2)) := by
  by_cases h1 : 3000 < s.size
  · exact app_long s h hG h1 hs
  · exact app_any s h hG (by omega) hc hw
section
variable {w0 w w' : World} {B q c t : Nat} {d : DV} {G : LV}
set_option maxRecDepth 100000 in
set_option maxHeartbeats 8000000 in
/-- Only of records that are come to a length is asked. -/
theorem App_every (v : Value) (l : List ByteArray) (R : Int) (h : LgAt w0 w B q c d t G) (hf : G.fit R) (hR : R + l.length ≤ 900000) (hv : TB w q t v l) (hz : ∀ k, k < l.length → (appN G d l k).2.2 = 0 → (l.getD k ByteArray.empty).size ≤ 140737488351232) (hc : c + 14 * l.length + 200 ≤ 1000000) (hw : 0 ≤ d.writes ∧ d.writes ≤ 10000000000) :
    Calls Tryz.prog 10 #[.pointer (some ⟨t, 0, none⟩), v] w (RetL w0 w B q (c + 14 * l.length) (G.App d l).1 t (G.App d l).2.1 (.int .i64 (G.App d l).2.2)) := by
  have H := Lib.hid h
  have HF := Lib.hid (fun k (hk : k ≤ l.length) => appN_fit (d := d) (l := l) hf k (by omega))
  have HV := Lib.hid hv
  have HZ := Lib.hid hz
  have HC := Lib.hid hc
  have HW := Lib.hid hw
  have HLB := Lib.hid (show l.length ≤ 900000 by have := hf.2.2; have := hf.1.2.2.2.1.1; omega)
  obtain ⟨⟨a, ca, rfl, hI, hlen, -⟩, -⟩ := hv
  by_cases hb : G.bad = 0
  · have HA := Lib.hid (show G.App d l = appN G d l l.length from if_neg (by simpa using hb))
    have HBD := Lib.hid hb
    have hlI : (l.length : Int) ≤ 900000 := by have := HLB.out; omega
    clear h hf hR hz hc hw hb hI hlen
    go_enter Tryz.func10, Tryz.ntmps10
    go_wp2_with fail
    refine (may_any H.out.bes.2).mono ?_
    rintro e w1 ⟨rfl, hb1⟩
    rw [HBD.out]
    have H1 := Lib.hid (H.out.step_ hb1)
    have S1 := Lib.hid (H.out.lstep hb1)
    clear hb1
    go_wp2
    go_loopw [16] (fun x wr => ∃ k : Nat, k ≤ l.length ∧ x = .int .i64 k ∧ Hid ((appN G d l k).2.2 = 0) ∧ Hid (LgAt w0 wr B q (c + 14 * k) (appN G d l k).1 t (appN G d l k).2.1) ∧ Hid (LStep q t w wr)) (fun x _ => l.length - (intOf x).toNat)
    case atStart => exact ⟨0, Nat.zero_le _, rfl, Lib.hid rfl, H1, S1⟩
    case round =>
      obtain ⟨k, hk, rfl, HE, HK, SK⟩ := hrel
      by_cases hlt : k < l.length
      · obtain ⟨b, o, rfl, hcell⟩ : ∃ b o, a = some ⟨b, o, none⟩ ∧ wr.cell? ⟨b, o + k, none⟩ = some (.string (l.getD k ByteArray.empty)) := by
          obtain ⟨a', c', e1, _, _, e4⟩ := (HV.out.step SK.out).1
          obtain ⟨b, o, e5, _, e7⟩ := e4 (fun h => by rw [h] at hlt; exact absurd hlt (Nat.not_lt_zero _))
          injection e1 with e1 _ _
          exact ⟨b, o, by rw [e1, e5], e7 k hlt⟩
        have hsz : (l.getD k ByteArray.empty).size ≤ 140737488351232 := HZ.out k hlt HE.out
        have HSZ := Lib.hid hsz
        have hk1 : appN G d l (k + 1) = (appN G d l k).2.1.app (appN G d l k).1 (l.getD k ByteArray.empty) := by
          show (if (appN G d l k).2.2 ≠ 0 then _ else _) = _
          rw [if_neg (by simpa using HE.out)]
        have HFK := Lib.hid (HF.out k hk)
        obtain ⟨Dk, hDk⟩ : ∃ D, D = (appN G d l k).1 := ⟨_, rfl⟩
        obtain ⟨Gk, hGk⟩ : ∃ D, D = (appN G d l k).2.1 := ⟨_, rfl⟩
        obtain ⟨sk, hsk⟩ : ∃ x, x = l.getD k ByteArray.empty := ⟨_, rfl⟩
        rw [← hDk, ← hGk] at HK HFK hk1
        rw [← hsk] at hcell HSZ hk1
        obtain ⟨d', G', e', hr⟩ : ∃ d' G' e', Gk.app Dk sk = (d', G', e') := ⟨_, _, _, rfl⟩
        rw [hr] at hk1
        have HK1 := Lib.hid hk1
        have HR := Lib.hid hr
        clear hsz hk1 hr hDk hGk hsk
        go_wp2_with fail
        refine (app_every sk HK.out HFK.out.1.1 HSZ.out (by have := HC.out; omega) (by have := HW.out; have := HFK.out; have := HLB.out; omega)).mono ?_
        rintro e w2 ⟨rfl, h2, s2⟩
        rw [HR.out] at h2 ⊢
        have H2 := Lib.hid h2
        have S2 := Lib.hid (SK.out.trans s2)
        dsimp only at H2
        clear h2 s2
        by_cases he : e' = 0
        · subst he
          go_wp2
          go_roundw
          case rel => exact ⟨k + 1, hlt, by go_num, Lib.hid (by rw [HK1.out]), Lib.hid (by rw [HK1.out]; exact H2.out.mono (show c + 14 * k + 14 ≤ c + 14 * (k + 1) by omega)), S2⟩
          case measure => simp [intOf]; omega
        · have he' : (e' != 0) = true := by simpa using he
          have HRES := Lib.hid (show G.App d l = (d', G', e') by
            have h9 := appN_err (G := G) (l := l) (d := d) (k := k + 1) (by rw [HK1.out]; exact he) (l.length - (k + 1))
            rw [show k + 1 + (l.length - (k + 1)) = l.length by omega] at h9
            rw [HA.out, h9, HK1.out])
          clear he
          go_wp2
          go_ret
          exact ⟨by rw [HRES.out]; rfl, by rw [HRES.out]; exact H2.out.mono (show c + 14 * k + 14 ≤ c + 14 * l.length by omega), S2.out⟩
      · have hkn : k = l.length := by omega
        have H3 := Lib.hid (show LgAt w0 wr B q (c + 14 * l.length) (appN G d l l.length).1 t (appN G d l l.length).2.1 by have := HK.out; rw [hkn] at this; exact this)
        have HZ2 := Lib.hid (show (appN G d l l.length).2.2 = 0 by have := HE.out; rw [hkn] at this; exact this)
        clear hkn HK HE
        go_wp2
        go_ret
        exact ⟨by rw [HA.out, HZ2.out]; rfl, by rw [HA.out]; exact H3.out, SK.out⟩
  · have HA := Lib.hid (show G.App d l = (d, G, G.bad) from if_pos hb)
    have hb' : (G.bad != 0) = true := by simpa using hb
    clear h hf hR hz hc hw hb hI hlen
    go_enter Tryz.func10, Tryz.ntmps10
    go_wp2_with fail
    refine (may_any H.out.bes.2).mono ?_
    rintro e w1 ⟨rfl, hb1⟩
    have H1 := Lib.hid (H.out.step_ hb1)
    have S1 := Lib.hid (H.out.lstep hb1)
    clear hb1
    go_wp2
    go_ret
    exact ⟨by rw [HA.out]; rfl, by rw [HA.out]; exact H1.out.mono (show c ≤ c + 14 * l.length by omega), S1.out⟩
end
end Go.Proofs.YtjcggkfinhkcoaaGreat
