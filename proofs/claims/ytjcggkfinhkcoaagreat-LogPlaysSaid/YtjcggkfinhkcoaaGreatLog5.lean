/-
  The contract of a log's Append.
-/
import Derived.Test.YtjcggkfinhkcoaaGreatLog4
namespace Go.Proofs.YtjcggkfinhkcoaaGreat
open Go.RowKit
set_option linter.unusedVariables false
set_option linter.unusedSimpArgs false

/-- Texts beside a log and its disk. -/
def TB (w : World) (q t : Nat) (v : Value) (l : List ByteArray) : Prop := TextsAt w v l ∧ ∀ b o s n c, v = .slice (some ⟨b, o, s⟩) n c → l ≠ [] → ¬ Own w q b ∧ b ≠ t
theorem TB.step {w w' : World} {q t : Nat} {v : Value} {l : List ByteArray} (h : TB w q t v l) (hs : LStep q t w w') : TB w' q t v l := by
  obtain ⟨⟨a, c, h1, h2, h3, h4⟩, h5⟩ := h
  refine ⟨⟨a, c, h1, h2, h3, fun hn => ?_⟩, fun b o s n c e hn => ?_⟩
  · obtain ⟨b, o, e1, e2, e3⟩ := h4 hn
    obtain ⟨q1, q2⟩ := h5 b o none _ _ (by rw [h1, e1]) hn
    exact ⟨b, o, e1, Nat.lt_of_lt_of_le e2 hs.size, fun j hj => (World.cell?_of_block (hs.block b e2 q1 q2)).trans (e3 j hj)⟩
  · obtain ⟨q1, q2⟩ := h5 b o s n c e hn
    refine ⟨fun ho => (hs.own _ ho).elim q1 (fun hl => ?_), q2⟩
    obtain ⟨b', o', e1, e2, _⟩ := h4 hn
    rw [h1, e1] at e
    injection e with e _ _; injection e with e; injection e with e
    omega
/-- Texts that lay there ahead of the disk. -/
theorem tb_old {w0 w : World} {B q c t : Nat} {d : DV} {G : LV} {v : Value} {l : List ByteArray} (h : LgAt w0 w B q c d t G) (hv : TextsAt w0 v l) : TB w q t v l := by
  refine ⟨?_, fun b o s n c e hn => ?_⟩
  · obtain ⟨a, c, h1, h2, h3, h4⟩ := hv
    refine ⟨a, c, h1, h2, h3, fun hn => ?_⟩
    obtain ⟨b, o, e1, e2, e3⟩ := h4 hn
    exact ⟨b, o, e1, Nat.lt_of_lt_of_le e2 h.bel.size, fun j hj => (h.bel.cell (p := ⟨b, o + j, none⟩) e2).trans (e3 j hj)⟩
  · obtain ⟨a, c, h1, h2, h3, h4⟩ := hv
    obtain ⟨b', o', e1, e2, _⟩ := h4 hn
    rw [h1, e1] at e
    injection e with e _ _; injection e with e; injection e with e
    have hge := h.ge
    obtain ⟨kv, wv, mb, lb, hd⟩ := h.disk
    exact ⟨fun ho => by have := hd.ge_own b ho; omega, by omega⟩
/-- Texts in a new block. -/
theorem tb_new {w0 w : World} {B q c t cap : Nat} {d : DV} {G : LV} {l : List ByteArray} {cs : Array Value} {T : TypeId} (h : LgAt w0 w B q c d t G) (hcs : cs = (l.map Value.string).toArray) (hI : ∀ s ∈ l, s.size ≤ 9223372036854775807) (hlen : l.length ≤ cap ∧ cap ≤ 9223372036854775807) :
    TB (w.alloc (.cells cs T)) q t (.slice (some ⟨w.heap.size, 0, none⟩) l.length cap) l := by
  refine ⟨texts_new rfl hcs hI hlen, fun b o s n c e hn => ?_⟩
  injection e with e _ _; injection e with e; injection e with e
  subst e
  exact ⟨own_old h.disk (bel_new _ _) (Nat.le_refl _), by have := heap_lt h.bes.2; omega⟩
/-- A log that may be: its numbers are small, and it has not more blocks than there are. -/
def LV.fit (G : LV) (R : Int) : Prop := G.ok ∧ G.used ≤ G.n ∧ G.recs ≤ R
theorem app_fit {G : LV} {R : Int} (d : DV) (s : ByteArray) (h : G.fit R) (hR : R ≤ 999999) : (G.app d s).2.1.fit (R + 1) ∧ (G.app d s).1.writes ≤ d.writes + 14 ∧ d.writes ≤ (G.app d s).1.writes ∧ (G.app d s).2.1.gen = G.gen ∧ (G.app d s).2.1.frm = G.frm ∧ (G.app d s).2.1.n = G.n := by
  obtain ⟨⟨⟨k1, k2⟩, ⟨k3, k4⟩, ⟨k5, k6⟩, ⟨k7, k8⟩, k9⟩, k10, k11⟩ := h
  unfold LV.app
  split
  · exact ⟨⟨⟨⟨k1, k2⟩, ⟨k3, k4⟩, ⟨k5, k6⟩, ⟨k7, k8⟩, k9⟩, k10, by dsimp only; omega⟩, by dsimp only; omega, Int.le_refl _, rfl, rfl, rfl⟩
  · rename_i hs
    split
    · exact ⟨⟨⟨⟨k1, k2⟩, ⟨k3, k4⟩, ⟨k5, k6⟩, ⟨k7, k8⟩, k9⟩, k10, by dsimp only; omega⟩, by dsimp only; omega, Int.le_refl _, rfl, rfl, rfl⟩
    · rename_i hl
      have hw := apN_writes (G := G) (L := layL G.gen G.recs s) (d := d) (blks s.size)
      have hb : blks s.size ≤ 14 := by unfold blks; split <;> omega
      have hu : ∀ k, (apN G (layL G.gen G.recs s) d k).2.1 ≤ k := by
        intro k
        induction k with
        | zero => exact Nat.le_refl _
        | succ k ih =>
          unfold apN
          dsimp only
          split
          · omega
          · dsimp only; split <;> omega
      have hu2 := hu (blks s.size)
      unfold LV.left at hl
      dsimp only
      split
      · refine ⟨⟨⟨⟨k1, k2⟩, ⟨k3, k4⟩, ⟨?_, ?_⟩, ⟨k7, k8⟩, k9⟩, ?_, ?_⟩, by dsimp only; omega, hw.1, rfl, rfl, rfl⟩ <;> (simp only [LV.at]; omega)
      · refine ⟨⟨⟨⟨k1, k2⟩, ⟨k3, k4⟩, ⟨?_, ?_⟩, ⟨?_, ?_⟩, k9⟩, ?_, ?_⟩, by dsimp only; omega, hw.1, rfl, rfl, rfl⟩ <;> (simp only [LV.at]; omega)
/-- A log and its disk behind k of the records. -/
def appN (G : LV) (d : DV) (l : List ByteArray) : Nat → DV × LV × Int
  | 0 => (d, G, 0)
  | k + 1 => let r := appN G d l k; if r.2.2 ≠ 0 then r else r.2.1.app r.1 (l.getD k ByteArray.empty)
def LV.App (G : LV) (d : DV) (l : List ByteArray) : DV × LV × Int := if G.bad ≠ 0 then (d, G, G.bad) else appN G d l l.length
theorem appN_err {G : LV} {l : List ByteArray} {d : DV} {k : Nat} (h : (appN G d l k).2.2 ≠ 0) : ∀ j, appN G d l (k + j) = appN G d l k
  | 0 => rfl
  | j + 1 => by
    have e := appN_err h j
    show (if (appN G d l (k + j)).2.2 ≠ 0 then appN G d l (k + j) else _) = _
    rw [e, if_pos h]
theorem appN_fit {G : LV} {R : Int} {d : DV} {l : List ByteArray} (h : G.fit R) : ∀ k : Nat, R + k ≤ 900000 → (appN G d l k).2.1.fit (R + k) ∧ (appN G d l k).1.writes ≤ d.writes + 14 * k ∧ d.writes ≤ (appN G d l k).1.writes ∧ (appN G d l k).2.1.gen = G.gen ∧ (appN G d l k).2.1.frm = G.frm ∧ (appN G d l k).2.1.n = G.n
  | 0, _ => ⟨by show G.fit (R + 0); rw [Int.add_zero]; exact h, by show d.writes ≤ d.writes + 14 * 0; omega, Int.le_refl _, rfl, rfl, rfl⟩
  | k + 1, hk => by
    obtain ⟨q1, q2, q3, q4, q5, q6⟩ := appN_fit (d := d) (l := l) h k (by omega)
    unfold appN
    dsimp only
    split
    · exact ⟨⟨q1.1, q1.2.1, by have := q1.2.2; omega⟩, by omega, q3, q4, q5, q6⟩
    · obtain ⟨p1, p2, p3, p4, p5, p6⟩ := app_fit (appN G d l k).1 (l.getD k ByteArray.empty) q1 (by omega)
      exact ⟨⟨p1.1, p1.2.1, by have := p1.2.2; omega⟩, by omega, by omega, p4.trans q4, p5.trans q5, p6.trans q6⟩

section
variable {w0 w w' : World} {B q c t : Nat} {d : DV} {G : LV}
set_option maxRecDepth 100000 in
set_option maxHeartbeats 8000000 in
theorem App_any (v : Value) (l : List ByteArray) (R : Int) (h : LgAt w0 w B q c d t G) (hf : G.fit R) (hR : R + l.length ≤ 900000) (hv : TB w q t v l) (hz : ∀ s ∈ l, s.size ≤ 100000) (hc : c + 14 * l.length + 200 ≤ 1000000) (hw : 0 ≤ d.writes ∧ d.writes ≤ 10000000000) :
    Calls Tryz.prog 10 #[.pointer (some ⟨t, 0, none⟩), v] w (RetL w0 w B q (c + 14 * l.length) (G.App d l).1 t (G.App d l).2.1 (.int .i64 (G.App d l).2.2)) := by
  have H := Lib.hid h
  have HF := Lib.hid (fun k (hk : k ≤ l.length) => appN_fit (d := d) (l := l) hf k (by omega))
  have HV := Lib.hid hv
  have HZ := Lib.hid hz
  have HC := Lib.hid hc
  have HW := Lib.hid hw
  have HLB := Lib.hid (show l.length ≤ 900000 by have := hf.2.2; have := hf.1.2.2.2.1.1; omega)
  obtain ⟨⟨a, ca, rfl, hI, hlen, -⟩, -⟩ := hv
  by_cases hb : G.bad = 0
  · have HA := Lib.hid (show G.App d l = appN G d l l.length from if_neg (by simpa using hb))
    have HBD := Lib.hid hb
    have hlI : (l.length : Int) ≤ 900000 := by have := HLB.out; omega
    clear h hf hR hz hc hw hb hI hlen
    go_enter Tryz.func10, Tryz.ntmps10
    go_wp2_with fail
    refine (may_any H.out.bes.2).mono ?_
    rintro e w1 ⟨rfl, hb1⟩
    rw [HBD.out]
    have H1 := Lib.hid (H.out.step_ hb1)
    have S1 := Lib.hid (H.out.lstep hb1)
    clear hb1
    go_wp2
    go_loopw [16] (fun x wr => ∃ k : Nat, k ≤ l.length ∧ x = .int .i64 k ∧ Hid ((appN G d l k).2.2 = 0) ∧ Hid (LgAt w0 wr B q (c + 14 * k) (appN G d l k).1 t (appN G d l k).2.1) ∧ Hid (LStep q t w wr)) (fun x _ => l.length - (intOf x).toNat)
    case atStart => exact ⟨0, Nat.zero_le _, rfl, Lib.hid rfl, H1, S1⟩
    case round =>
      obtain ⟨k, hk, rfl, HE, HK, SK⟩ := hrel
      by_cases hlt : k < l.length
      · obtain ⟨b, o, rfl, hcell⟩ : ∃ b o, a = some ⟨b, o, none⟩ ∧ wr.cell? ⟨b, o + k, none⟩ = some (.string (l.getD k ByteArray.empty)) := by
          obtain ⟨a', c', e1, _, _, e4⟩ := (HV.out.step SK.out).1
          obtain ⟨b, o, e5, _, e7⟩ := e4 (fun h => by rw [h] at hlt; exact absurd hlt (Nat.not_lt_zero _))
          injection e1 with e1 _ _
          exact ⟨b, o, by rw [e1, e5], e7 k hlt⟩
        have hsz : (l.getD k ByteArray.empty).size ≤ 100000 := HZ.out _ (by rw [List.getD_eq_getElem?_getD, List.getElem?_eq_getElem hlt]; exact List.getElem_mem hlt)
        have HSZ := Lib.hid hsz
        have hk1 : appN G d l (k + 1) = (appN G d l k).2.1.app (appN G d l k).1 (l.getD k ByteArray.empty) := by
          show (if (appN G d l k).2.2 ≠ 0 then _ else _) = _
          rw [if_neg (by simpa using HE.out)]
        have HFK := Lib.hid (HF.out k hk)
        obtain ⟨Dk, hDk⟩ : ∃ D, D = (appN G d l k).1 := ⟨_, rfl⟩
        obtain ⟨Gk, hGk⟩ : ∃ D, D = (appN G d l k).2.1 := ⟨_, rfl⟩
        obtain ⟨sk, hsk⟩ : ∃ x, x = l.getD k ByteArray.empty := ⟨_, rfl⟩
        rw [← hDk, ← hGk] at HK HFK hk1
        rw [← hsk] at hcell HSZ hk1
        obtain ⟨d', G', e', hr⟩ : ∃ d' G' e', Gk.app Dk sk = (d', G', e') := ⟨_, _, _, rfl⟩
        rw [hr] at hk1
        have HK1 := Lib.hid hk1
        have HR := Lib.hid hr
        clear hsz hk1 hr hDk hGk hsk
        go_wp2_with fail
        refine (app_any sk HK.out HFK.out.1.1 HSZ.out (by have := HC.out; omega) (by have := HW.out; have := HFK.out; have := HLB.out; omega)).mono ?_
        rintro e w2 ⟨rfl, h2, s2⟩
        rw [HR.out] at h2 ⊢
        have H2 := Lib.hid h2
        have S2 := Lib.hid (SK.out.trans s2)
        dsimp only at H2
        clear h2 s2
        by_cases he : e' = 0
        · subst he
          go_wp2
          go_roundw
          case rel => exact ⟨k + 1, hlt, by go_num, Lib.hid (by rw [HK1.out]), Lib.hid (by rw [HK1.out]; exact H2.out.mono (show c + 14 * k + 14 ≤ c + 14 * (k + 1) by omega)), S2⟩
          case measure => simp [intOf]; omega
        · have he' : (e' != 0) = true := by simpa using he
          have HRES := Lib.hid (show G.App d l = (d', G', e') by
            have h9 := appN_err (G := G) (l := l) (d := d) (k := k + 1) (by rw [HK1.out]; exact he) (l.length - (k + 1))
            rw [show k + 1 + (l.length - (k + 1)) = l.length by omega] at h9
            rw [HA.out, h9, HK1.out])
          clear he
          go_wp2
          go_ret
          exact ⟨by rw [HRES.out]; rfl, by rw [HRES.out]; exact H2.out.mono (show c + 14 * k + 14 ≤ c + 14 * l.length by omega), S2.out⟩
      · have hkn : k = l.length := by omega
        have H3 := Lib.hid (show LgAt w0 wr B q (c + 14 * l.length) (appN G d l l.length).1 t (appN G d l l.length).2.1 by have := HK.out; rw [hkn] at this; exact this)
        have HZ2 := Lib.hid (show (appN G d l l.length).2.2 = 0 by have := HE.out; rw [hkn] at this; exact this)
        clear hkn HK HE
        go_wp2
        go_ret
        exact ⟨by rw [HA.out, HZ2.out]; rfl, by rw [HA.out]; exact H3.out, SK.out⟩
  · have HA := Lib.hid (show G.App d l = (d, G, G.bad) from if_pos hb)
    have hb' : (G.bad != 0) = true := by simpa using hb
    clear h hf hR hz hc hw hb hI hlen
    go_enter Tryz.func10, Tryz.ntmps10
    go_wp2_with fail
    refine (may_any H.out.bes.2).mono ?_
    rintro e w1 ⟨rfl, hb1⟩
    have H1 := Lib.hid (H.out.step_ hb1)
    have S1 := Lib.hid (H.out.lstep hb1)
    clear hb1
    go_wp2
    go_ret
    exact ⟨by rw [HA.out]; rfl, by rw [HA.out]; exact H1.out.mono (show c ≤ c + 14 * l.length by omega), S1.out⟩
end
end Go.Proofs.YtjcggkfinhkcoaaGreat
