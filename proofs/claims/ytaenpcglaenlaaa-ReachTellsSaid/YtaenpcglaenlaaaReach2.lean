/-
  The contracts of Reach.Start, Cover, All, Later, and Takes.
-/
import Derived.Test.YtaenpcglaenlaaaReach
namespace Go.Proofs.Ytaenpcglaenlaaa
open Go.RowKit
set_option linter.unusedVariables false
set_option linter.unusedSimpArgs false

def RV.start (r : RV) (k t : Int) : Int × Bool := if r.is k = true ∧ 0 ≤ t then (gfloor t (r.l.getD k.toNat TierV.zero).every, decide (r.from k ≤ gfloor t (r.l.getD k.toNat TierV.zero).every)) else (0, false)
def RV.wf (r : RV) : Prop := I64 r.now ∧ r.l.length ≤ 1000000 ∧ r.fl.length ≤ 1000000

theorem tier_ok {w : World} {v : Value} {l : List TierV} (h : TiersAt w v l) (k : Nat) (hk : k < l.length) : (l.getD k TierV.zero).ok := by
  refine h.ok _ ?_
  rw [List.getD_eq_getElem?_getD, List.getElem?_eq_getElem hk]; exact List.getElem_mem _
theorem int_ok {w : World} {v : Value} {l : List Int} (h : IntsAt w v l) (k : Nat) (hk : k < l.length) : I64 (l.getD k 0) := by
  refine h.ok _ ?_
  rw [List.getD_eq_getElem?_getD, List.getElem?_eq_getElem hk]; exact List.getElem_mem _
theorem RV.from_I64 {w : World} {v : Value} {r : RV} (hv : ReachAt w v r) (hn : I64 r.now) (k : Int) : I64 (r.from k) := by
  obtain ⟨tv, fv, _, ht, hf⟩ := hv
  unfold RV.from
  split
  · rename_i h
    have h2 : 0 ≤ k ∧ k < r.l.length := by unfold RV.is at h; simpa using h
    have hlow : I64 (r.low k.toNat) := gback_I64 _ _ _ hn (tier_ok ht _ (by omega)).2.2.1 (tier_ok ht _ (by omega)).2.1
    unfold RV.fromN
    split
    · have := int_ok hf k.toNat (by assumption)
      unfold I64 at *; omega
    · exact hlow
  · unfold I64; omega

set_option maxRecDepth 100000 in
set_option maxHeartbeats 1000000 in
theorem start_any (v : Value) (r : RV) (k t : Int) (w : World) (hv : ReachAt w v r) (hn : I64 r.now) (hk : I64 k) (ht : I64 t) :
    Calls Try.prog 13 #[v, .int .i64 k, .int .i64 t] w (RetB w (.tuple #[.int .i64 (r.start k t).1, .bool (r.start k t).2])) := by
  have hv0 := hv
  obtain ⟨tv, fv, rfl, htv, hf⟩ := hv
  have htv0 := htv
  obtain ⟨a, c, rfl, hok, hlen, hc⟩ := htv
  obtain ⟨fa, fc, rfl, hfk, hflen, hfc⟩ := hf
  have HV := Lib.hid hv0
  have HC := Lib.hid hc
  have HN := Lib.hid hn
  have HK := Lib.hid hk
  have HT := Lib.hid ht
  have HTV := Lib.hid htv0
  clear hc hfc hok hfk hv0 htv0
  unfold I64 at hn hk ht
  by_cases h1 : r.is k = true
  · have h2 : 0 ≤ k ∧ k < r.l.length := by unfold RV.is at h1; simpa using h1
    have H1 := Lib.hid h1
    clear h1
    by_cases h3 : 0 ≤ t
    · obtain ⟨K, rfl⟩ : ∃ K : Nat, k = K := ⟨k.toNat, by omega⟩
      obtain ⟨b, o, rfl, hb, hcl⟩ := HC.out (by intro h; rw [h] at h2; simp at h2; omega)
      obtain ⟨_, y1, _, _⟩ := hcl K (by omega)
      have hok := tier_ok HTV.out K (by omega)
      obtain ⟨ev, hev⟩ : ∃ x, x = (r.l.getD K TierV.zero).every := ⟨_, rfl⟩
      have e1 : r.start K t = (gfloor t ev, decide (r.from K ≤ gfloor t ev)) := by unfold RV.start; rw [if_pos ⟨H1.out, h3⟩, hev]; rfl
      have hev2 : I64 ev := by rw [hev]; exact hok.2.1
      rw [← hev] at y1
      obtain ⟨G, hG⟩ : ∃ G, G = gfloor t ev := ⟨_, rfl⟩
      obtain ⟨F, hF⟩ : ∃ F, F = r.from K := ⟨_, rfl⟩
      rw [← hG, ← hF] at e1
      have hGI : I64 G := by rw [hG]; exact gfloor_I64 _ _ HT.out hev2.2
      have hFI : I64 F := by rw [hF]; exact RV.from_I64 HV.out HN.out K
      have HE1 := Lib.hid e1
      have HEV := Lib.hid hev2
      have HG := Lib.hid hG
      have HF := Lib.hid hF
      unfold I64 at hGI hFI
      clear hev hok hcl e1 hev2 hG hF
      go_enter Try.func13, Try.ntmps13
      go_wp2_with fail
      refine (is_any _ r K _ (HV.out.below (bel_new _ _)) HK.out).mono ?_
      rintro e w1 ⟨rfl, hb1⟩
      rw [H1.out]
      obtain ⟨h1, hbw⟩ := one_new hb1
      obtain ⟨c0, c1, c2, c3⟩ := row4 h1
      have y1' := (hbw.cell (p := ⟨b, _, none⟩) hb).trans y1
      have HB1 := Lib.hid hbw
      clear hb1 hbw h1
      go_wp2_with fail
      refine (floor_any _ _ _ HT.out HEV.out).mono ?_
      rintro e w2 ⟨rfl, rfl⟩
      rw [← HG.out]
      go_wp2_with fail
      refine (from_any _ r K _ (HV.out.below HB1.out) HN.out HK.out).mono ?_
      rintro e w2 ⟨rfl, hb2⟩
      rw [← HF.out]
      have HB2 := Lib.hid (chain HB1.out hb2)
      clear hb2
      go_wp2
      go_ret2
      rw [HE1.out]
      exact ⟨rfl, HB2.out⟩
    · have E := Lib.hid (show r.start k t = (0, false) by unfold RV.start; rw [if_neg (by omega)])
      go_enter Try.func13, Try.ntmps13
      go_wp2_with fail
      refine (is_any _ r k _ (HV.out.below (bel_new _ _)) HK.out).mono ?_
      rintro e w1 ⟨rfl, hb1⟩
      rw [H1.out]
      have HB1 := Lib.hid (chain (bel_new _ _) hb1)
      clear hb1
      go_wp2
      go_ret2
      rw [E.out]
      exact ⟨rfl, HB1.out⟩
  · have H1 := Lib.hid (show r.is k = false by simpa using h1)
    have E := Lib.hid (show r.start k t = (0, false) by unfold RV.start; rw [if_neg (by intro h; exact h1 h.1)])
    clear h1
    go_enter Try.func13, Try.ntmps13
    go_wp2_with fail
    refine (is_any _ r k _ (HV.out.below (bel_new _ _)) HK.out).mono ?_
    rintro e w1 ⟨rfl, hb1⟩
    rw [H1.out]
    have HB1 := Lib.hid (chain (bel_new _ _) hb1)
    clear hb1
    go_wp2
    go_ret2
    rw [E.out]
    exact ⟨rfl, HB1.out⟩

/-- The first tier from k on that reaches back to a time. -/
def coverFrom (r : RV) (t : Int) : Nat → Nat → Int
  | 0, _ => (r.l.length : Int) - 1
  | n + 1, k => if r.fromN k ≤ t then k else coverFrom r t n (k + 1)
def RV.cover (r : RV) (t : Int) : Int := coverFrom r t r.l.length 0

set_option maxRecDepth 100000 in
set_option maxHeartbeats 1000000 in
theorem cover_any (v : Value) (r : RV) (t : Int) (w : World) (hv : ReachAt w v r) (hn : I64 r.now) (ht : I64 t) (hl : r.l.length ≤ 1000000) :
    Calls Try.prog 15 #[v, .int .i64 t] w (RetB w (.int .i64 (r.cover t))) := by
  have hv0 := hv
  obtain ⟨tv, fv, rfl, htv, hf⟩ := hv
  obtain ⟨a, c, rfl, hok, hlen, hc⟩ := htv
  obtain ⟨fa, fc, rfl, hfk, hflen, hfc⟩ := hf
  have HV := Lib.hid hv0
  have HN := Lib.hid hn
  clear hc hfc hok hfk hv0
  unfold I64 at hn ht
  obtain ⟨n, hnl⟩ : ∃ n, r.l.length = n := ⟨_, rfl⟩
  have HNL := Lib.hid hnl
  rw [hnl] at hl hlen ⊢
  clear hnl
  go_enter Try.func15, Try.ntmps15
  go_wp2
  go_loopw [10] (fun i wr => ∃ (k : Nat), k ≤ n ∧ i = .int .i64 k ∧ Hid (r.cover t = coverFrom r t (n - k) k) ∧ Hid (wr.heap[w.heap.size]? = some (.cells #[.int .i64 r.now, .string r.name, .slice a n c, .slice fa r.fl.length fc] 34)) ∧ Hid (Below w.heap.size w wr)) (fun i _ => n - (intOf i).toNat)
  case atStart => exact ⟨0, Nat.zero_le _, rfl, Lib.hid (by unfold RV.cover; rw [HNL.out]; rfl), Lib.hid (heap_new_at rfl), Lib.hid (bel_new _ _)⟩
  case round =>
    obtain ⟨k, hk, rfl, HR, HX, HB⟩ := hrel
    obtain ⟨c0, c1, c2, c3⟩ := row4 HX.out
    by_cases hlt : k < n
    · have hrv := HV.out.below HB.out
      rw [HNL.out] at hrv
      have HRV := Lib.hid hrv
      have hfi := RV.from_I64 HV.out HN.out k
      obtain ⟨F, hF⟩ : ∃ F, F = r.from k := ⟨_, rfl⟩
      rw [← hF] at hfi
      have HF := Lib.hid hF
      have HFN := Lib.hid (r.from_nat k (by rw [HNL.out]; exact hlt))
      have HR2 := Lib.hid (show coverFrom r t (n - k) k = if r.fromN k ≤ t then (k : Int) else coverFrom r t (n - (k + 1)) (k + 1) by rw [show n - k = (n - (k + 1)) + 1 by omega]; rfl)
      unfold I64 at hfi
      clear hF hrv
      go_wp2_with fail
      refine (from_any _ r k _ HRV.out HN.out (by unfold I64; omega)).mono ?_
      rintro e w1 ⟨rfl, hb1⟩
      rw [← HF.out]
      have HB1 := Lib.hid (chain HB.out hb1)
      have HX1 := Lib.hid (heap_step HX.out hb1)
      clear hb1 c0 c1 c2 c3
      by_cases hft : F ≤ t
      · go_wp2
        go_ret
        exact ⟨ret_int (by rw [HR.out, HR2.out, ← HFN.out, ← HF.out, if_pos hft]), HB1.out⟩
      · go_wp2
        go_roundw
        case rel => exact ⟨k + 1, by omega, by go_num, Lib.hid (by rw [HR.out, HR2.out, ← HFN.out, ← HF.out, if_neg (show ¬ F ≤ t by omega)]), HX1, HB1⟩
        case measure => simp [intOf]; omega
    · have hkn : k = n := by omega
      subst hkn
      have HR2 := Lib.hid (show coverFrom r t (k - k) k = (k : Int) - 1 by rw [Nat.sub_self]; show (r.l.length : Int) - 1 = _; rw [HNL.out])
      go_wp2
      go_ret
      exact ⟨ret_int (by rw [HR.out, HR2.out]), HB.out⟩

def RV.allN (r : RV) (k : Nat) : List Int := (List.range k).map r.fromN
theorem RV.allN_len (r : RV) (k : Nat) : (r.allN k).length = k := by simp [RV.allN]
theorem RV.allN_succ (r : RV) (k : Nat) : r.allN (k + 1) = r.allN k ++ [r.fromN k] := by simp [RV.allN, List.range_succ]
def RV.all (r : RV) : List Int := r.allN r.l.length

set_option maxRecDepth 100000 in
set_option maxHeartbeats 1000000 in
theorem all_any (v : Value) (r : RV) (w : World) (hv : ReachAt w v r) (hn : I64 r.now) (hl : r.l.length ≤ 1000000) :
    Calls Try.prog 18 #[v] w (RetP w (fun u w' => w'.ownsRow (w.heap.size + 1) 3 1 u r.l.length (r.all.map (Value.int .i64)) ∧ IntsAt w' u r.all)) := by
  obtain ⟨i0, hi, hz0, hz1, hz2⟩ := info_parts info_int
  have hv0 := hv
  obtain ⟨tv, fv, rfl, htv, hf⟩ := hv
  obtain ⟨a, c, rfl, hok, hlen, hc⟩ := htv
  obtain ⟨fa, fc, rfl, hfk, hflen, hfc⟩ := hf
  have HV := Lib.hid hv0
  have HN := Lib.hid hn
  clear hc hfc hok hfk hv0 hflen
  unfold I64 at hn
  obtain ⟨n, hnl⟩ : ∃ n, r.l.length = n := ⟨_, rfl⟩
  have HNL := Lib.hid hnl
  rw [hnl] at hl hlen ⊢
  clear hnl
  go_enter Try.func18, Try.ntmps18
  go_wp2
  go_loopw [3, 9] (fun o i wr => ∃ (k : Nat) (ao : Option Addr) (ca : Nat), k ≤ n ∧ i = .int .i64 k ∧ o = .slice ao k ca ∧ Hid (wr.ownsRow (w.heap.size + 1) 3 1 (.slice ao k ca) k ((r.allN k).map (Value.int .i64))) ∧ Hid (wr.heap[w.heap.size]? = some (.cells #[.int .i64 r.now, .string r.name, .slice a n c, .slice fa r.fl.length fc] 34)) ∧ Hid (Below w.heap.size w wr) ∧ w.heap.size + 1 ≤ wr.heap.size) (fun _ i _ => n - (intOf i).toNat)
  case atStart => exact ⟨0, none, 0, Nat.zero_le _, rfl, rfl, Lib.hid (World.ownsRow_nil _ _ _ _), Lib.hid (heap_new_at rfl), Lib.hid (bel_new _ _), by simp⟩
  case round =>
    obtain ⟨k, ao, ca, hk, rfl, rfl, HO, HX, HB, hsz⟩ := hrel
    obtain ⟨c0, c1, c2, c3⟩ := row4 HX.out
    by_cases hlt : k < n
    · have hrv := HV.out.below HB.out
      rw [HNL.out] at hrv
      have HRV := Lib.hid hrv
      obtain ⟨F, hF⟩ : ∃ F, F = r.from k := ⟨_, rfl⟩
      have HF := Lib.hid hF
      have HFN := Lib.hid (r.from_nat k (by rw [HNL.out]; exact hlt))
      clear hF hrv
      go_wp2_with fail
      refine (from_any _ r k _ HRV.out HN.out (by unfold I64; omega)).mono ?_
      rintro e w1 ⟨rfl, hb1⟩
      rw [← HF.out]
      have HO1 := Lib.hid (own_step HO.out hb1)
      have HB1 := Lib.hid (chain HB.out hb1)
      have HX1 := Lib.hid (heap_step HX.out hb1)
      have hsz1 : w.heap.size + 1 ≤ w1.heap.size := Nat.le_trans hsz hb1.size
      clear hb1 c0 c1 c2 c3 hsz
      go_wp2_with (at_builtin; refine wpList_append_own _ rfl _ _ 25 rfl (w.heap.size + 1) 3 i0 (.int .i64 0) 1 8 Try.underlying25 hi hz0 hz1 hz2 rfl (by decide) _ _ _ rfl (HO1.out.alloc _) ⟨w1.heap.size, 0, none⟩ 1 1 [.int .i64 F] rfl rfl (one_cell _ _ _) ?c2 ?c3 ?c4 ?c5 ?_)
      case c2 => intro u hu; simp at hu; subst hu; rfl
      case c3 => unfold maxLen; omega
      case c4 => omega
      case c5 => simp; omega
      intro v' w2 hown' hgrow _
      have hb2 : Below w.heap.size w w2 := (bel_alloc (o := .cells #[.int .i64 F] 3) HB1.out (by omega)).grown hgrow (by simp; omega) (fun j hj => by have := (HO1.out.lt j hj).1; omega)
      have hx2 : w2.heap[w.heap.size]? = some (.cells #[.int .i64 r.now, .string r.name, .slice a n c, .slice fa r.fl.length fc] 34) := by
        rw [hgrow.block _ (by simp; omega) (fun h => by have := (HO1.out.lt _ h.symm).1; omega), Below.heap_alloc _ _ _ (by omega)]; exact HX1.out
      have hsz2 : w.heap.size + 1 ≤ w2.heap.size := by have := hgrow.size; simp at this; omega
      have ho2 : w2.ownsRow (w.heap.size + 1) 3 1 v' (k + 1) ((r.allN (k + 1)).map (Value.int .i64)) := by
        rw [RV.allN_succ, List.map_append, ← HFN.out, ← HF.out]; exact hown'
      have HB2 := Lib.hid hb2
      have HX2 := Lib.hid hx2
      have HO2 := Lib.hid ho2
      obtain ⟨ao2, ca2, rfl⟩ := own_form ho2
      clear hb2 hx2 ho2 hown' hgrow
      go_wp2
      go_roundw
      case rel => exact ⟨k + 1, _, _, by omega, by go_num, rfl, HO2, HX2, HB2, hsz2⟩
      case measure => simp [intOf]; omega
    · have hkn : k = n := by omega
      subst hkn
      have hI : ∀ x ∈ r.all, -9223372036854775808 ≤ x ∧ x ≤ 9223372036854775807 := by
        intro x hx
        simp only [RV.all, RV.allN, List.mem_map, List.mem_range] at hx
        obtain ⟨j, hj, rfl⟩ := hx
        rw [← r.from_nat j hj]
        exact RV.from_I64 HV.out HN.out j
      have HI := Lib.hid hI
      clear hI
      go_wp2
      go_ret
      have e : r.allN k = r.all := by unfold RV.all; rw [HNL.out]
      have h1 := HO.out
      rw [e] at h1
      exact ⟨_, rfl, ⟨h1, ints_of_own (by rw [show r.all.length = k by rw [← e, RV.allN_len]]; exact h1) HI.out⟩, HB.out⟩

set_option maxRecDepth 100000 in
set_option maxHeartbeats 1000000 in
theorem later_any (v : Value) (r : RV) (t : Int) (w : World) (hv : ReachAt w v r) (hl : r.l.length ≤ 1000000) (hfl : r.fl.length ≤ 1000000) :
    Calls Try.prog 25 #[v, .int .i64 t] w (RetP w (fun u w' => ReachOut w.heap.size w' u { r with now := max t r.now })) := by
  obtain ⟨tv, fv, rfl, htv, hf⟩ := hv
  have HT := Lib.hid htv
  have HF := Lib.hid hf
  obtain ⟨a, c, rfl, hok, hlen, hc⟩ := htv
  obtain ⟨fa, fc, rfl, hfk, hflen, hfc⟩ := hf
  clear hc hfc hok hfk
  go_enter Try.func25, Try.ntmps25
  go_wp2_with fail
  refine (of_any _ _ _ r.name r.l r.fl _ ⟨_, rfl, (HT.out.below (bel_new _ _)).below (bel_new _ _)⟩ ((HF.out.below (bel_new _ _)).below (bel_new _ _)) hl hfl).mono ?_
  rintro e w1 ⟨u, rfl, ⟨tv, fv, rfl, hu1, hu2, hs1, hs2⟩, hb⟩
  have HU1 := Lib.hid hu1
  have HU2 := Lib.hid hu2
  have HS1 := Lib.hid hs1
  have HS2 := Lib.hid hs2
  obtain ⟨a2, c2, rfl, _⟩ := hu1
  obtain ⟨a3, c3, rfl, _⟩ := hu2
  obtain ⟨h1, h2, hbw⟩ := two_new hb
  have HB := Lib.hid hbw
  have HSZ := Lib.hid hb.size
  have H2 := Lib.hid h2
  obtain ⟨d0, d1, d2, d3⟩ := row4 h2
  have g0 := frozen_row (o := 0) h2
  have g1 := frozen_row (o := 1) h2
  have g2 := frozen_row (o := 2) h2
  have g3 := frozen_row (o := 3) h2
  clear hb hbw hs1 hs2 h1 h2
  go_wp2
  have hsz := HSZ.out
  simp only [World.size_alloc] at hsz
  refine bodyPost_ret (v := .agg #[.int .i64 (max t r.now), .string r.name, .slice a2 r.l.length c2, .slice a3 r.fl.length c3]) (results_cell_row Try.results25 _ _ (w.heap.size + 1) 34 #[.int .i64 (max t r.now), .string r.name, .slice a2 r.l.length c2, .slice a3 r.fl.length c3] (0, 0) _ rfl (set_heap (set_heap (set_heap (set_heap H2.out _) _) _) _) Try.underlying34 rfl (by kernel_rfl)) rfl ?_
  have hfr : ∀ (k : Nat), w.heap.size + 2 ≤ k → ((((w1.setCell ⟨w.heap.size + 1, 0, none⟩ (.int .i64 (max t r.now))).setCell ⟨w.heap.size + 1, 1, none⟩ (.string r.name)).setCell ⟨w.heap.size + 1, 2, none⟩ (.slice a2 r.l.length c2)).setCell ⟨w.heap.size + 1, 3, none⟩ (.slice a3 r.fl.length c3)).heap[k]? = w1.heap[k]? := fun k hk => by
    rw [set_heap_other _ (by dsimp only; omega), set_heap_other _ (by dsimp only; omega), set_heap_other _ (by dsimp only; omega), set_heap_other _ (by dsimp only; omega)]
  refine ⟨_, rfl, ⟨_, _, rfl, HU1.out.frame HS1.out (by simp) (fun k hk _ => hfr k (by simp only [World.size_alloc] at hk; omega)), ints_frame HU2.out HS2.out (by simp) (fun k hk _ => hfr k (by simp only [World.size_alloc] at hk; omega)), HS1.out.mono (by simp; omega), HS2.out.mono (by simp; omega)⟩, bel_set (bel_set (bel_set (bel_set HB.out (by simp)) (by simp)) (by simp)) (by simp)⟩
end Go.Proofs.Ytaenpcglaenlaaa
