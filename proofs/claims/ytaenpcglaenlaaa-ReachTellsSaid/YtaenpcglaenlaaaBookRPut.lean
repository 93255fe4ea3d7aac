/-
  A book's lists of tiers, marked.
-/
import Derived.Test.YtaenpcglaenlaaaBookR
import Derived.Test.YtaenpcglaenlaaaInv
namespace Go.Proofs.Ytaenpcglaenlaaa
open Go.RowKit
set_option linter.unusedVariables false
set_option linter.unusedSimpArgs false
def tiersS (l : List TierV) : Spec Blw := .rel (fun v w => TiersAt w v l) (fun _ _ _ h hb => h.below hb)
/-- A tier is stored. -/
def set4 (w : World) (b o : Nat) (x : TierV) : World := (((w.setCell ⟨b, o, none⟩ (.string x.name)).setCell ⟨b, o + 1, none⟩ (.int .i64 x.every)).setCell ⟨b, o + 2, none⟩ (.int .i64 x.keep)).setCell ⟨b, o + 3, none⟩ (.int .i64 x.shards)
theorem set4_size (w : World) (b o : Nat) (x : TierV) : (set4 w b o x).heap.size = w.heap.size := by simp [set4]
theorem set4_other {w : World} {b o k : Nat} {x : TierV} (h : k ≠ b) : (set4 w b o x).heap[k]? = w.heap[k]? := by
  unfold set4
  rw [set_heap_other _ h, set_heap_other _ h, set_heap_other _ h, set_heap_other _ h]
theorem set4_below {B b o : Nat} {a w : World} {x : TierV} (h : Below B a w) (hb : B ≤ b) : Below B a (set4 w b o x) := by
  unfold set4
  exact bel_set (bel_set (bel_set (bel_set h hb) hb) hb) hb
theorem OwnL.setk {w : World} {B s n i g c : Nat} {e : TypeId} {v : Value} {zs : List Value} {u : Value} (h : OwnL w B e s v n zs) (hv : v = .slice (some ⟨g, 0, none⟩) n c) (hn : 0 < n) (hi : i < n * s) : OwnL (w.setCell ⟨g, i, none⟩ u) B e s v n (zs.set i u) := by
  refine ⟨by rw [List.length_set]; exact h.1, ?_⟩
  rcases h.2 with ⟨a, rfl, rfl⟩ | ⟨g', cap, cur, rfl, h0, h1, h2, h3, h4, h5, h6⟩
  · omega
  · injection hv with e1 _ e2
    injection e1 with e1; injection e1 with e1
    subst e1
    subst e2
    refine .inr ⟨g', cap, cur.setIfInBounds i u, rfl, h0, h1, set_heap h2 u, h3, h4, by simpa using h5, ?_⟩
    rw [← h6, Array.toList_setIfInBounds, List.take_set]
theorem flatT_set (x : TierV) : ∀ (L : List TierV) (j : Nat), j < L.length → flatT (L.set j x) = ((((flatT L).set (j * 4) (.string x.name)).set (j * 4 + 1) (.int .i64 x.every)).set (j * 4 + 2) (.int .i64 x.keep)).set (j * 4 + 3) (.int .i64 x.shards)
  | [], j, h => absurd h (Nat.not_lt_zero _)
  | t :: L, 0, _ => rfl
  | t :: L, j + 1, h => by
    have ih := flatT_set x L j (by simpa using h)
    have e : ∀ (zs : List Value) (o : Nat) (u : Value), (t.cells ++ zs).set ((j + 1) * 4 + o) u = t.cells ++ zs.set (j * 4 + o) u := fun zs o u => by
      rw [List.set_append_right _ _ (by show (4 : Nat) ≤ _; omega)]
      show t.cells ++ zs.set ((j + 1) * 4 + o - 4) u = _
      rw [show (j + 1) * 4 + o - 4 = j * 4 + o by omega]
    show t.cells ++ flatT (L.set j x) = ((((t.cells ++ flatT L).set ((j + 1) * 4 + 0) _).set ((j + 1) * 4 + 1) _).set ((j + 1) * 4 + 2) _).set ((j + 1) * 4 + 3) _
    rw [e, e, e, e, ih]; rfl
theorem OwnL.set4 {w : World} {B n j g c : Nat} {v : Value} {L : List TierV} {x : TierV} (h : OwnL w B 32 4 v n (flatT L)) (hv : v = .slice (some ⟨g, 0, none⟩) n c) (hj : j < n) (hl : L.length = n) : OwnL (set4 w g (j * 4) x) B 32 4 v n (flatT (L.set j x)) := by
  rw [flatT_set x L j (by omega)]
  exact (((h.setk hv (by omega) (by omega)).setk hv (by omega) (by omega)).setk hv (by omega) (by omega)).setk hv (by omega) (by omega)
/-- A book's lists of one kind: where they stand, and what is in them. -/
structure BK_r (w : World) (B p : Nat) (cs : Array Value) (n : Nat) (vs : Nat → Value) (ls : Nat → List TierV) : Prop where
  blk : w.heap[p]? = some (.cells cs 58)
  row : ∃ lv, cs[8]? = some lv ∧ OwnL w B 22 1 lv n ((List.range n).map vs)
  fam : Fam w B 32 4 n vs (fun i => (ls i).length) (fun i => (flatT (ls i)))
  few : n ≤ 250
  short : ∀ i, i < n → (ls i).length ≤ 100000
  ok : ∀ i, i < n → ∀ x ∈ ls i, (fun (x : TierV) => x.ok) x
  base : B ≤ w.heap.size
section
variable {w w' : World} {B p n : Nat} {cs : Array Value} {vs : Nat → Value} {ls ms : Nat → List TierV}
theorem BK_r.at (h : BK_r w B p cs n vs ls) {lv : Value} (hl : cs[8]? = some lv) : w.cell? ⟨p, 8, none⟩ = some lv ∧ OwnL w B 22 1 lv n ((List.range n).map vs) := by
  refine ⟨by rw [cell_of_row w p _ _ _ _ h.blk]; exact hl, ?_⟩
  obtain ⟨lv', h1, h2⟩ := h.row
  rw [hl] at h1
  injection h1 with h1
  rw [h1]; exact h2
theorem BK_r.below (h : BK_r w B p cs n vs ls) (hb : Below w.heap.size w w') : BK_r w' B p cs n vs ls := by
  obtain ⟨lv, h1, h2⟩ := h.row
  exact ⟨heap_step h.blk hb, ⟨lv, h1, h2.below hb⟩, h.fam.below hb, h.few, h.short, h.ok, Nat.le_trans h.base hb.size⟩
theorem BK_r.other {e : TypeId} (h : BK_r w B p cs n vs ls) (hs : TStep e w w') (h1 : 58 ≠ e) (h2 : 22 ≠ e) (h3 : 32 ≠ e) : BK_r w' B p cs n vs ls := by
  obtain ⟨lv, q1, q2⟩ := h.row
  refine ⟨hs.keep h.blk h1, ⟨lv, q1, hs.other q2 h2⟩, h.fam.other hs h3, h.few, h.short, h.ok, Nat.le_trans h.base hs.size⟩
/-- One of the lists has turned. -/
theorem BK_r.turn {i0 : Nat} (h : BK_r w B p cs n vs ls) (hi : i0 < n) (h0 : OwnL w' B 32 4 (vs i0) (ms i0).length ((flatT (ms i0)))) (hn : ∀ i, i ≠ i0 → ms i = ls i) (hk : (ms i0).length ≤ 100000 ∧ ∀ x ∈ ms i0, (fun (x : TierV) => x.ok) x)
    (hs : TStep 32 w w') (hh : ∀ g, g < w.heap.size → rowOf (vs i0) ≠ some g → w'.heap[g]? = w.heap[g]?) : BK_r w' B p cs n vs ms := by
  obtain ⟨lv, q1, q2⟩ := h.row
  refine ⟨hs.keep h.blk (by decide), ⟨lv, q1, hs.other q2 (by decide)⟩, h.fam.turn hi h0 (fun i hne => ?_) hh, h.few, fun i hi' => ?_, fun i hi' => ?_, Nat.le_trans h.base hs.size⟩
  · rw [hn i hne]; exact ⟨rfl, rfl⟩
  · by_cases hii : i = i0
    · subst hii; exact hk.1
    · rw [hn i hii]; exact h.short i hi'
  · by_cases hii : i = i0
    · subst hii; exact hk.2
    · rw [hn i hii]; exact h.ok i hi'
theorem BK_r.same (h : BK_r w B p cs n vs ls) (hm : ∀ i, i < n → ms i = ls i) : BK_r w B p cs n vs ms := by
  refine ⟨h.blk, h.row, ⟨fun i hi => ?_, h.fam.apart⟩, h.few, fun i hi => ?_, fun i hi => ?_, h.base⟩
  · rw [hm i hi]; exact h.fam.own i hi
  · rw [hm i hi]; exact h.short i hi
  · rw [hm i hi]; exact h.ok i hi
theorem BK_r.list (h : BK_r w B p cs n vs ls) {i : Nat} (hi : i < n) : TiersAt w (vs i) (ls i) := tiers_of_ownL (h.fam.own i hi) (h.ok i hi)
/-- Behind the marks of the first lists. -/
def putL_r (ls : Nat → List TierV) (i : Nat) : Nat → List TierV := fun j => if j < i then marksR j 0 (ls j).length else ls j
def putK_r (ls : Nat → List TierV) (i k : Nat) : Nat → List TierV := fun j => if j < i then marksR j 0 (ls j).length else if j = i then (marksR i 0 (ls i).length).take k ++ (ls i).drop k else ls j
theorem putK_zero_r (i : Nat) : putK_r ls i 0 = putL_r ls i := by
  funext j; unfold putK_r putL_r
  by_cases h1 : j < i
  · rw [if_pos h1, if_pos h1]
  · rw [if_neg h1, if_neg h1]
    by_cases h2 : j = i
    · subst h2; rw [if_pos rfl]; simp
    · rw [if_neg h2]
theorem putK_last_r (i : Nat) : putK_r ls i (ls i).length = putL_r ls (i + 1) := by
  funext j; unfold putK_r putL_r
  by_cases h1 : j < i
  · rw [if_pos h1, if_pos (by omega)]
  · rw [if_neg h1]
    by_cases h2 : j = i
    · subst h2; rw [if_pos rfl, if_pos (by omega), List.take_of_length_le (by rw [marksR_len]; exact Nat.le_refl _), List.drop_length, List.append_nil]
    · rw [if_neg h2, if_neg (by omega)]
theorem putK_len_r (i k : Nat) : (putK_r ls i k i).length = (ls i).length := by
  unfold putK_r
  rw [if_neg (by omega), if_pos rfl, List.length_append, List.length_take, List.length_drop, marksR_len]; omega
theorem putK_succ_r {i k : Nat} (hk : k < (ls i).length) : putK_r ls i (k + 1) i = (putK_r ls i k i).set k ((marksR i 0 (ls i).length).getD k TierV.zero) := by
  have hl : (marksR i 0 (ls i).length).length = (ls i).length := marksR_len _ _ _
  unfold putK_r
  rw [if_neg (by omega), if_pos rfl, if_neg (by omega), if_pos rfl]
  exact (set_step hl hk (by rw [List.getD_eq_getElem?_getD, List.getElem?_eq_getElem (by omega)]; rfl)).symm
theorem putK_other_r {i j k k' : Nat} (h : j ≠ i) : putK_r ls i k j = putK_r ls i k' j := by
  unfold putK_r
  rw [if_neg h, if_neg h]
end
set_option maxRecDepth 100000 in
set_option maxHeartbeats 4000000 in
theorem put_r {w : World} {B p n : Nat} {cs : Array Value} {vs : Nat → Value} {ls : Nat → List TierV} (h : BK_r w B p cs n vs ls) :
    Calls Try.prog 57 #[.pointer (some ⟨p, 0, none⟩)] w (fun x w' => x = .returned (.tuple #[]) ∧ BK_r w' B p cs n vs (fun i => marksR i 0 (ls i).length) ∧ Below B w w' ∧ TStep 32 w w') := by
  have H := Lib.hid h
  obtain ⟨lv, hlv, hrow⟩ := h.row
  obtain ⟨la, lc, rfl⟩ := hrow.form
  have HLV := Lib.hid hlv
  have hn := h.few
  clear h hlv hrow
  go_enter Try.func57, Try.ntmps57
  go_wp2
  go_loopw [2] (fun x wr => ∃ (i : Nat), i ≤ n ∧ x = .int .i64 i ∧ Hid (BK_r wr B p cs n vs (putL_r ls i)) ∧ Hid (Below B w wr ∧ TStep 32 w wr)) (fun x _ => n - (intOf x).toNat)
  case atStart => exact ⟨0, Nat.zero_le _, rfl, Lib.hid (H.out.same fun i _ => by unfold putL_r; rw [if_neg (by omega)]), Lib.hid ⟨Below.refl _ _, TStep.refl _ _⟩⟩
  case round =>
    obtain ⟨i, hi, rfl, HB, HS⟩ := hrel
    obtain ⟨c2, hrow⟩ := HB.out.at HLV.out
    by_cases hlt : i < n
    · obtain ⟨g, c, e1, hnc, hc, hg, hcell⟩ := rowAt hrow hlt
      injection e1 with e1 _ e2
      subst e1
      subst e2
      have hLI : putL_r ls i i = ls i := by unfold putL_r; rw [if_neg (by omega)]
      obtain ⟨ao, ca, hvi⟩ := (HB.out.fam.own i hlt).form
      have hl5 := HB.out.short i hlt
      have hcp := HB.out.fam.own i hlt
      rw [hvi] at hcp
      have hcp := hcp.cap.2
      (try dsimp only at hvi)
      rw [hLI] at hvi hl5 hcp
      have HVI := Lib.hid hvi
      rw [hvi] at hcell
      obtain ⟨m, hm⟩ : ∃ m, m = (ls i).length := ⟨_, rfl⟩
      rw [← hm] at hvi hl5 hcell hcp HVI
      have HM := Lib.hid hm
      have hi300 : i ≤ 300 := by omega
      clear hm hLI hvi
      go_wp2_with fail
      refine (marks_r i 0 m _ hi300 (by omega) (by omega)).mono ?_
      rintro e w1 ⟨mv, rfl, hmv, hb1⟩
      obtain ⟨ma, mc, rfl⟩ := own_form hmv
      obtain ⟨Z, hZ⟩ : ∃ Z, Z = wr.heap.size := ⟨_, rfl⟩
      rw [← hZ] at hmv
      have HMV := Lib.hid (OwnL.of_row hmv)
      have HZV := Lib.hid (show ∀ g, rowOf (vs i) = some g → g < Z from fun g hg => by rw [hZ]; exact ((HB.out.fam.own i hlt).lt hg).2.1)
      have HB1 := Lib.hid (HB.out.below hb1)
      have HS1 := Lib.hid (show Below B w w1 ∧ TStep 32 w w1 from ⟨HS.out.1.trans (hb1.mono HB.out.base), TStep.trans HS.out.2 (TStep.below hb1)⟩)
      have hsz : Z ≤ w1.heap.size := by rw [hZ]; exact hb1.size
      have hmc := (OwnL.of_row hmv).cap.2
      clear hmv hb1 c2 hrow hcell hg hnc hZ
      go_wp2
      go_loopw [4] (fun kk wr => ∃ (k : Nat), k ≤ m ∧ kk = .int .i64 k ∧ Hid (BK_r wr B p cs n vs (putK_r ls i k)) ∧ Hid (Below B w wr ∧ TStep 32 w wr) ∧ Hid (OwnL wr Z 32 4 (.slice ma m mc) m (flatT (marksR i 0 m))) ∧ Z ≤ wr.heap.size) (fun x _ => m - (intOf x).toNat)
      case atStart => exact ⟨0, Nat.zero_le _, rfl, Lib.hid (by rw [putK_zero_r]; exact HB1.out), HS1, HMV, hsz⟩
      case round =>
        obtain ⟨k, hk, rfl, HB2, HS2, HM2, hsz2⟩ := hrel
        by_cases hkm : k < m
        · obtain ⟨c2, hrow⟩ := HB2.out.at HLV.out
          obtain ⟨g', c', e1, hnc, hc', hg, hcell⟩ := rowAt hrow hlt
          injection e1 with e1 _ e2
          injection e1 with e1; injection e1 with e1
          subst e1
          subst e2
          have hlen := putK_len_r (ls := ls) i k
          have hown := HB2.out.fam.own i hlt
          (try dsimp only at hown)
          rw [hlen, ← HM.out] at hown
          obtain ⟨g2, ca2, hv2, hp2, hle2, hc2, hB2, hlt2, hro2, ⟨cur2, hcur2⟩, hcl2⟩ := hown.cells (by omega)
          rw [HVI.out] at hv2
          injection hv2 with hv2 _ hv3
          subst hv2
          subst hv3
          rw [HVI.out] at hcell
          obtain ⟨mb, mc2, hv4, _, _, _, hB4, hlt4, _, _, hcl4⟩ := HM2.out.cells (by omega)
          injection hv4 with hv4 _ hv5
          subst hv4
          subst hv5
          have hmkl : (marksR i 0 m).length = m := marksR_len _ _ _
          obtain ⟨x, hx⟩ : ∃ x, x = (marksR i 0 m).getD k TierV.zero := ⟨_, rfl⟩
          obtain ⟨f0, f1, f2, f3⟩ := flatT_at (marksR i 0 m) k (by omega)
          have m0 := (hcl4 (k * 4) (by omega)).trans f0
          have m1 := (hcl4 (k * 4 + 1) (by omega)).trans f1
          have m2 := (hcl4 (k * 4 + 2) (by omega)).trans f2
          have m3 := (hcl4 (k * 4 + 3) (by omega)).trans f3
          rw [← hx] at m0 m1 m2 m3
          have hlk : k < (putK_r ls i k i).length := by rw [hlen, ← HM.out]; exact hkm
          obtain ⟨y, hy⟩ : ∃ y, y = (putK_r ls i k i).getD k TierV.zero := ⟨_, rfl⟩
          obtain ⟨e0, e1', e2', e3⟩ := flatT_at (putK_r ls i k i) k hlk
          have o0 := (hcl2 (k * 4) (by omega)).trans e0
          have o1 := (hcl2 (k * 4 + 1) (by omega)).trans e1'
          have o2 := (hcl2 (k * 4 + 2) (by omega)).trans e2'
          have o3 := (hcl2 (k * 4 + 3) (by omega)).trans e3
          rw [← hy] at o0 o1 o2 o3
          have hfr : ∀ o, wr.frozen? ⟨g2, o, none⟩ = false := fun o => frozen_row hcur2
          have p0 := hfr (k * 4)
          have p1 := hfr (k * 4 + 1)
          have p2 := hfr (k * 4 + 2)
          have p3 := hfr (k * 4 + 3)
          have hne : g2 < Z := by
            exact HZV.out g2 (by rw [HVI.out]; exact rowOf_pos hp2)
          have HX := Lib.hid hx
          have HNE := Lib.hid hne
          have HB4 := Lib.hid hB4
          have HOW := Lib.hid hown
          have HRO := Lib.hid (show rowOf (vs i) = some g2 from by rw [HVI.out]; exact rowOf_pos hp2)
          have HCU := Lib.hid hcur2
          clear hrow hx hy hmkl hown hro2 hcl2 hcl4 hlen hB4 hB2 hlt4 hlt2 hcur2 hne hfr f0 f1 f2 f3 e0 e1' e2' e3 hlk
          go_wp2_with fail
          refine wp_region_inv (R := Blw) (S := (fun w' => Below wr.heap.size wr w' ∧ w'.cell? ⟨p, 8, none⟩ = some (.slice (some ⟨g, 0, none⟩) n lc) ∧ w'.cell? ⟨g, i, none⟩ = some (.slice (some ⟨g2, 0, none⟩) m ca) ∧ w'.cell? ⟨mb, k * 4, none⟩ = some (.string x.name) ∧ w'.cell? ⟨mb, k * 4 + 1, none⟩ = some (.int .i64 x.every) ∧ w'.cell? ⟨mb, k * 4 + 2, none⟩ = some (.int .i64 x.keep) ∧ w'.cell? ⟨mb, k * 4 + 3, none⟩ = some (.int .i64 x.shards) ∧ w'.cell? ⟨g2, k * 4, none⟩ = some (.string y.name) ∧ w'.cell? ⟨g2, k * 4 + 1, none⟩ = some (.int .i64 y.every) ∧ w'.cell? ⟨g2, k * 4 + 2, none⟩ = some (.int .i64 y.keep) ∧ w'.cell? ⟨g2, k * 4 + 3, none⟩ = some (.int .i64 y.shards) ∧ w'.frozen? ⟨g2, k * 4, none⟩ = false ∧ w'.frozen? ⟨g2, k * 4 + 1, none⟩ = false ∧ w'.frozen? ⟨g2, k * 4 + 2, none⟩ = false ∧ w'.frozen? ⟨g2, k * 4 + 3, none⟩ = false)) 13 (Spec.val ?_ :: Spec.val ?_ :: Spec.val ?_ :: Spec.val ?_ :: Spec.val ?_ :: Spec.val ?_ :: Spec.val ?_ :: Spec.val ?_ :: Spec.val ?_ :: Spec.val ?_ :: Spec.val ?_ :: Spec.val ?_ :: Spec.val ?_ :: []) (by kernel_rfl) (by kernel_rfl) rfl (fun w1 w2 h hb => ⟨chain h.1 hb, cell_step h.2.1 hb, cell_step h.2.2.1 hb, cell_step h.2.2.2.1 hb, cell_step h.2.2.2.2.1 hb, cell_step h.2.2.2.2.2.1 hb, cell_step h.2.2.2.2.2.2.1 hb, cell_step h.2.2.2.2.2.2.2.1 hb, cell_step h.2.2.2.2.2.2.2.2.1 hb, cell_step h.2.2.2.2.2.2.2.2.2.1 hb, cell_step h.2.2.2.2.2.2.2.2.2.2.1 hb, (frozen_step (World.block_lt_of_cell? _ _ h.2.2.2.2.2.2.2.1) hb).trans h.2.2.2.2.2.2.2.2.2.2.2.1, (frozen_step (World.block_lt_of_cell? _ _ h.2.2.2.2.2.2.2.2.1) hb).trans h.2.2.2.2.2.2.2.2.2.2.2.2.1, (frozen_step (World.block_lt_of_cell? _ _ h.2.2.2.2.2.2.2.2.2.1) hb).trans h.2.2.2.2.2.2.2.2.2.2.2.2.2.1, (frozen_step (World.block_lt_of_cell? _ _ h.2.2.2.2.2.2.2.2.2.2.1) hb).trans h.2.2.2.2.2.2.2.2.2.2.2.2.2.2⟩) (⟨(Below.refl _ _).drew, c2, hcell, m0, m1, m2, m3, o0, o1, o2, o3, p0, p1, p2, p3⟩) ?hm13
          case' hm13 => skip
          refine inv_val (i := 0) (by kernel_rfl) rfl rfl (fun w1 hS hd K hK => ?_) ?_
          · (try dsimp only at hS); go_simp; exact hK.out _ _ (by simp only [Act.put, List.setIfInBounds_toArray, List.set_cons_zero, List.set_cons_succ, List.nil_append, List.cons_append]; rfl) (Below.refl _ _)
          simp only [Act.put, List.setIfInBounds_toArray, List.set_cons_zero, List.set_cons_succ, List.nil_append, List.cons_append]
          refine inv_val (i := 1) (by kernel_rfl) rfl rfl (fun w1 hS hd K hK => ?_) ?_
          · (try dsimp only at hS); go_simp; exact hK.out _ _ (by simp only [Act.put, List.setIfInBounds_toArray, List.set_cons_zero, List.set_cons_succ, List.nil_append, List.cons_append]; rfl) (Below.refl _ _)
          simp only [Act.put, List.setIfInBounds_toArray, List.set_cons_zero, List.set_cons_succ, List.nil_append, List.cons_append]
          refine inv_val (i := 2) (by kernel_rfl) rfl rfl (fun w1 hS hd K hK => ?_) ?_
          · (try dsimp only at hS); go_simp; exact hK.out _ _ (by simp only [Act.put, List.setIfInBounds_toArray, List.set_cons_zero, List.set_cons_succ, List.nil_append, List.cons_append]; rfl) (Below.refl _ _)
          simp only [Act.put, List.setIfInBounds_toArray, List.set_cons_zero, List.set_cons_succ, List.nil_append, List.cons_append]
          refine inv_val (i := 3) (by kernel_rfl) rfl rfl (fun w1 hS hd K hK => ?_) ?_
          · (try dsimp only at hS); go_simp; exact hK.out _ _ (by simp only [Act.put, List.setIfInBounds_toArray, List.set_cons_zero, List.set_cons_succ, List.nil_append, List.cons_append]; rfl) (Below.refl _ _)
          simp only [Act.put, List.setIfInBounds_toArray, List.set_cons_zero, List.set_cons_succ, List.nil_append, List.cons_append]
          refine inv_val (i := 4) (by kernel_rfl) rfl rfl (fun w1 hS hd K hK => ?_) ?_
          · (try dsimp only at hS); go_simp; exact hK.out _ _ (by simp only [Act.put, List.setIfInBounds_toArray, List.set_cons_zero, List.set_cons_succ, List.nil_append, List.cons_append]; rfl) (Below.refl _ _)
          simp only [Act.put, List.setIfInBounds_toArray, List.set_cons_zero, List.set_cons_succ, List.nil_append, List.cons_append]
          refine inv_val (i := 5) (by kernel_rfl) rfl rfl (fun w1 hS hd K hK => ?_) ?_
          · (try dsimp only at hS); go_simp; exact hK.out _ _ (by simp only [Act.put, List.setIfInBounds_toArray, List.set_cons_zero, List.set_cons_succ, List.nil_append, List.cons_append]; rfl) (Below.refl _ _)
          simp only [Act.put, List.setIfInBounds_toArray, List.set_cons_zero, List.set_cons_succ, List.nil_append, List.cons_append]
          refine inv_val (i := 6) (by kernel_rfl) rfl rfl (fun w1 hS hd K hK => ?_) ?_
          · (try dsimp only at hS); go_simp; exact hK.out _ _ (by simp only [Act.put, List.setIfInBounds_toArray, List.set_cons_zero, List.set_cons_succ, List.nil_append, List.cons_append]; rfl) (Below.refl _ _)
          simp only [Act.put, List.setIfInBounds_toArray, List.set_cons_zero, List.set_cons_succ, List.nil_append, List.cons_append]
          refine inv_val (i := 7) (by kernel_rfl) rfl rfl (fun w1 hS hd K hK => ?_) ?_
          · (try dsimp only at hS); go_simp; exact hK.out _ _ (by simp only [Act.put, List.setIfInBounds_toArray, List.set_cons_zero, List.set_cons_succ, List.nil_append, List.cons_append]; rfl) (Below.refl _ _)
          simp only [Act.put, List.setIfInBounds_toArray, List.set_cons_zero, List.set_cons_succ, List.nil_append, List.cons_append]
          refine inv_val (i := 8) (by kernel_rfl) rfl rfl (fun w1 hS hd K hK => ?_) ?_
          · (try dsimp only at hS); go_simp; exact hK.out _ _ (by simp only [Act.put, List.setIfInBounds_toArray, List.set_cons_zero, List.set_cons_succ, List.nil_append, List.cons_append]; rfl) (Below.refl _ _)
          simp only [Act.put, List.setIfInBounds_toArray, List.set_cons_zero, List.set_cons_succ, List.nil_append, List.cons_append]
          refine inv_val (i := 9) (by kernel_rfl) rfl rfl (fun w1 hS hd K hK => ?_) ?_
          · (try dsimp only at hS); go_simp; exact hK.out _ _ (by simp only [Act.put, List.setIfInBounds_toArray, List.set_cons_zero, List.set_cons_succ, List.nil_append, List.cons_append]; rfl) (Below.refl _ _)
          simp only [Act.put, List.setIfInBounds_toArray, List.set_cons_zero, List.set_cons_succ, List.nil_append, List.cons_append]
          refine inv_val (i := 10) (by kernel_rfl) rfl rfl (fun w1 hS hd K hK => ?_) ?_
          · (try dsimp only at hS); go_simp; exact hK.out _ _ (by simp only [Act.put, List.setIfInBounds_toArray, List.set_cons_zero, List.set_cons_succ, List.nil_append, List.cons_append]; rfl) (Below.refl _ _)
          simp only [Act.put, List.setIfInBounds_toArray, List.set_cons_zero, List.set_cons_succ, List.nil_append, List.cons_append]
          refine inv_val (i := 11) (by kernel_rfl) rfl rfl (fun w1 hS hd K hK => ?_) ?_
          · (try dsimp only at hS); go_simp; exact hK.out _ _ (by simp only [Act.put, List.setIfInBounds_toArray, List.set_cons_zero, List.set_cons_succ, List.nil_append, List.cons_append]; rfl) (Below.refl _ _)
          simp only [Act.put, List.setIfInBounds_toArray, List.set_cons_zero, List.set_cons_succ, List.nil_append, List.cons_append]
          refine inv_val (i := 12) (by kernel_rfl) rfl rfl (fun w1 hS hd K hK => ?_) ?_
          · (try dsimp only at hS); go_simp; exact hK.out _ _ (by simp only [Act.put, List.setIfInBounds_toArray, List.set_cons_zero, List.set_cons_succ, List.nil_append, List.cons_append]; rfl) (Below.refl _ _)
          simp only [Act.put, List.setIfInBounds_toArray, List.set_cons_zero, List.set_cons_succ, List.nil_append, List.cons_append]
          refine inv_tail1 (by kernel_rfl) rfl (fun w3 hS hd => ?_)
          obtain ⟨hb3, d2, d3, d4, d5, d6, d7, d8, d9, d10, d11, r0, r1, r2, r3⟩ := hS
          have HB3 := Lib.hid hb3
          clear hb3 hd
          go_wp2
          have HT := Lib.hid (TStep.row (e := 32) (w := w3) (w' := set4 w3 g2 (k * 4) x) (by rw [set4_size]; exact Nat.le_refl _) (heap_step HCU.out HB3.out) (fun j _ hj => set4_other hj))
          have HO3 := Lib.hid (OwnL.set4 (x := x) (HOW.out.below HB3.out) HVI.out hkm (by rw [putK_len_r, ← HM.out]))
          have HB5 := Lib.hid (BK_r.turn (ms := putK_r ls i (k + 1)) (HB2.out.below HB3.out) hlt (w' := set4 w3 g2 (k * 4) x) (by
              rw [putK_len_r, putK_succ_r (by rw [← HM.out]; exact hkm), ← HM.out, ← HX.out]
              exact HO3.out) (fun j hj => putK_other_r hj) ⟨by rw [putK_len_r, ← HM.out]; exact hl5, fun z hz => by
              rw [putK_succ_r (by rw [← HM.out]; exact hkm)] at hz
              rcases List.mem_or_eq_of_mem_set hz with hz | hz
              · exact HB2.out.ok i hlt z hz
              · rw [hz, ← HM.out]; exact marksR_ok i 0 m hi300 (by omega) (by omega) _ (by rw [List.getD_eq_getElem?_getD, List.getElem?_eq_getElem (by rw [marksR_len]; exact hkm)]; exact List.getElem_mem _)⟩ HT.out
              (fun j _ hj => set4_other (fun e => hj (by rw [HRO.out]; exact congrArg some e.symm))))
          go_roundw
          case rel => exact ⟨k + 1, hkm, by go_num, HB5, Lib.hid ⟨set4_below (HS2.out.1.trans (HB3.out.mono HB2.out.base)) (by have := (HOW.out.lt HRO.out).1; exact this), TStep.trans (TStep.trans HS2.out.2 (TStep.below HB3.out)) HT.out⟩, Lib.hid ((HM2.out.below HB3.out).frame (fun j hj => set4_other (fun e => by
            have e2 : mb = j := by rw [rowOf_pos (by omega)] at hj; exact Option.some.inj hj
            have := HNE.out; have := HB4.out
            omega))), by have := HB3.out.size; show Z ≤ (set4 w3 g2 (k * 4) x).heap.size; rw [set4_size]; omega⟩
          case measure => simp [intOf]; omega
        · obtain rfl : k = m := by omega
          go_wp2
          go_roundw
          case rel => exact ⟨i + 1, hlt, by go_num, Lib.hid (by rw [← putK_last_r, ← HM.out]; exact HB2.out), HS2⟩
          case measure => simp [intOf]; omega
    · obtain rfl : i = n := by omega
      go_wp2
      go_end0
      exact ⟨rfl, HB.out.same (fun j hj => by unfold putL_r; rw [if_pos hj]), HS.out⟩
end Go.Proofs.Ytaenpcglaenlaaa
