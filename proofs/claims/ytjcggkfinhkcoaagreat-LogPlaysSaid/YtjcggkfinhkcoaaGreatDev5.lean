/-
  The contract of Flush of a disk.
-/
import Derived.Test.YtjcggkfinhkcoaaGreatDev4
namespace Go.Proofs.YtjcggkfinhkcoaaGreat
open Go.RowKit
set_option linter.unusedVariables false
set_option linter.unusedSimpArgs false

def flushL (W : List (Int × ByteArray)) (f : Int → Option ByteArray) : Nat → (Int → Option ByteArray)
  | 0 => f
  | k + 1 => updF (flushL W f k) (W.getD k w0).1 (W.getD k w0).2
def DV.flushed (d : DV) : DV := { d with lasts := flushL d.waits d.lasts d.waits.length, waits := [] }
def DV.flush (d : DV) : DV × Int :=
  if d.on = false then (d, 14) else if d.armed = true ∧ d.left ≤ 0 then (d.cut d.keep, 14) else (d.spent.flushed, 0)

structure FlMid (w wr : World) (B p c n2 : Nat) (d1 : DV) (kv wv : Value) (mb lb : Nat) (f : Int → Option ByteArray) : Prop where
  mid : CutMid w wr B p n2 d1 kv wv mb lb f
  now : MapAt wr mb c d1.now
  keep : KeepAt wr kv d1.keep
theorem FlMid.step_ {w wr w' : World} {B p c n2 : Nat} {d1 : DV} {kv wv : Value} {mb lb : Nat} {f : Int → Option ByteArray} (h : FlMid w wr B p c n2 d1 kv wv mb lb f) (hb : Below wr.heap.size wr w') : FlMid w w' B p c n2 d1 kv wv mb lb f :=
  ⟨h.mid.step_ hb, h.now.step (hb.block _ h.now.lt), h.keep.step hb.size (fun b o s m c' e hne => by obtain ⟨cs, fr, h6⟩ := h.keep.2 b o s m c' e hne; exact hb.block b (heap_lt h6))⟩
theorem FlMid.put {w wr w' : World} {B p c n2 : Nat} {d1 : DV} {kv wv : Value} {mb lb : Nat} {f f' : Int → Option ByteArray} (h : FlMid w wr B p c n2 d1 kv wv mb lb f) (hm : MapAt w' lb (n2 + 1) f') (hg : wr.grownBy w' (some lb)) (hne : mb ≠ lb) : FlMid w w' B p c (n2 + 1) d1 kv wv mb lb f' := by
  obtain ⟨es, ck, hl⟩ := h.mid.lasts.map
  refine ⟨h.mid.put hm hg, h.now.step (hg.block _ h.now.lt (fun e => hne (by injection e))), h.keep.step hg.size (fun b o s m c' e hn => ?_)⟩
  obtain ⟨cs, fr, h6⟩ := h.keep.2 b o s m c' e hn
  refine hg.block b (heap_lt h6) (fun e => ?_)
  injection e with e
  rw [e, hl] at h6; cases h6

section
variable {w : World} {B p c : Nat} {d : DV}
set_option maxRecDepth 100000 in
set_option maxHeartbeats 4000000 in
theorem flush_go (h : DiskAt w B p c d) (hc : c ≤ 1000000) (hw : 0 ≤ d.writes ∧ d.writes ≤ 1000000000000) (g0 : d.on = true) (g3 : d.armed = true → 0 < d.left) :
    Calls Tryz.prog 27 #[.pointer (some ⟨p, 0, none⟩)] w (RetD w B p c d.spent.flushed (.int .i64 0)) := by
  have HD := Lib.hid h
  have G0 := Lib.hid g0
  have G3 := Lib.hid g3
  have HW := Lib.hid hw
  clear h g0 g3 hw
  go_enter Tryz.func27, Tryz.ntmps27
  go_wp2_with fail
  refine (off_any HD.out).mono ?_
  rintro e w8 ⟨rfl, hb⟩
  rw [G0.out]
  have HD8 := Lib.hid (HD.out.step hb)
  have HS8 := Lib.hid (HD.out.dstep hb)
  clear hb
  go_wp2_with fail
  refine (goes_no HD8.out HW.out G3.out).mono ?_
  rintro e w1 ⟨rfl, hd1, hs1⟩
  obtain ⟨d1, hd1e⟩ : ∃ d1, d1 = d.spent := ⟨_, rfl⟩
  have HE := Lib.hid hd1e
  rw [← hd1e] at hd1
  have HS1 := Lib.hid (HS8.out.trans hs1)
  obtain ⟨kv, wv, mb, lb, h1⟩ := hd1
  have H1 := Lib.hid h1
  have hon : d1.on = true := by rw [hd1e]; exact G0.out
  obtain ⟨wa, wc, hwv⟩ := own_form h1.waits
  have HWV := Lib.hid hwv
  obtain ⟨c0, c1, c2, c3, c4, c5, c6, c7, c8⟩ := row9 h1.blk
  obtain ⟨n, hn⟩ : ∃ n, n = d1.waits.length := ⟨_, rfl⟩
  rw [hwv, ← hn] at c8
  rw [← hn] at HWV
  have HN := Lib.hid hn
  obtain ⟨n2, hn2, hl2⟩ := H1.out.lasts
  have hnc : n ≤ 1000000 := by omega
  have hcc : n2 + n ≤ c := by omega
  have hrow : w1.heap[p]? = some (.cells #[.bool true, .int .i64 d1.writes, .bool d1.armed, .int .i64 d1.left, kv, .int .i64 d1.blocks, .map (some mb), .map (some lb), wv] 64) := by rw [← hon]; exact H1.out.blk
  have HM := Lib.hid (show FlMid w1 w1 B p c (n2 + 0) d1 kv wv mb lb (flushL d1.waits d1.lasts 0) from ⟨⟨hrow, hl2, H1.out.waits, DStep.refl _ _⟩, H1.out.now, H1.out.keep⟩)
  have HO := Lib.hid hon
  clear h1 hs1 hd1e hwv hn hl2 hrow hn2 hon
  go_wp2_with fail
  clear c0 c1 c2 c3 c4 c5 c6 c7 c8
  go_loopw [25] (fun x wr => ∃ k, k ≤ n ∧ x = .int .i64 k ∧ Hid (FlMid w1 wr B p c (n2 + k) d1 kv wv mb lb (flushL d1.waits d1.lasts k))) (fun x _ => n - (intOf x).toNat)
  case atStart => exact ⟨0, Nat.zero_le _, rfl, HM⟩
  case round =>
    clear HM
    obtain ⟨k, hk, rfl, HM⟩ := hrel
    by_cases hlt : k < n
    · obtain ⟨g, cap, ev, _⟩ := HM.out.mid.waits.form (by have := HN.out; omega)
      rw [HWV.out] at ev
      injection ev with ev1 ev2 ev3
      subst ev1 ev3
      obtain ⟨x0, x1⟩ : wr.cell? ⟨g, k * 2, none⟩ = some (.int .i64 (d1.waits.getD k w0).1) ∧ wr.cell? ⟨g, k * 2 + 1, none⟩ = some (.string (d1.waits.getD k w0).2) := by
        have hw := HM.out.mid.waits
        rw [HWV.out, ← HN.out] at hw
        have hkl : k < d1.waits.length := by rw [← HN.out]; exact hlt
        obtain ⟨q0, q1⟩ := flatW_at d1.waits k hkl
        exact ⟨(hw.cellAt (k * 2) (by omega)).trans q0, (hw.cellAt (k * 2 + 1) (by omega)).trans q1⟩
      have hokk := H1.out.ok.2.2.2 (d1.waits.getD k w0) (by
        have hkl : k < d1.waits.length := by rw [← HN.out]; exact hlt
        rw [List.getD_eq_getElem?_getD, List.getElem?_eq_getElem hkl]; exact List.getElem_mem _)
      have HST := Lib.hid (show flushL d1.waits d1.lasts (k + 1) = updF (flushL d1.waits d1.lasts k) (d1.waits.getD k w0).1 (d1.waits.getD k w0).2 from rfl)
      obtain ⟨at_, hat⟩ : ∃ x, x = (d1.waits.getD k w0).1 := ⟨_, rfl⟩
      obtain ⟨data, hdt⟩ : ∃ x, x = (d1.waits.getD k w0).2 := ⟨_, rfl⟩
      rw [← hat] at x0 hokk HST
      rw [← hdt] at x1 hokk HST
      have HOK := Lib.hid hokk
      have HT := Lib.hid (show (wr.alloc (.cells #[.int .i64 at_, .string data] 94)).heap[wr.heap.size]? = some (.cells #[.int .i64 at_, .string data] 94) from heap_new_at rfl)
      have HM1 := Lib.hid (HM.out.step_ (bel_new wr (.cells #[.int .i64 at_, .string data] 94)))
      have hz2 : data.size ≤ 9223372036854775807 := hokk.2
      clear hat hdt hokk ev2
      go_wp2_with fail
      obtain ⟨tb, htb⟩ : ∃ tb, tb = wr.heap.size := ⟨_, rfl⟩
      rw [← htb] at HT ⊢
      obtain ⟨w2, hw2⟩ : ∃ w2, w2 = wr.alloc (.cells #[.int .i64 at_, .string data] 94) := ⟨_, rfl⟩
      rw [← hw2] at HT HM1 ⊢
      have HM2 := HM1
      have HT2 := HT
      clear hw2 htb x0 x1
      obtain ⟨c0, c1, c2, c3, c4, c5, c6, c7, c8⟩ := row9 HM2.out.mid.row
      obtain ⟨t0, t1⟩ : w2.cell? ⟨tb, 0, none⟩ = some (.int .i64 at_) ∧ w2.cell? ⟨tb, 1, none⟩ = some (.string data) := by
        constructor <;> (rw [cell_of_row w2 tb _ _ _ _ HT2.out]; rfl)
      refine wp_region_inv (R := Blw) (S := (fun w' => (FlMid w1 w' B p c (n2 + k) d1 kv wv mb lb (flushL d1.waits d1.lasts k) ∧ w'.heap[tb]? = some (.cells #[.int .i64 at_, .string data] 94)) ∧ w'.cell? ⟨p, 7, none⟩ = some (.map (some lb)) ∧ w'.cell? ⟨tb, 0, none⟩ = some (.int .i64 at_) ∧ w'.cell? ⟨tb, 1, none⟩ = some (.string data))) 8 (Spec.val ?_ :: Spec.val ?_ :: Spec.val ?_ :: Spec.val ?_ :: Spec.val ?_ :: Spec.val ?_ :: Spec.val ?_ :: Spec.val ?_ :: []) (by kernel_rfl) (by kernel_rfl) rfl (fun w1 w2 h hb => ⟨⟨h.1.1.step_ hb, heap_step h.1.2 hb⟩, cell_step h.2.1 hb, cell_step h.2.2.1 hb, cell_step h.2.2.2 hb⟩) (⟨⟨HM2.out.step_ (Below.refl _ _).drew, HT2.out⟩, c7, t0, t1⟩) ?hm3
      case' hm3 => skip
      refine inv_val (i := 0) (by kernel_rfl) rfl rfl (fun w1 hS hd K hK => ?_) ?_
      · (try dsimp only at hS); go_simp; exact hK.out _ _ (by simp only [Act.put, List.setIfInBounds_toArray, List.set_cons_zero, List.set_cons_succ, List.nil_append, List.cons_append]; rfl) (Below.refl _ _)
      simp only [Act.put, List.setIfInBounds_toArray, List.set_cons_zero, List.set_cons_succ, List.nil_append, List.cons_append]
      refine inv_val (i := 1) (by kernel_rfl) rfl rfl (fun w1 hS hd K hK => ?_) ?_
      · (try dsimp only at hS); go_simp; exact hK.out _ _ (by simp only [Act.put, List.setIfInBounds_toArray, List.set_cons_zero, List.set_cons_succ, List.nil_append, List.cons_append]; rfl) (Below.refl _ _)
      simp only [Act.put, List.setIfInBounds_toArray, List.set_cons_zero, List.set_cons_succ, List.nil_append, List.cons_append]
      refine inv_val (i := 2) (by kernel_rfl) rfl rfl (fun w1 hS hd K hK => ?_) ?_
      · (try dsimp only at hS); go_simp; exact hK.out _ _ (by simp only [Act.put, List.setIfInBounds_toArray, List.set_cons_zero, List.set_cons_succ, List.nil_append, List.cons_append]; rfl) (Below.refl _ _)
      simp only [Act.put, List.setIfInBounds_toArray, List.set_cons_zero, List.set_cons_succ, List.nil_append, List.cons_append]
      refine inv_val (i := 3) (by kernel_rfl) rfl rfl (fun w1 hS hd K hK => ?_) ?_
      · (try dsimp only at hS); go_simp; exact hK.out _ _ (by simp only [Act.put, List.setIfInBounds_toArray, List.set_cons_zero, List.set_cons_succ, List.nil_append, List.cons_append]; rfl) (Below.refl _ _)
      simp only [Act.put, List.setIfInBounds_toArray, List.set_cons_zero, List.set_cons_succ, List.nil_append, List.cons_append]
      refine inv_val (i := 4) (by kernel_rfl) rfl rfl (fun w1 hS hd K hK => ?_) ?_
      · (try dsimp only at hS); go_simp; exact hK.out _ _ (by simp only [Act.put, List.setIfInBounds_toArray, List.set_cons_zero, List.set_cons_succ, List.nil_append, List.cons_append]; rfl) (Below.refl _ _)
      simp only [Act.put, List.setIfInBounds_toArray, List.set_cons_zero, List.set_cons_succ, List.nil_append, List.cons_append]
      refine inv_val (i := 5) (by kernel_rfl) rfl rfl (fun w1 hS hd K hK => ?_) ?_
      · (try dsimp only at hS); go_simp; exact hK.out _ _ (by simp only [Act.put, List.setIfInBounds_toArray, List.set_cons_zero, List.set_cons_succ, List.nil_append, List.cons_append]; rfl) (Below.refl _ _)
      simp only [Act.put, List.setIfInBounds_toArray, List.set_cons_zero, List.set_cons_succ, List.nil_append, List.cons_append]
      refine inv_val (i := 6) (by kernel_rfl) rfl rfl (fun w1 hS hd K hK => ?_) ?_
      · (try dsimp only at hS); go_simp; exact hK.out _ _ (by simp only [Act.put, List.setIfInBounds_toArray, List.set_cons_zero, List.set_cons_succ, List.nil_append, List.cons_append]; rfl) (Below.refl _ _)
      simp only [Act.put, List.setIfInBounds_toArray, List.set_cons_zero, List.set_cons_succ, List.nil_append, List.cons_append]
      refine inv_val (i := 7) (by kernel_rfl) rfl rfl (fun w1 hS hd K hK => ?_) ?_
      · (try dsimp only at hS); go_simp; exact hK.out _ _ (by simp only [Act.put, List.setIfInBounds_toArray, List.set_cons_zero, List.set_cons_succ, List.nil_append, List.cons_append]; rfl) (Below.refl _ _)
      simp only [Act.put, List.setIfInBounds_toArray, List.set_cons_zero, List.set_cons_succ, List.nil_append, List.cons_append]
      refine inv_tail1 (by kernel_rfl) rfl (fun w6 hS hd => ?_)
      have HS := Lib.hid hS.1.1
      clear hS hd c0 c1 c2 c3 c4 c5 c6 c7 c8 t0 t1 HM1 HM2 HT HT2
      refine wpList_put rfl (.tmp 32) (.tmp 34) (.tmp 36) rfl lb (n2 + k) _ at_ data rfl rfl rfl HS.out.mid.lasts (by omega) HOK.out.1 HOK.out.2 ?_
      intro w7 hm7 hg7
      have HM7 := Lib.hid (HS.out.put hm7.out hg7.out H1.out.ne)
      clear hm7 hg7
      go_wp2
      go_roundw
      case rel => exact ⟨k + 1, by omega, by go_num, Lib.hid (by rw [HST.out]; exact HM7.out)⟩
      case measure => simp [intOf]; omega
    · have hkn : k = n := by omega
      subst hkn
      obtain ⟨c0, c1, c2, c3, c4, c5, c6, c7, c8⟩ := row9 HM.out.mid.row
      obtain ⟨f0, f1, f2, f3, f4, f5, f6, f7, f8⟩ := free9 HM.out.mid.row
      clear hlt
      go_wp2
      go_ret
      have hrow := HM.out.mid.row
      obtain ⟨w9, hw9⟩ : ∃ w9, w9 = wr.setCell ⟨p, 8, none⟩ (.slice none 0 0) := ⟨_, rfl⟩
      rw [← hw9]
      have hfr : ∀ k, k ≠ p → w9.heap[k]? = wr.heap[k]? := fun k hk => by rw [hw9, set_heap_other _ hk]
      have hsz9 : w9.heap.size = wr.heap.size := by rw [hw9]; simp
      have hrow9 : w9.heap[p]? = some (.cells #[.bool true, .int .i64 d1.writes, .bool d1.armed, .int .i64 d1.left, kv, .int .i64 d1.blocks, .map (some mb), .map (some lb), .slice none 0 0] 64) := by
        rw [hw9, set_heap hrow]; rfl
      have hok1 := H1.out.ok
      have hlbp : lb ≠ p := by
        obtain ⟨es, ck, hl⟩ := HM.out.mid.lasts.map
        intro e; have := hrow; rw [← e, hl] at this; cases this
      have hmbp : mb ≠ p := by
        obtain ⟨es, ck, hl⟩ := HM.out.now.map
        intro e; have := hrow; rw [← e, hl] at this; cases this
      have hDP : DP w9 B p c d1.flushed kv (.slice none 0 0) mb lb := by
        refine ⟨?_, HM.out.keep.step (by omega) (fun b o s m c' e hne => hfr b (fun e2 => ?_)), HM.out.now.step (hfr mb hmbp), ⟨n2 + k, by simp [DV.flushed]; omega, ?_⟩, World.ownsRow_nil _ _ _ _, H1.out.ne, H1.out.ge, ⟨hok1.1, hok1.2.1, hok1.2.2.1, by simp [DV.flushed]⟩⟩
        · rw [hrow9]; unfold DV.flushed; dsimp only; rw [HO.out]
        · obtain ⟨cs, fr, h6⟩ := HM.out.keep.2 b o s m c' e hne
          rw [e2, hrow] at h6
          injection h6 with h6; injection h6 with _ h6; exact absurd h6 (by decide)
        · show MapAt w9 lb (n2 + k) (flushL d1.waits d1.lasts d1.waits.length)
          rw [← HN.out]; exact HM.out.mid.lasts.step (hfr lb hlbp)
      rw [← HE.out]
      refine ⟨rfl, ⟨_, _, _, _, hDP⟩, HS1.out.trans (HM.out.mid.step.trans ?_)⟩
      refine ⟨by rw [hw9]; rfl, by rw [hw9]; rfl, by rw [hw9]; rfl, by omega, fun j hj hno => hfr j (fun e => hno (.inl e)), fun j hj => ?_⟩
      rcases (hDP.own_iff j).1 hj with h1 | h1 | h1 | h1
      · exact .inl (.inl h1)
      · exact .inl (.inr (.inl (by rw [c6, h1])))
      · exact .inl (.inr (.inr (.inl (by rw [c7, h1]))))
      · cases h1

set_option maxRecDepth 100000 in
set_option maxHeartbeats 4000000 in
theorem flush_any (h : DiskAt w B p c d) (hc : c ≤ 1000000) (hw : 0 ≤ d.writes ∧ d.writes ≤ 1000000000000) :
    Calls Tryz.prog 27 #[.pointer (some ⟨p, 0, none⟩)] w (RetD w B p c d.flush.1 (.int .i64 d.flush.2)) := by
  by_cases g0 : d.on = false
  · rw [show d.flush = (d, 14) from if_pos g0]
    have HD := Lib.hid h
    have G0 := Lib.hid g0
    clear h g0
    go_enter Tryz.func27, Tryz.ntmps27
    go_wp2_with fail
    refine (off_any HD.out).mono ?_
    rintro e w1 ⟨rfl, hb⟩
    rw [G0.out]
    go_wp2
    go_ret
    exact ⟨rfl, HD.out.step hb, HD.out.dstep hb⟩
  · have g0' : d.on = true := by simpa using g0
    by_cases g3 : d.armed = true ∧ d.left ≤ 0
    · rw [show d.flush = (d.cut d.keep, 14) by unfold DV.flush; rw [if_neg g0, if_pos g3]]
      have HD := Lib.hid h
      have G0 := Lib.hid g0'
      have G3 := Lib.hid g3
      clear h g0 g0' g3 hw
      go_enter Tryz.func27, Tryz.ntmps27
      go_wp2_with fail
      refine (off_any HD.out).mono ?_
      rintro e w1 ⟨rfl, hb⟩
      rw [G0.out]
      have HD1 := Lib.hid (HD.out.step hb)
      have HS1 := Lib.hid (HD.out.dstep hb)
      clear hb
      go_wp2_with fail
      refine (goes_yes HD1.out G3.out.1 G3.out.2).mono ?_
      rintro e w2 ⟨rfl, hb⟩
      have HD2 := Lib.hid (HD1.out.step hb)
      have HS2 := Lib.hid (HS1.out.trans (HD1.out.dstep hb))
      clear hb
      obtain ⟨kv, wv, mb, lb, h2⟩ := HD2.out
      have HKO := Lib.hid h2.keep_out
      obtain ⟨c0, c1, c2, c3, c4, c5, c6, c7, c8⟩ := row9 h2.blk
      clear h2
      go_wp2_with fail
      refine (cut_any _ _ HD2.out HKO.out (by omega)).mono ?_
      rintro e w3 ⟨rfl, hd3, hs3⟩
      have HD3 := Lib.hid hd3
      have HS3 := Lib.hid (HS2.out.trans hs3)
      clear hd3 hs3 c0 c1 c2 c3 c4 c5 c6 c7 c8
      go_wp2
      go_ret
      exact ⟨rfl, HD3.out, HS3.out⟩
    · rw [show d.flush = (d.spent.flushed, 0) by unfold DV.flush; rw [if_neg g0, if_neg g3]]
      exact flush_go h hc hw g0' (fun hh => by
        by_cases hl : 0 < d.left
        · exact hl
        · exact absurd ⟨hh, by omega⟩ g3)

def DV.fresh (blocks : Int) : DV := ⟨true, 0, false, 0, [], blocks, fun _ => none, fun _ => none, []⟩
set_option maxRecDepth 100000 in
set_option maxHeartbeats 1000000 in
theorem new_any (blocks : Int) (w : World) (hb : 1 ≤ blocks ∧ blocks ≤ 4096) :
    Calls Tryz.prog 6 #[.int .i64 blocks] w (fun e w' => ∃ q, e = .returned (.pointer (some ⟨q, 0, none⟩)) ∧ DiskAt w' w.heap.size q 0 (DV.fresh blocks) ∧ Below w.heap.size w w') := by
  obtain ⟨h1, h2⟩ := hb
  have hmm := @run_makeMap Tryz.prog
  go_enter Tryz.func6, Tryz.ntmps6
  go_wp2
  go_ret
  have m1 : MapAt (w.alloc (.map #[] 0)) w.heap.size 0 (fun _ => none) := map_new w
  have m2 : MapAt ((w.alloc (.map #[] 0)).alloc (.map #[] 0)) (w.heap.size + 1) 0 (fun _ => none) := by
    have := map_new (w.alloc (.map #[] 0))
    rwa [World.size_alloc] at this
  refine ⟨w.heap.size + 2, rfl, ⟨.slice none 0 0, .slice none 0 0, w.heap.size, w.heap.size + 1, ⟨heap_new_at (by simp), keep_nil _, ?_, ⟨0, by simp [DV.fresh], ?_⟩, World.ownsRow_nil _ _ _ _, by omega, by omega, ?_⟩⟩, ?_⟩
  · exact (m1.step (Below.block (bel_new _ _) _ m1.lt)).step (Below.block (bel_new _ _) _ (by simp; omega))
  · exact m2.step (Below.block (bel_new _ _) _ m2.lt)
  · exact ⟨by unfold DV.fresh I64; dsimp only; omega, by unfold DV.fresh I64; dsimp only; omega, by unfold DV.fresh I64; dsimp only; omega, by simp [DV.fresh]⟩
  · exact chain (chain (bel_new _ _) (bel_new _ _)) (bel_new _ _)
end
end Go.Proofs.YtjcggkfinhkcoaaGreat
