/-
  The contract of Cut of a disk.
-/
import Derived.Test.YtjcggkfinhkcoaaGreatDev2
namespace Go.Proofs.YtjcggkfinhkcoaaGreat
open Go.RowKit
set_option linter.unusedVariables false
set_option linter.unusedSimpArgs false

def keepBit (keep : List Int) (k : Nat) : Bool := decide (k < keep.length) && decide (keep.getD k 0 % 2 = 1)
def cutStep (keep : List Int) (W : List (Int × ByteArray)) (f : Int → Option ByteArray) (k : Nat) : Int → Option ByteArray :=
  if keepBit keep k = true then updF f (W.getD k w0).1 (W.getD k w0).2 else f
def cutL (keep : List Int) (W : List (Int × ByteArray)) (f : Int → Option ByteArray) : Nat → (Int → Option ByteArray)
  | 0 => f
  | k + 1 => cutStep keep W (cutL keep W f k) k
def DV.cut (d : DV) (keep : List Int) : DV :=
  if d.on = true then { d with on := false, armed := false, left := -1, keep := [], now := cutL keep d.waits d.lasts d.waits.length, lasts := cutL keep d.waits d.lasts d.waits.length, waits := [] }
  else { d with armed := false, left := -1, keep := [] }
def DV.cutN (d : DV) : Int := if d.on = true then d.waits.length else 0

/-- A list of ints that lies in no block that the disk may turn. -/
def KeepOut (w : World) (p : Nat) (v : Value) (l : List Int) : Prop := IntsAt w v l ∧ ∀ b o s n c, v = .slice (some ⟨b, o, s⟩) n c → l ≠ [] → ¬ Own w p b
theorem KeepOut.step {w w' : World} {p : Nat} {v : Value} {l : List Int} (h : KeepOut w p v l) (hs : DStep p w w') : KeepOut w' p v l := by
  obtain ⟨⟨a, c, rfl, h2, h3, h4⟩, h5⟩ := h
  refine ⟨⟨a, c, rfl, h2, h3, fun hn => ?_⟩, fun b o s n c' e hn ho => ?_⟩
  · obtain ⟨b, o, rfl, h6, h7⟩ := h4 hn
    have hB := hs.block b h6 (h5 b o none _ _ rfl hn)
    have hc : ∀ o', w'.cell? ⟨b, o', none⟩ = w.cell? ⟨b, o', none⟩ := fun o' => by unfold World.cell?; rw [hB]
    exact ⟨b, o, rfl, Nat.lt_of_lt_of_le h6 hs.size, fun j hj => by rw [hc]; exact h7 j hj⟩
  · obtain ⟨b', o', e2, h6, _⟩ := h4 hn
    injection e with e e3 e4
    rw [e2] at e
    injection e with e; injection e with e
    subst e
    rcases hs.own _ ho with ho | ho
    · exact h5 b' o' none _ _ (by rw [e2]) hn ho
    · omega
theorem ints_out_nil (w : World) (p : Nat) : KeepOut w p (.slice none 0 0) [] := ⟨ints_nil w, fun _ _ _ _ _ e _ => by cases e⟩
theorem DP.keep_out {w : World} {B p c : Nat} {d : DV} {kv wv : Value} {mb lb : Nat} (h : DP w B p c d kv wv mb lb) : KeepOut w p kv d.keep := by
  refine ⟨h.keep.1, fun b o s n c' e hn ho => ?_⟩
  obtain ⟨a1, a2, a3, a4⟩ := h.apart.2.2.2 b o s n c' e hn
  rw [h.own_iff] at ho
  rcases ho with ho | ho | ho | ho
  · exact a1 ho
  · exact a2 ho
  · exact a3 ho
  · exact a4 ho
theorem KeepOut.bit {w : World} {p : Nat} {a : Option Addr} {n c : Nat} {l : List Int} (h : KeepOut w p (.slice a n c) l) {k : Nat} (hk : k < l.length) : ∃ b o, a = some ⟨b, o, none⟩ ∧ b < w.heap.size ∧ w.cell? ⟨b, o + k, none⟩ = some (.int .i64 (l.getD k 0)) ∧ I64 (l.getD k 0) := by
  obtain ⟨⟨a', c', e, h2, h3, h4⟩, _⟩ := h
  injection e with e1 e2 e3
  obtain ⟨b, o, h5, h6, h7⟩ := h4 (by intro h; simp [h] at hk)
  exact ⟨b, o, e1.trans h5, h6, h7 k hk, h2 _ (by rw [List.getD_eq_getElem?_getD, List.getElem?_eq_getElem hk]; exact List.getElem_mem _)⟩
theorem and1 (x : Int) : bits .and .i64 x 1 = x % 2 := by
  show IntKind.i64.wrap ((BitVec.ofInt 64 x &&& BitVec.ofInt 64 1).toNat : Int) = _
  have h1 : (BitVec.ofInt 64 1).toNat = 1 := rfl
  rw [BitVec.toNat_and, h1, Nat.and_one_is_mod, BitVec.toNat_ofInt, IntKind.wrap_i64]
  omega

/-- In the midst of a cut: k of those that waited have been seen. -/
structure CutMid (w wr : World) (B p n2 : Nat) (d1 : DV) (kv wv : Value) (mb lb : Nat) (f : Int → Option ByteArray) : Prop where
  row : wr.heap[p]? = some (.cells #[.bool true, .int .i64 d1.writes, .bool d1.armed, .int .i64 d1.left, kv, .int .i64 d1.blocks, .map (some mb), .map (some lb), wv] 64)
  lasts : MapAt wr lb n2 f
  waits : wr.ownsRow B 94 2 wv d1.waits.length (flatW d1.waits)
  step : DStep p w wr
theorem CutMid.step_ {w wr w' : World} {B p n2 : Nat} {d1 : DV} {kv wv : Value} {mb lb : Nat} {f : Int → Option ByteArray} (h : CutMid w wr B p n2 d1 kv wv mb lb f) (hb : Below wr.heap.size wr w') : CutMid w w' B p n2 d1 kv wv mb lb f :=
  ⟨heap_step h.row hb, h.lasts.step (hb.block _ h.lasts.lt), own_frame h.waits (fun g hg => hb.block g (own_row h.waits hg).2.1), h.step.trans (DStep.of_below hb (heap_lt h.row))⟩
theorem CutMid.put {w wr w' : World} {B p n2 : Nat} {d1 : DV} {kv wv : Value} {mb lb : Nat} {f f' : Int → Option ByteArray} (h : CutMid w wr B p n2 d1 kv wv mb lb f) (hm : MapAt w' lb (n2 + 1) f') (hg : wr.grownBy w' (some lb)) : CutMid w w' B p (n2 + 1) d1 kv wv mb lb f' := by
  obtain ⟨es, ck, hl⟩ := h.lasts.map
  have hp : p ≠ lb := fun e => by have := h.row; rw [e, hl] at this; cases this
  have hrow : w'.heap[p]? = some (.cells #[.bool true, .int .i64 d1.writes, .bool d1.armed, .int .i64 d1.left, kv, .int .i64 d1.blocks, .map (some mb), .map (some lb), wv] 64) := (hg.block p (heap_lt h.row) (fun e => hp (by injection e))).trans h.row
  have ho : ∀ x : World, x.heap[p]? = some (.cells #[.bool true, .int .i64 d1.writes, .bool d1.armed, .int .i64 d1.left, kv, .int .i64 d1.blocks, .map (some mb), .map (some lb), wv] 64) → ∀ k, Own x p k ↔ k = p ∨ k = mb ∨ k = lb ∨ wv.ownBlock = some k := fun x hx k => by
    obtain ⟨_, _, _, _, _, _, c6, c7, c8⟩ := row9 hx
    unfold Own
    rw [c6, c7, c8]
    constructor
    · rintro (h1 | h1 | h1 | ⟨v, h1, h2⟩)
      · exact .inl h1
      · exact .inr (.inl (by injection h1 with h1; injection h1 with h1; injection h1 with h1; exact h1.symm))
      · exact .inr (.inr (.inl (by injection h1 with h1; injection h1 with h1; injection h1 with h1; exact h1.symm)))
      · injection h1 with h1; subst h1; exact .inr (.inr (.inr h2))
    · rintro (h1 | h1 | h1 | h1)
      · exact .inl h1
      · exact .inr (.inl (by rw [h1]))
      · exact .inr (.inr (.inl (by rw [h1])))
      · exact .inr (.inr (.inr ⟨_, rfl, h1⟩))
  refine ⟨hrow, hm, own_frame h.waits (fun g hgg => hg.block g (own_row h.waits hgg).2.1 (fun e => ?_)), h.step.trans ⟨hg.os, hg.tape, hg.output, hg.size, fun k hk hno => hg.block k hk (fun e => hno ((ho _ h.row k).2 (.inr (.inr (.inl (by injection e)))))), fun k hk => .inl ((ho _ h.row k).2 ((ho _ hrow k).1 hk))⟩⟩
  obtain ⟨_, _, cur, hc⟩ := own_row h.waits hgg
  injection e with e
  rw [e, hl] at hc; cases hc

section
variable {w : World} {B p c : Nat} {d : DV}
set_option maxRecDepth 100000 in
set_option maxHeartbeats 4000000 in
theorem cut_any (v : Value) (keep : List Int) (h : DiskAt w B p c d) (hv : KeepOut w p v keep) (hc : c ≤ 1000000) :
    Calls Tryz.prog 67 #[.pointer (some ⟨p, 0, none⟩), v] w (RetD w B p c (d.cut keep) (.int .i64 d.cutN)) := by
  have HD := Lib.hid h
  have HV := Lib.hid hv
  obtain ⟨⟨va, vc, rfl, _⟩, _⟩ := hv
  clear h
  go_enter Tryz.func67, Tryz.ntmps67
  go_wp2_with fail
  refine (arm_any (-1) _ [] HD.out (ints_nil _) (by unfold I64; omega) (by decide)).mono ?_
  rintro e w1 ⟨rfl, hd1, hs1⟩
  have HS1 := Lib.hid hs1
  have HD1 := Lib.hid hd1
  obtain ⟨d1, hd1e⟩ : ∃ d1, d1 = d.arm (-1) [] := ⟨_, rfl⟩
  have HE := Lib.hid hd1e
  rw [← hd1e] at HD1 hd1
  obtain ⟨kv, wv, mb, lb, h1⟩ := hd1
  have H1 := Lib.hid h1
  obtain ⟨wa, wc, hwv⟩ := own_form h1.waits
  have HWV := Lib.hid hwv
  obtain ⟨c0, c1, c2, c3, c4, c5, c6, c7, c8⟩ := row9 h1.blk
  rw [hwv] at c8
  clear h1 hs1 hd1e hwv
  cases hon : d1.on
  · rw [hon] at c0
    have HO := Lib.hid hon
    clear hon
    go_wp2
    go_ret
    have e2 : d.on = false := by have := HO.out; rw [HE.out] at this; exact this
    have e1 : d.cut keep = d1 := by
      rw [HE.out]; unfold DV.cut DV.arm; rw [if_neg (by rw [e2]; simp)]; rfl
    exact ⟨ret_int (by unfold DV.cutN; rw [if_neg (by rw [e2]; simp)]), by rw [e1]; exact HD1.out, HS1.out⟩
  · rw [hon] at c0
    have HO := Lib.hid hon
    obtain ⟨n, hn⟩ : ∃ n, n = d1.waits.length := ⟨_, rfl⟩
    rw [← hn] at c8 HWV
    have HN := Lib.hid hn
    obtain ⟨n2, hn2, hl2⟩ := H1.out.lasts
    have hnc : n ≤ 1000000 := by omega
    have hcc : n2 + n ≤ c := by omega
    have hrow : w1.heap[p]? = some (.cells #[.bool true, .int .i64 d1.writes, .bool d1.armed, .int .i64 d1.left, kv, .int .i64 d1.blocks, .map (some mb), .map (some lb), wv] 64) := by rw [← hon]; exact H1.out.blk
    have HM := Lib.hid (show CutMid w1 w1 B p (n2 + 0) d1 kv wv mb lb (cutL keep d1.waits d1.lasts 0) from ⟨hrow, hl2, H1.out.waits, DStep.refl _ _⟩)
    have HV1 := Lib.hid (HV.out.step HS1.out)
    clear hon hn hl2 hrow hn2
    go_wp2_with fail
    clear c0 c1 c2 c3 c4 c5 c6 c7 c8
    go_loopw [26] (fun x wr => ∃ k, k ≤ n ∧ x = .int .i64 k ∧ Hid (CutMid w1 wr B p (n2 + k) d1 kv wv mb lb (cutL keep d1.waits d1.lasts k))) (fun x _ => n - (intOf x).toNat)
    case atStart => exact ⟨0, Nat.zero_le _, rfl, HM⟩
    case round =>
      obtain ⟨k, hk, rfl, HM⟩ := hrel
      by_cases hlt : k < n
      · obtain ⟨g, cap, ev, _⟩ := HM.out.waits.form (by have := HN.out; omega)
        rw [HWV.out] at ev
        injection ev with ev1 ev2 ev3
        subst ev1 ev3
        obtain ⟨x0, x1⟩ : wr.cell? ⟨g, k * 2, none⟩ = some (.int .i64 (d1.waits.getD k w0).1) ∧ wr.cell? ⟨g, k * 2 + 1, none⟩ = some (.string (d1.waits.getD k w0).2) := by
          have hw := HM.out.waits
          rw [HWV.out, ← HN.out] at hw
          have hkl : k < d1.waits.length := by rw [← HN.out]; exact hlt
          obtain ⟨q0, q1⟩ := flatW_at d1.waits k hkl
          exact ⟨(hw.cellAt (k * 2) (by omega)).trans q0, (hw.cellAt (k * 2 + 1) (by omega)).trans q1⟩
        have hokk := H1.out.ok.2.2.2 (d1.waits.getD k w0) (by
          have hkl : k < d1.waits.length := by rw [← HN.out]; exact hlt
          rw [List.getD_eq_getElem?_getD, List.getElem?_eq_getElem hkl]; exact List.getElem_mem _)
        have HST := Lib.hid (show cutL keep d1.waits d1.lasts (k + 1) = if keepBit keep k = true then updF (cutL keep d1.waits d1.lasts k) (d1.waits.getD k w0).1 (d1.waits.getD k w0).2 else cutL keep d1.waits d1.lasts k from rfl)
        obtain ⟨at_, hat⟩ : ∃ x, x = (d1.waits.getD k w0).1 := ⟨_, rfl⟩
        obtain ⟨data, hdt⟩ : ∃ x, x = (d1.waits.getD k w0).2 := ⟨_, rfl⟩
        rw [← hat] at x0 hokk HST
        rw [← hdt] at x1 hokk HST
        have HOK := Lib.hid hokk
        have HT := Lib.hid (show (wr.alloc (.cells #[.int .i64 at_, .string data] 94)).heap[wr.heap.size]? = some (.cells #[.int .i64 at_, .string data] 94) from heap_new_at rfl)
        have HM1 := Lib.hid (HM.out.step_ (bel_new wr (.cells #[.int .i64 at_, .string data] 94)))
        have hz2 : data.size ≤ 9223372036854775807 := hokk.2
        clear hat hdt hokk ev2
        by_cases g1 : k < keep.length
        · obtain ⟨kb, ko, hva, hkb, y, hyI⟩ := (HV1.out.step HM.out.step).bit g1
          subst hva
          obtain ⟨x, hx⟩ : ∃ x, x = keep.getD k 0 := ⟨_, rfl⟩
          rw [← hx] at y hyI
          have HX := Lib.hid hx
          have hand := and1 x
          unfold I64 at hyI
          have g1' : (k : Int) < keep.length := by omega
          clear hx
          by_cases hb : x % 2 = 1
          · have HBIT := Lib.hid (show keepBit keep k = true by unfold keepBit; rw [← HX.out]; simp; exact ⟨g1, hb⟩)
            rw [hb] at hand
            clear hb
            go_wp2_with fail
            obtain ⟨tb, htb⟩ : ∃ tb, tb = wr.heap.size := ⟨_, rfl⟩
            rw [← htb] at HT ⊢
            obtain ⟨w2, hw2⟩ : ∃ w2, w2 = wr.alloc (.cells #[.int .i64 at_, .string data] 94) := ⟨_, rfl⟩
            rw [← hw2] at HT HM1 ⊢
            have HM2 := HM1
            have HT2 := HT
            clear hw2 htb x0 x1 y
            obtain ⟨c0, c1, c2, c3, c4, c5, c6, c7, c8⟩ := row9 HM2.out.row
            obtain ⟨t0, t1⟩ : w2.cell? ⟨tb, 0, none⟩ = some (.int .i64 at_) ∧ w2.cell? ⟨tb, 1, none⟩ = some (.string data) := by
              constructor <;> (rw [cell_of_row w2 tb _ _ _ _ HT2.out]; rfl)
            refine wp_region_inv (R := Blw) (S := (fun w' => (CutMid w1 w' B p (n2 + k) d1 kv wv mb lb (cutL keep d1.waits d1.lasts k) ∧ w'.heap[tb]? = some (.cells #[.int .i64 at_, .string data] 94)) ∧ w'.cell? ⟨p, 7, none⟩ = some (.map (some lb)) ∧ w'.cell? ⟨tb, 0, none⟩ = some (.int .i64 at_) ∧ w'.cell? ⟨tb, 1, none⟩ = some (.string data))) 8 (Spec.val ?_ :: Spec.val ?_ :: Spec.val ?_ :: Spec.val ?_ :: Spec.val ?_ :: Spec.val ?_ :: Spec.val ?_ :: Spec.val ?_ :: []) (by kernel_rfl) (by kernel_rfl) rfl (fun w1 w2 h hb => ⟨⟨h.1.1.step_ hb, heap_step h.1.2 hb⟩, cell_step h.2.1 hb, cell_step h.2.2.1 hb, cell_step h.2.2.2 hb⟩) (⟨⟨HM2.out.step_ (Below.refl _ _).drew, HT2.out⟩, c7, t0, t1⟩) ?hm1
            case' hm1 => skip
            refine inv_val (i := 0) (by kernel_rfl) rfl rfl (fun w1 hS hd K hK => ?_) ?_
            · (try dsimp only at hS); go_simp; exact hK.out _ _ (by simp only [Act.put, List.setIfInBounds_toArray, List.set_cons_zero, List.set_cons_succ, List.nil_append, List.cons_append]; rfl) (Below.refl _ _)
            simp only [Act.put, List.setIfInBounds_toArray, List.set_cons_zero, List.set_cons_succ, List.nil_append, List.cons_append]
            refine inv_val (i := 1) (by kernel_rfl) rfl rfl (fun w1 hS hd K hK => ?_) ?_
            · (try dsimp only at hS); go_simp; exact hK.out _ _ (by simp only [Act.put, List.setIfInBounds_toArray, List.set_cons_zero, List.set_cons_succ, List.nil_append, List.cons_append]; rfl) (Below.refl _ _)
            simp only [Act.put, List.setIfInBounds_toArray, List.set_cons_zero, List.set_cons_succ, List.nil_append, List.cons_append]
            refine inv_val (i := 2) (by kernel_rfl) rfl rfl (fun w1 hS hd K hK => ?_) ?_
            · (try dsimp only at hS); go_simp; exact hK.out _ _ (by simp only [Act.put, List.setIfInBounds_toArray, List.set_cons_zero, List.set_cons_succ, List.nil_append, List.cons_append]; rfl) (Below.refl _ _)
            simp only [Act.put, List.setIfInBounds_toArray, List.set_cons_zero, List.set_cons_succ, List.nil_append, List.cons_append]
            refine inv_val (i := 3) (by kernel_rfl) rfl rfl (fun w1 hS hd K hK => ?_) ?_
            · (try dsimp only at hS); go_simp; exact hK.out _ _ (by simp only [Act.put, List.setIfInBounds_toArray, List.set_cons_zero, List.set_cons_succ, List.nil_append, List.cons_append]; rfl) (Below.refl _ _)
            simp only [Act.put, List.setIfInBounds_toArray, List.set_cons_zero, List.set_cons_succ, List.nil_append, List.cons_append]
            refine inv_val (i := 4) (by kernel_rfl) rfl rfl (fun w1 hS hd K hK => ?_) ?_
            · (try dsimp only at hS); go_simp; exact hK.out _ _ (by simp only [Act.put, List.setIfInBounds_toArray, List.set_cons_zero, List.set_cons_succ, List.nil_append, List.cons_append]; rfl) (Below.refl _ _)
            simp only [Act.put, List.setIfInBounds_toArray, List.set_cons_zero, List.set_cons_succ, List.nil_append, List.cons_append]
            refine inv_val (i := 5) (by kernel_rfl) rfl rfl (fun w1 hS hd K hK => ?_) ?_
            · (try dsimp only at hS); go_simp; exact hK.out _ _ (by simp only [Act.put, List.setIfInBounds_toArray, List.set_cons_zero, List.set_cons_succ, List.nil_append, List.cons_append]; rfl) (Below.refl _ _)
            simp only [Act.put, List.setIfInBounds_toArray, List.set_cons_zero, List.set_cons_succ, List.nil_append, List.cons_append]
            refine inv_val (i := 6) (by kernel_rfl) rfl rfl (fun w1 hS hd K hK => ?_) ?_
            · (try dsimp only at hS); go_simp; exact hK.out _ _ (by simp only [Act.put, List.setIfInBounds_toArray, List.set_cons_zero, List.set_cons_succ, List.nil_append, List.cons_append]; rfl) (Below.refl _ _)
            simp only [Act.put, List.setIfInBounds_toArray, List.set_cons_zero, List.set_cons_succ, List.nil_append, List.cons_append]
            refine inv_val (i := 7) (by kernel_rfl) rfl rfl (fun w1 hS hd K hK => ?_) ?_
            · (try dsimp only at hS); go_simp; exact hK.out _ _ (by simp only [Act.put, List.setIfInBounds_toArray, List.set_cons_zero, List.set_cons_succ, List.nil_append, List.cons_append]; rfl) (Below.refl _ _)
            simp only [Act.put, List.setIfInBounds_toArray, List.set_cons_zero, List.set_cons_succ, List.nil_append, List.cons_append]
            refine inv_tail1 (by kernel_rfl) rfl (fun w6 hS hd => ?_)
            have HS := Lib.hid hS.1.1
            clear hS hd c0 c1 c2 c3 c4 c5 c6 c7 c8 t0 t1 HM1 HM2 HT HT2
            refine wpList_put rfl (.tmp 46) (.tmp 48) (.tmp 50) rfl lb (n2 + k) _ at_ data rfl rfl rfl HS.out.lasts (by omega) HOK.out.1 HOK.out.2 ?_
            intro w7 hm7 hg7
            have HM7 := Lib.hid (HS.out.put hm7.out hg7.out)
            clear hm7 hg7
            go_wp2
            go_roundw
            case rel => exact ⟨k + 1, by omega, by go_num, Lib.hid (by rw [HST.out, if_pos HBIT.out]; exact HM7.out)⟩
            case measure => simp [intOf]; omega
          · have HBIT := Lib.hid (show ¬ keepBit keep k = true by unfold keepBit; rw [← HX.out]; simp; intro _; omega)
            have hb0 : x % 2 = 0 := by omega
            rw [hb0] at hand
            clear hb hb0
            go_wp2
            go_roundw
            case rel => exact ⟨k + 1, by omega, by go_num, Lib.hid (by rw [HST.out, if_neg HBIT.out]; exact ⟨HM1.out.row, HM1.out.lasts.mono (by omega), HM1.out.waits, HM1.out.step⟩)⟩
            case measure => simp [intOf]; omega
        · have HBIT := Lib.hid (show ¬ keepBit keep k = true by unfold keepBit; simp; intro h; omega)
          have g1' : (keep.length : Int) ≤ k := by omega
          clear g1
          go_wp2
          go_roundw
          case rel => exact ⟨k + 1, by omega, by go_num, Lib.hid (by rw [HST.out, if_neg HBIT.out]; exact ⟨HM1.out.row, HM1.out.lasts.mono (by omega), HM1.out.waits, HM1.out.step⟩)⟩
          case measure => simp [intOf]; omega
      · have hkn : k = n := by omega
        subst hkn
        obtain ⟨c0, c1, c2, c3, c4, c5, c6, c7, c8⟩ := row9 HM.out.row
        clear hlt
        go_wp2_with fail
        refine (mclone_any lb _ _ _ HM.out.lasts).mono ?_
        rintro e w8 ⟨nb, rfl, hnb, hm8, hb⟩
        have HM8 := Lib.hid (HM.out.step_ hb)
        have HN8 := Lib.hid hm8
        have HNB := Lib.hid hnb
        have HB8 := Lib.hid hb
        clear hm8 hb c0 c1 c2 c3 c4 c5 c6 c7 c8
        obtain ⟨f0, f1, f2, f3, f4, f5, f6, f7, f8⟩ := free9 HM8.out.row
        obtain ⟨c0, c1, c2, c3, c4, c5, c6, c7, c8⟩ := row9 HM8.out.row
        go_wp2
        go_ret
        have hrow8 := HM8.out.row
        obtain ⟨L, hL⟩ : ∃ L, L = cutL keep d1.waits d1.lasts k := ⟨_, rfl⟩
        have hnbs : nb < w8.heap.size := HN8.out.lt
        have hpn : nb ≠ p := by have := HNB.out; have := heap_lt HM.out.row; omega
        have hlbw := HM.out.lasts.lt
        have hlbp : lb ≠ p := by
          obtain ⟨es, ck, hl⟩ := HM.out.lasts.map
          intro e; have := HM.out.row; rw [← e, hl] at this; cases this
        obtain ⟨w9, hw9⟩ : ∃ w9, w9 = ((w8.setCell ⟨p, 6, none⟩ (.map (some nb))).setCell ⟨p, 8, none⟩ (.slice none 0 0)).setCell ⟨p, 0, none⟩ (.bool false) := ⟨_, rfl⟩
        rw [← hw9]
        have hfr : ∀ k, k ≠ p → w9.heap[k]? = w8.heap[k]? := fun k hk => by rw [hw9, set_heap_other _ hk, set_heap_other _ hk, set_heap_other _ hk]
        have hsz9 : w9.heap.size = w8.heap.size := by rw [hw9]; simp
        have hrow9 : w9.heap[p]? = some (.cells #[.bool false, .int .i64 d1.writes, .bool d1.armed, .int .i64 d1.left, kv, .int .i64 d1.blocks, .map (some nb), .map (some lb), .slice none 0 0] 64) := by
          rw [hw9, set_heap (set_heap (set_heap hrow8 _) _) _]; rfl
        have hok1 := H1.out.ok
        have hk1 : d1.keep = [] := by rw [HE.out]; rfl
        have hke := H1.out.keep
        rw [hk1] at hke
        have e2 : d.on = true := by have := HO.out; rw [HE.out] at this; exact this
        have e1 : d.cut keep = { d1 with on := false, now := L, lasts := L, waits := [] } := by
          rw [hL, HN.out, HE.out]; unfold DV.cut DV.arm; rw [if_pos e2]; rfl
        have hDP : DP w9 B p c (d.cut keep) kv (.slice none 0 0) nb lb := by
          rw [e1]
          refine ⟨hrow9, ?_, ?_, ?_, World.ownsRow_nil _ _ _ _, by omega, ⟨H1.out.ge.1, by have := HNB.out; have := H1.out.ge.1; have := heap_lt HM.out.row; omega, H1.out.ge.2.2⟩, ⟨hok1.1, hok1.2.1, hok1.2.2.1, by simp⟩⟩
          · show KeepAt w9 kv d1.keep
            rw [hk1]
            exact hke.step (by have := HM.out.step.size; have := HB8.out.size; omega) (fun _ _ _ _ _ _ h => absurd rfl h)
          · show MapAt w9 nb c L
            rw [hL]; exact (HN8.out.step (hfr nb hpn)).mono (by omega)
          · refine ⟨n2 + k, by simp; omega, ?_⟩
            show MapAt w9 lb (n2 + k) L
            rw [hL]; exact HM8.out.lasts.step (hfr lb hlbp)
        refine ⟨ret_int (by unfold DV.cutN; rw [if_pos e2]; have := HN.out; rw [HE.out] at this; rw [this]; rfl), ⟨_, _, _, _, hDP⟩, HS1.out.trans (HM.out.step.trans ?_)⟩
        have hb8 := HB8.out
        refine ⟨by rw [hw9]; exact hb8.os, by rw [hw9]; exact hb8.tape, by rw [hw9]; exact hb8.output, by have := hb8.size; omega, fun j hj hno => ?_, fun j hj => ?_⟩
        · rw [hfr j (fun e => hno (.inl e)), hb8.block j hj]
        · obtain ⟨_, _, _, _, _, _, q6, q7, q8⟩ := row9 hrow9
          unfold Own at hj
          rw [q6, q7, q8] at hj
          rcases hj with h1 | h1 | h1 | ⟨v, h1, h2⟩
          · exact .inl (.inl h1)
          · injection h1 with h1; injection h1 with h1; injection h1 with h1
            have := HNB.out
            exact .inr (by omega)
          · injection h1 with h1; injection h1 with h1; injection h1 with h1
            obtain ⟨_, _, _, _, _, _, _, c7', _⟩ := row9 HM.out.row
            exact .inl (.inr (.inr (.inl (by rw [c7', h1]))))
          · injection h1 with h1; subst h1; cases h2
end
end Go.Proofs.YtjcggkfinhkcoaaGreat
