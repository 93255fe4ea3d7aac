/-
  What was put is got; the contract of the law package's alive.
-/
import Derived.Test.YtabkeggcaacldaaSuper6
namespace Go.Proofs.Ytabkeggcaacldaa
open Go.RowKit
set_option linter.unusedVariables false
set_option linter.unusedSimpArgs false

theorem closeS_data (s : ByteArray) : (closeS s).data.toList = s.data.toList ++ lowBytes (crcSum s.data.toList) 4 := by simp [closeS, fourS, strOf]
theorem closeS_head (s : ByteArray) : (closeS s).extract 0 s.size = s := data_inj (by rw [Lib.extract_data, closeS_data]; simp)
theorem closeS_tail (s : ByteArray) : (closeS s).extract s.size (s.size + 4) = fourS (crcSum s.data.toList) := data_inj (by
  rw [Lib.extract_data, closeS_data, List.take_of_length_le (by simp [lowBytes_length]), show s.size = s.data.toList.length by simp, List.drop_left]
  simp [fourS, strOf])
theorem leVal_low : ∀ (n : Nat) (v : Int), 0 ≤ v → v < 256 ^ n → leVal (lowBytes v n) = v
  | 0, v, h0, h1 => by simp at h1; simp [lowBytes, leVal]; omega
  | n + 1, v, h0, h1 => by
    have h2 : v < 256 * 256 ^ n := by rw [Int.mul_comm, ← Int.pow_succ]; exact h1
    have h3 : v / 256 < 256 ^ n := by omega
    have h4 : (v % 256).toNat < 256 := by omega
    simp only [lowBytes, leVal, leVal_low n (v / 256) (by omega) h3, UInt8.toNat_ofNat', Nat.mod_eq_of_lt h4]
    omega
theorem rd8_app (l1 l2 : List UInt8) (v : Int) (k : Nat) (hk : l1.length = k) (h0 : 0 ≤ v) (h1 : v ≤ 18446744073709551615) : rd8 (l1 ++ (lowBytes v 8 ++ l2)) k = v := by
  subst hk
  unfold rd8
  rw [List.drop_left, List.take_left' (lowBytes_length 8 v)]
  exact leVal_low 8 v h0 (by have : (256 : Int) ^ 8 = 18446744073709551616 := by decide
                             omega)
theorem i64of_u64of (x : Int) (h0 : -9223372036854775808 ≤ x) (h1 : x ≤ 9223372036854775807) : i64of (u64of x) = x := by unfold i64of u64of; split <;> omega
theorem full_eq (s : SV) : ∃ z, fullL s = lowBytes s.gen 8 ++ (lowBytes (u64of s.blocks) 8 ++ (lowBytes (u64of s.bytes) 8 ++ z)) := ⟨List.replicate (244 - (bodyL s).length) 0, by
  unfold fullL
  generalize (244 - (bodyL s).length) = m
  simp [bodyL, wordBytes, intBytes]⟩
theorem svOf_full (s : SV) (h : s.ok) : svOf (fullL s) = s := by
  obtain ⟨g, b, y⟩ := s
  unfold SV.ok I64 at h
  dsimp only at h
  obtain ⟨h1, h2, h3⟩ := h
  have u := fun x : Int => show 0 ≤ u64of x ∧ u64of x ≤ 18446744073709551615 by unfold u64of; omega
  obtain ⟨z, hz⟩ := full_eq ⟨g, b, y⟩
  have e0 : rd8 (fullL ⟨g, b, y⟩) 0 = g := by rw [hz]; exact rd8_app [] _ _ 0 rfl h1.1 h1.2
  have e1 : rd8 (fullL ⟨g, b, y⟩) 8 = u64of b := by rw [hz]; exact rd8_app _ _ _ 8 (lowBytes_length _ _) (u _).1 (u _).2
  have e2 : rd8 (fullL ⟨g, b, y⟩) 16 = u64of y := by
    rw [hz, ← List.append_assoc]; exact rd8_app _ _ _ 16 (by simp [lowBytes_length]) (u _).1 (u _).2
  unfold svOf
  rw [e0, e1, e2, i64of_u64of b h2.1 h2.2, i64of_u64of y h3.1 h3.2]
set_option maxRecDepth 100000 in
theorem put_open (s : SV) : openE (putS s) = true ∧ (putS s).extract 0 252 = magicB ++ strOf (fullL s) := by
  have h1 := closeS_head (magicB ++ strOf (fullL s))
  have h2 := closeS_tail (magicB ++ strOf (fullL s))
  rw [pre_size] at h1 h2
  unfold openE putS
  rw [show (252 + 4) = 256 from rfl] at h2
  rw [h1, h2]
  exact ⟨by simp, rfl⟩
set_option maxRecDepth 100000 in
theorem getS_put (s : SV) (h : s.ok) : getS (putS s) = s := by
  unfold getS bodyOf
  rw [(put_open s).2]
  have : ((magicB ++ strOf (fullL s)).extract 8 (magicB ++ strOf (fullL s)).size).data.toList = fullL s := by
    rw [extract_list, List.take_of_length_le (by simp)]
    rw [ByteArray.data_append, Array.toList_append]
    exact List.drop_left' (by rfl)
  rw [this, svOf_full s h]
theorem getR_put (s : SV) (h : s.ok) (hm : s.may) : getR (putS s) = (s, 0) := by
  unfold getR
  rw [if_neg (by rw [putS_size]; simp), if_neg (by rw [(put_open s).1]; simp), getS_put s h, if_pos ⟨hm, rfl⟩]
theorem getR_cases (b : ByteArray) : ((getR b).2 = 0 ∧ (getR b).1.may ∧ putS (getR b).1 = b) ∨ ((getR b).2 ≠ 0 ∧ (getR b).1 = SV.zero) := by
  unfold getR
  split
  · exact .inr ⟨by decide, rfl⟩
  · split
    · exact .inr ⟨by decide, rfl⟩
    · split
      · rename_i h; exact .inl ⟨rfl, h⟩
      · exact .inr ⟨by decide, rfl⟩
theorem gen_nn (b : ByteArray) : 0 ≤ (getR b).1.gen := (getR_ok b).1.1
theorem best_one (d : DV) : d.best 1 = (getR (d.read 0).1).1 := by
  show (if (getR (d.read ((0 : Nat) : Int)).1).2 = 0 ∧ SV.zero.gen < (getR (d.read ((0 : Nat) : Int)).1).1.gen then (getR (d.read ((0 : Nat) : Int)).1).1 else SV.zero) = _
  rw [show ((0 : Nat) : Int) = 0 from rfl]
  rcases getR_cases (d.read 0).1 with ⟨h1, h2, _⟩ | ⟨h1, h2⟩
  · have := gen_nn (d.read 0).1
    have h3 := h2.2.1
    rw [if_pos ⟨h1, by show (0 : Int) < _; omega⟩]
  · rw [if_neg (fun h => h1 h.1), h2]
theorem best_two (d : DV) : d.best 2 = if (getR (d.read 0).1).1.gen < (getR (d.read 1).1).1.gen then (getR (d.read 1).1).1 else (getR (d.read 0).1).1 := by
  show (if (getR (d.read ((1 : Nat) : Int)).1).2 = 0 ∧ (d.best 1).gen < (getR (d.read ((1 : Nat) : Int)).1).1.gen then (getR (d.read ((1 : Nat) : Int)).1).1 else d.best 1) = _
  rw [show ((1 : Nat) : Int) = 1 from rfl, best_one]
  rcases getR_cases (d.read 1).1 with ⟨h1, h2, _⟩ | ⟨h1, h2⟩
  · by_cases h : (getR (d.read 0).1).1.gen < (getR (d.read 1).1).1.gen
    · rw [if_pos ⟨h1, h⟩, if_pos h]
    · rw [if_neg (fun h' => h h'.2), if_neg h]
  · have := gen_nn (d.read 0).1
    rw [if_neg (fun h => h1 h.1), if_neg (by rw [h2]; show ¬ _ < (0 : Int); omega)]
set_option maxRecDepth 100000 in
theorem getR_zero : (getR zeroB).1 = SV.zero := by
  rcases getR_cases zeroB with ⟨h1, h2, h3⟩ | ⟨h1, h2⟩
  · exfalso
    have hg : getS zeroB = getS (putS (getR zeroB).1) := by rw [h3]
    rw [getS_put _ (getR_ok _)] at hg
    have : (getS zeroB).gen = 0 := by decide +kernel
    rw [hg] at this
    exact h2.2.1 this
  · exact h2

section
variable {d : DV}
theorem write_ok {k : Int} {s : ByteArray} (h0 : d.on = true) (h1 : s.size = 256) (h2 : 0 ≤ k ∧ k < d.blocks) (h3 : d.armed = true → 0 < d.left) : d.write k s = (d.spent.put k s, 0) := by
  unfold DV.write
  rw [if_neg (by rw [h0]; simp), if_neg (by simpa using h1), if_neg (by omega), if_neg (by intro h; have := h3 h.1; omega)]
theorem flush_ok (h0 : d.on = true) (h3 : d.armed = true → 0 < d.left) : d.flush = (d.spent.flushed, 0) := by
  unfold DV.flush
  rw [if_neg (by rw [h0]; simp), if_neg (by intro h; have := h3 h.1; omega)]
/-- A disk behind a Write of a superblock. -/
def DV.swd (d : DV) (s : SV) : DV := (d.spent.flushed.spent.put (s.gen % 2) (putS s)).spent.flushed
theorem sw_ok {s : SV} (h0 : d.on = true) (h3 : d.armed = false) (hb : 2 ≤ d.blocks) (hok : s.ok) (hm : s.may) : d.sw s = (d.swd s, 0) := by
  have hg := hok.1.1
  have e1 : d.flush = (d.spent.flushed, 0) := flush_ok h0 (by rw [h3]; intro h; cases h)
  have e2 : d.spent.flushed.write (s.gen % 2) (putS s) = (d.spent.flushed.spent.put (s.gen % 2) (putS s), 0) := write_ok h0 (putS_size s) ⟨by omega, by show s.gen % 2 < d.blocks; omega⟩ (by show d.armed = true → _; rw [h3]; intro h; cases h)
  have e3 : (d.spent.flushed.spent.put (s.gen % 2) (putS s)).flush = (d.swd s, 0) := flush_ok h0 (by show d.armed = true → _; rw [h3]; intro h; cases h)
  unfold DV.sw
  rw [if_pos hm, e1, if_pos rfl, e2, if_pos rfl, e3]
/-- A block's bytes, with power. -/
theorem read_now {k : Int} (h0 : d.on = true) (h1 : 0 ≤ k ∧ k < d.blocks) : (d.read k).1 = (d.now k).getD zeroB := by
  unfold DV.read readO
  rw [if_neg (by rw [h0]; decide), if_neg (by omega)]
  cases d.now k <;> rfl
theorem sr_on (h0 : d.on = true) : d.sr = if (d.best 2).gen = 0 ∨ (d.best 2).blocks ≠ d.blocks then (SV.zero, 28) else (d.best 2, 0) := if_neg (by rw [h0]; decide)
def DV.small (d : DV) : Prop := ∀ k b, d.now k = some b → b.size = 256
theorem read_small (h : d.small) (k : Int) : (d.read k).1.size ≤ 1000000 := by
  unfold DV.read readO
  split
  · decide
  · split
    · decide
    · split
      · rename_i b e; rw [h _ _ e]; decide
      · show zeroB.size ≤ _; decide +kernel
theorem put_small {k : Int} {s : ByteArray} (h : d.small) (hs : s.size = 256) : (d.put k s).small := by
  intro j b e
  have e : updF d.now k s j = some b := e
  unfold updF at e
  split at e
  · injection e with e; rw [← e]; exact hs
  · exact h _ _ e
theorem swd_small {s : SV} (h : d.small) : (d.swd s).small := put_small (d := d.spent.flushed.spent) h (putS_size s)
theorem fresh_small (n : Int) : (DV.fresh n).small := by intro k b e; cases e
end
theorem row7 {w : World} {b : Nat} {T : TypeId} {x0 x1 x2 x3 x4 x5 x6 : Value} (h : w.heap[b]? = some (.cells #[x0, x1, x2, x3, x4, x5, x6] T)) :
    w.cell? ⟨b, 0, none⟩ = some x0 ∧ w.cell? ⟨b, 1, none⟩ = some x1 ∧ w.cell? ⟨b, 2, none⟩ = some x2 ∧ w.cell? ⟨b, 3, none⟩ = some x3 ∧ w.cell? ⟨b, 4, none⟩ = some x4 ∧ w.cell? ⟨b, 5, none⟩ = some x5 ∧ w.cell? ⟨b, 6, none⟩ = some x6 := by
  refine ⟨?_, ?_, ?_, ?_, ?_, ?_, ?_⟩ <;> (rw [cell_of_row w b _ _ _ _ h]; rfl)
def sA : SV := ⟨3, 64, 9⟩
theorem sA_ok : sA.ok := by unfold sA SV.ok I64; dsimp only; omega
theorem sA_may : sA.may := by unfold sA SV.may planOk; dsimp only; omega
set_option maxRecDepth 100000 in
theorem alive_sr : ((DV.fresh 64).swd sA).srV = .tuple #[sA.val, .int .i64 0] := by
  unfold DV.srV
  have h0 : ((DV.fresh 64).swd sA).on = true := rfl
  have r0 : (((DV.fresh 64).swd sA).read 0).1 = zeroB := by rw [read_now h0 ⟨by decide, by decide⟩]; rfl
  have r1 : (((DV.fresh 64).swd sA).read 1).1 = putS sA := by rw [read_now h0 ⟨by decide, by decide⟩]; rfl
  have hb : ((DV.fresh 64).swd sA).best 2 = sA := by
    rw [best_two, r0, r1, getR_zero, getR_put sA sA_ok sA_may, if_pos (by decide)]
  rw [sr_on h0, hb, if_neg (by show ¬ ((3 : Int) = 0 ∨ (64 : Int) ≠ 64); decide)]

set_option maxRecDepth 100000 in
set_option maxHeartbeats 4000000 in
theorem alive_any (w : World) : Calls Try.prog 9 #[] w (BoolPost w true) := by
  have E1 := Lib.hid (show (DV.fresh 64).sw sA = ((DV.fresh 64).swd sA, 0) from sw_ok rfl rfl (by decide) sA_ok sA_may)
  have E2 := Lib.hid alive_sr
  go_enter Try.func9, Try.ntmps9
  go_wp2_with fail
  refine (plan_yes 64 _ (by unfold planOk; omega)).mono ?_
  rintro e w1 ⟨rfl, hb1⟩
  rw [show layV 64 = .agg #[.int .i64 64, .int .i64 2, .int .i64 18, .int .i64 28, .int .i64 10, .int .i64 38, .int .i64 13] by unfold layV; rfl]
  have HB1 := Lib.hid hb1
  clear hb1
  go_wp2_with fail
  refine (new_any 64 _ (by omega)).mono ?_
  rintro e w2 ⟨q, rfl, hD, hb2⟩
  have HX2 := Lib.hid (heap_step (heap_alloc_new w1 (.cells #[.int .i64 64, .int .i64 2, .int .i64 18, .int .i64 28, .int .i64 10, .int .i64 38, .int .i64 13] 27)) hb2)
  have HD2 := Lib.hid hD
  have HB2 := Lib.hid (chain HB1.out (chain (bel_new w1 _) hb2))
  clear hD hb2
  go_wp2_with fail
  refine (swrite_any sA HD2.out (by decide) (by decide) sA_ok).mono ?_
  rintro e w3 ⟨rfl, hd, hs⟩
  rw [E1.out] at hd ⊢
  have HD3 := Lib.hid hd
  have hlow := HD2.out.below hs
  have HB3 := Lib.hid (HB2.out.trans (hlow.mono (by simp; have := HB1.out.size; omega)))
  have HX3 := Lib.hid (below_at hlow (by simp) HX2.out)
  clear hd hs hlow
  go_wp2_with fail
  refine (sread_any HD3.out (by decide) (fun k => read_small (swd_small (fresh_small 64)) _)).mono ?_
  rintro e w4 ⟨rfl, hb4⟩
  rw [E2.out]
  simp only [SV.val, sA]
  have HB4 := Lib.hid (chain HB3.out hb4)
  have hx := heap_step HX3.out hb4
  have hlt := heap_lt hx
  obtain ⟨_, c1, _, _, c4, c5, c6⟩ := row7 hx
  clear hb4 hx
  go_wp2
  go_ret
  exact ⟨rfl, chain HB4.out (bel_new _ _)⟩
end Go.Proofs.Ytabkeggcaacldaa
