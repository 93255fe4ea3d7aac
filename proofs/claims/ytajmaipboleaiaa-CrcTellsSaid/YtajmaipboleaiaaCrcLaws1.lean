/-
  What was closed is opened; the walks of alive and of the law CrcParts.
-/
import Derived.Test.YtajmaipboleaiaaCrc
import Derived.Lib.MinMax
namespace Go.Proofs.Ytajmaipboleaiaa
open Go.RowKit
set_option linter.unusedVariables false
set_option linter.unusedSimpArgs false

theorem closeS_data (s : ByteArray) : (closeS s).data.toList = s.data.toList ++ lowBytes (crcSum s.data.toList) 4 := by simp [closeS, fourS, strOf]
theorem closeS_size (s : ByteArray) : (closeS s).size = s.size + 4 := by
  have := congrArg List.length (closeS_data s)
  simp only [List.length_append, lowBytes_length] at this
  simpa using this
theorem closeS_head (s : ByteArray) : (closeS s).extract 0 s.size = s := data_inj (by rw [Lib.extract_data, closeS_data]; simp)
theorem closeS_tail (s : ByteArray) : (closeS s).extract s.size (s.size + 4) = fourS (crcSum s.data.toList) := data_inj (by
  rw [Lib.extract_data, closeS_data, show s.size = s.data.toList.length by simp, List.drop_left]
  simp [fourS, strOf, List.take_of_length_le, lowBytes_length])
theorem open_close (s : ByteArray) (w : World) (hs : s.size ≤ 1000000) : Calls Try.prog 11 #[.string (closeS s)] w (RetB w (.tuple #[.string s, .int .i64 0])) := by
  have := open_long (closeS s) s _ s.size w (closeS_size s) hs (closeS_head s) (closeS_tail s)
  rwa [if_pos rfl] at this

/-- A Sum lies in block q: what was added so far are these bytes. -/
def SumOf (w : World) (q : Nat) (l : List UInt8) : Prop := SumAt w q (crcSum l)
theorem sum_new (w : World) : SumOf (w.alloc (.cells #[.int .u32 0] 28)) w.heap.size [] := heap_alloc_new _ _
theorem SumOf.step {w w' : World} {q : Nat} {l : List UInt8} (h : SumOf w q l) (hb : Below w.heap.size w w') : SumOf w' q l := heap_step h hb
theorem SumOf.lt {w : World} {q : Nat} {l : List UInt8} (h : SumOf w q l) : q < w.heap.size := heap_lt h
theorem add_at' {w : World} {q : Nat} {l : List UInt8} {v : Value} {ls : List ByteArray} (h : SumOf w q l) (hv : TextsAt w v ls) :
    Calls Try.prog 9 #[.pointer (some ⟨q, 0, none⟩), v] w (fun e' w' => e' = .returned (.tuple #[]) ∧ SumOf w' q (l ++ joinT ls) ∧ Below q w w') := by
  refine (add_any q (crcL 4294967295 l) v ls w h (crcL_lt l (by omega)) hv).mono ?_
  rintro e w1 ⟨rfl, hq, hw⟩
  exact ⟨rfl, by unfold SumOf crcSum; rw [crcL_append]; exact hq, by rw [hw]; exact bel_set (Below.refl _ _) (Nat.le_refl _)⟩
theorem value_at {w : World} {q : Nat} {l : List UInt8} (h : SumOf w q l) : Calls Try.prog 15 #[.pointer (some ⟨q, 0, none⟩)] w (RetB w (.int .u32 (crcSum l))) := value_any q _ w h

/-- A Sum that was made since w0, and all else that was there. -/
structure SS (w0 : World) (q : Nat) (l : List UInt8) (w : World) : Prop where
  s : SumOf w q l
  bel : Below w0.heap.size w0 w
  le : w0.heap.size ≤ q
theorem SS.step {w0 w w' : World} {q : Nat} {l : List UInt8} (h : SS w0 q l w) (hb : Below w.heap.size w w') : SS w0 q l w' := ⟨h.s.step hb, chain h.bel hb, h.le⟩
theorem SS.new {w0 w : World} (h : Below w0.heap.size w0 w) : SS w0 w.heap.size [] (w.alloc (.cells #[.int .u32 0] 28)) := ⟨sum_new w, chain h (bel_new _ _), h.size⟩
theorem add_ss {w0 w : World} {q : Nat} {l : List UInt8} {v : Value} {ls : List ByteArray} (h : SS w0 q l w) (hv : TextsAt w v ls) :
    Calls Try.prog 9 #[.pointer (some ⟨q, 0, none⟩), v] w (fun e' w' => e' = .returned (.tuple #[]) ∧ SS w0 q (l ++ joinT ls) w') := by
  refine (add_at' h.s hv).mono ?_
  rintro e w1 ⟨rfl, hq, hb⟩
  exact ⟨rfl, hq, h.bel.trans (hb.mono h.le), h.le⟩

def abc : ByteArray := ⟨#[97, 98, 99]⟩
def t1 : ByteArray := ⟨#[49, 50, 51, 52]⟩
def t2 : ByteArray := ⟨#[53, 54, 55]⟩
def t3 : ByteArray := ⟨#[56, 57]⟩
def t4 : ByteArray := ⟨#[53, 54, 55, 56, 57]⟩
theorem crc_nine : crcSum (joinT [t1, t4]) = 759025838 := by decide +kernel
theorem crc_nine2 : crcSum ([] ++ joinT [t1, t2] ++ joinT [t3]) = 759025838 := by decide +kernel

set_option maxRecDepth 100000 in
set_option maxHeartbeats 1000000 in
theorem alive_any (w : World) : Calls Try.prog 8 #[] w (BoolPost w true) := by
  have C1 := Lib.hid crc_nine
  have C2 := Lib.hid crc_nine2
  go_enter Try.func8, Try.ntmps8
  go_wp2_with fail
  refine (close_any abc w (by decide)).mono ?_
  rintro e w1 ⟨rfl, hb1⟩
  go_wp2_with fail
  refine (open_close abc w1 (by decide)).mono ?_
  rintro e w2 ⟨rfl, hb2⟩
  have S2 := Lib.hid (SS.new (chain hb1 hb2))
  clear hb1 hb2
  go_wp2_with fail
  refine (add_ss (ls := [t1, t2]) (S2.out.step (bel_new _ _)) (texts_new (l := [t1, t2]) (by simp) (by rfl) (by intro s hs; simp at hs; rcases hs with rfl | rfl <;> decide) (by simp))).mono ?_
  rintro e w3 ⟨rfl, hs⟩
  have S3 := Lib.hid hs
  clear hs
  go_wp2_with fail
  refine (add_ss (ls := [t3]) (S3.out.step (bel_new _ _)) (texts_new (l := [t3]) (by simp) (by rfl) (by intro s hs; simp at hs; subst hs; decide) (by simp))).mono ?_
  rintro e w4 ⟨rfl, hs⟩
  have S4 := Lib.hid hs
  clear hs
  go_wp2_with fail
  refine (cof_any _ [t1, t4] _ (texts_new (l := [t1, t4]) (by simp) (by rfl) (by intro s hs; simp at hs; rcases hs with rfl | rfl <;> decide) (by simp))).mono ?_
  rintro e w5 ⟨rfl, hb5⟩
  have S5 := Lib.hid ((S4.out.step (bel_new _ _)).step hb5)
  rw [C1.out]
  clear hb5
  go_wp2_with fail
  refine (value_at S5.out.s).mono ?_
  rintro e w6 ⟨rfl, hb6⟩
  have S6 := Lib.hid (S5.out.step hb6)
  rw [C2.out]
  have hq : abc = ⟨#[97, 98, 99]⟩ := rfl
  clear hb6
  go_wp2
  go_ret
  exact ⟨rfl, S6.out.bel⟩

theorem joinT_cut (s : ByteArray) (A T : Nat) (h : A ≤ T) : s.data.toList.take A ++ joinT [s.extract A T] = s.data.toList.take T := by
  rw [joinT_one, Lib.extract_data]
  have := List.take_append_drop A (s.data.toList.take T)
  rw [List.take_take, Nat.min_eq_left h, List.drop_take] at this
  exact this
theorem joinT_end (s : ByteArray) (A n : Nat) (hn : s.size = n) : s.data.toList.take A ++ joinT [s.extract A n, ByteArray.empty] = s.data.toList := by
  subst hn
  have h1 : joinT [s.extract A s.size, ByteArray.empty] = s.data.toList.drop A := by
    have : (ByteArray.empty).data.toList = [] := rfl
    simp only [joinT, List.flatMap_cons, List.flatMap_nil, this, List.append_nil]
    rw [Lib.extract_data, List.take_of_length_le (by simp)]
  rw [h1, List.take_append_drop]

set_option maxRecDepth 100000 in
set_option maxHeartbeats 1000000 in
theorem walkCrcPartsIn (s : ByteArray) (v : Value) (l : List Int) (w : World) (hv : IntsAt w v l) (h1 : s.size ≤ 3000) (h2 : l.length ≤ 40) :
    Calls Try.prog 5 #[.string s, v] w (BoolPost w true) := by
  obtain ⟨a, ca, rfl, hI, hlen, hc⟩ := hv
  have HC := Lib.hid hc
  have HI := Lib.hid hI
  have h1' : (s.size : Int) ≤ 3000 := by omega
  clear hc hI
  go_enter Try.func5, Try.ntmps5
  go_wp2
  go_loopw [6, 7] (fun at_ i wr => ∃ (k A : Nat), k ≤ l.length ∧ A ≤ s.size ∧ i = .int .i64 k ∧ at_ = .int .i64 A ∧ Hid (SS w w.heap.size (s.data.toList.take A) wr)) (fun _ i _ => l.length - (intOf i).toNat)
  case atStart => exact ⟨0, 0, Nat.zero_le _, Nat.zero_le _, rfl, rfl, Lib.hid (by simpa using SS.new (Below.refl _ w))⟩
  case round =>
    obtain ⟨k, A, hk, hA, rfl, rfl, HS⟩ := hrel
    have hAI : (A : Int) ≤ s.size := by omega
    by_cases hlt : k < l.length
    · obtain ⟨b, o, rfl, hbw, hcl⟩ := HC.out (by intro h; simp [h] at hlt)
      have hx := (HS.out.bel.cell (p := ⟨b, o + k, none⟩) hbw).trans (hcl k hlt)
      obtain ⟨x, hxe⟩ : ∃ x, x = l.getD k 0 := ⟨_, rfl⟩
      rw [← hxe] at hx
      obtain ⟨T, hT⟩ : ∃ T : Nat, min (max x (A : Int)) (s.size : Int) = T := ⟨(min (max x (A : Int)) (s.size : Int)).toNat, by omega⟩
      have hT1 : A ≤ T := by omega
      have hT2 : T ≤ s.size := by omega
      have hT3 : (A : Int) ≤ T := by omega
      have hT4 : (T : Int) ≤ s.size := by omega
      have HJ := Lib.hid (joinT_cut s A T hT1)
      clear hxe hcl
      go_wp2_with fail
      refine (add_ss (ls := [s.extract A T]) (HS.out.step (bel_new _ _)) (texts_new (l := [s.extract A T]) (by simp) (by rfl) (by intro s' hs; simp at hs; subst hs; simp; omega) (by simp))).mono ?_
      rintro e w1 ⟨rfl, hs1⟩
      rw [HJ.out] at hs1
      have HS1 := Lib.hid hs1
      clear hs1
      go_wp2
      go_roundw
      case rel => exact ⟨k + 1, T, by omega, hT2, by go_num, rfl, HS1⟩
      case measure => simp [intOf]; omega
    · have hkl : k = l.length := by omega
      subst hkl
      obtain ⟨n, hn⟩ : ∃ n, s.size = n := ⟨_, rfl⟩
      have HJ := Lib.hid (joinT_end s A n hn)
      have HN := Lib.hid hn
      clear hlt hn
      go_wp2_with fail
      refine (add_ss (ls := [s.extract A s.size, ByteArray.empty]) (HS.out.step (bel_new _ _)) (texts_new (l := [s.extract A s.size, ByteArray.empty]) (by simp) (by rfl) (by intro s' hs; simp at hs; rcases hs with rfl | rfl <;> simp <;> omega) (by simp))).mono ?_
      rintro e w1 ⟨rfl, hs1⟩
      rw [HN.out, HJ.out] at hs1
      have HS1 := Lib.hid hs1
      clear hs1
      go_wp2_with fail
      refine (alive_any _).mono ?_
      rintro e w2 ⟨rfl, hb⟩
      have HS2 := Lib.hid (HS1.out.step hb)
      clear hb
      go_wp2_with fail
      refine (value_at HS2.out.s).mono ?_
      rintro e w3 ⟨rfl, hb⟩
      have HS3 := Lib.hid (HS2.out.step hb)
      have J1 := Lib.hid (joinT_one s)
      clear hb
      go_wp2_with fail
      refine (cof_any _ [s] _ (texts_new (l := [s]) (by simp) (by rfl) (by intro s' hs; simp at hs; subst hs; omega) (by simp))).mono ?_
      rintro e w4 ⟨rfl, hb⟩
      rw [J1.out]
      have HS4 := Lib.hid ((HS3.out.step (bel_new _ _)).step hb)
      clear hb
      go_wp2_with fail
      refine (cof_any _ [] _ (texts_nil _)).mono ?_
      rintro e w5 ⟨rfl, hb⟩
      have HS5 := Lib.hid (HS4.out.step hb)
      clear hb
      go_wp2_with fail
      refine (cof_any _ [ByteArray.empty] _ (texts_new (l := [ByteArray.empty]) (by simp) (by rfl) (by intro s' hs; simp at hs; subst hs; decide) (by simp))).mono ?_
      rintro e w6 ⟨rfl, hb⟩
      have HS6 := Lib.hid ((HS5.out.step (bel_new _ _)).step hb)
      have hj : joinT [ByteArray.empty] = joinT [] := rfl
      rw [hj]
      clear hb hj
      go_wp2
      go_ret
      exact ⟨rfl, HS6.out.bel⟩

set_option maxRecDepth 100000 in
set_option maxHeartbeats 1000000 in
theorem walkCrcParts (s : ByteArray) (v : Value) (l : List Int) (w : World) (hs : s.size ≤ 9223372036854775807) (hv : IntsAt w v l) : Calls Try.prog 5 #[.string s, v] w (BoolPost w true) := by
  by_cases hin : s.size ≤ 3000 ∧ l.length ≤ 40
  · exact walkCrcPartsIn s v l w hv hin.1 hin.2
  · obtain ⟨a, ca, rfl, _⟩ := hv
    by_cases h1 : (3000 : Int) < s.size
    all_goals by_cases h2 : (40 : Int) < l.length
    all_goals first
      | (exfalso; omega)
      | (clear hin
         go_enter Try.func5, Try.ntmps5
         go_wp2_with fail
         refine (alive_any _).mono ?_
         rintro e w9 ⟨rfl, hb9⟩
         go_wp2
         go_ret
         exact ⟨rfl, hb9⟩)
end Go.Proofs.Ytajmaipboleaiaa
