/-
  The contract of name.Valid.
-/
import Derived.Test.YtaenpcglaenlaaaTexts
namespace Go.Proofs.Ytaenpcglaenlaaa
open Go.RowKit
set_option linter.unusedVariables false
set_option linter.unusedSimpArgs false

def letterN (n : Nat) : Bool := decide (97 ≤ n ∧ n ≤ 122) || decide (48 ≤ n ∧ n ≤ 57) || decide (n = 46) || decide (n = 95) || decide (n = 45)
def nameOk (s : ByteArray) : Bool := decide (1 ≤ s.size ∧ s.size ≤ 15) && s.data.toList.all (fun c => letterN c.toNat)

set_option maxRecDepth 100000 in
set_option maxHeartbeats 1000000 in
theorem letter_any (n : Nat) (w : World) (hn : n ≤ 255) : Calls Try.prog 77 #[.int .u8 n] w (RetB w (.bool (letterN n))) := by
  go_enter Try.func77, Try.ntmps77
  go_wp2
  all_goals go_ret
  all_goals exact ⟨ret_bool (by unfold letterN; rw [Bool.eq_iff_iff]; simp; omega), Below.refl _ _⟩

theorem nameOk_step {s : ByteArray} {j : Nat} (hj : j < s.size) : s.data.toList.take (j + 1) = s.data.toList.take j ++ [s.data[j]'hj] := by
  rw [List.take_succ_eq_append_getElem (by simpa using hj)]; simp

set_option maxRecDepth 100000 in
set_option maxHeartbeats 1000000 in
theorem valid_any (v : Value) (l : List ByteArray) (w : World) (hv : TextsAt w v l) : Calls Try.prog 38 #[v] w (RetB w (.bool (l.all nameOk))) := by
  obtain ⟨a, ca, rfl, hI, hlen, hc⟩ := hv
  have HC := Lib.hid hc
  have HI := Lib.hid hI
  clear hc hI
  go_enter Try.func38, Try.ntmps38
  go_wp2
  go_loopw [8] (fun i wr => ∃ (k : Nat), k ≤ l.length ∧ i = .int .i64 k ∧ Hid ((l.take k).all nameOk = true) ∧ Below w.heap.size w wr) (fun i _ => l.length - (intOf i).toNat)
  case atStart => exact ⟨0, Nat.zero_le _, rfl, Lib.hid (by simp), Below.refl _ _⟩
  case round =>
    obtain ⟨k, hk, rfl, HA, hB⟩ := hrel
    by_cases hlt : k < l.length
    · obtain ⟨b, o, rfl, hbw, hcl⟩ := HC.out (by intro h; simp [h] at hlt)
      have hcell := (hB.cell (p := ⟨b, o + k, none⟩) hbw).trans (hcl k hlt)
      have hsz := HI.out (l.getD k ByteArray.empty) (by simp [hlt])
      obtain ⟨s, hs⟩ : ∃ s, s = l.getD k ByteArray.empty := ⟨_, rfl⟩
      rw [← hs] at hcell hsz
      have HT := Lib.hid (show l.take (k + 1) = l.take k ++ [s] by rw [List.take_succ_eq_append_getElem hlt, hs]; simp [hlt])
      have HS := Lib.hid (show nameOk s = false → l.all nameOk = false by
        intro h
        rw [List.all_eq_false]
        exact ⟨s, by rw [hs]; simp [hlt], by simp [h]⟩)
      clear hs hcl
      by_cases h1 : s.size < 1
      · have h1' : (s.size : Int) < 1 := by omega
        go_wp2
        go_ret
        exact ⟨ret_bool (by rw [HS.out]; unfold nameOk; simp; omega), hB⟩
      · by_cases h2 : 15 < s.size
        · have h2' : 15 < (s.size : Int) := by omega
          have h1' : 1 ≤ (s.size : Int) := by omega
          go_wp2
          go_ret
          exact ⟨ret_bool (by rw [HS.out]; unfold nameOk; simp; omega), hB⟩
        · have h2' : (s.size : Int) ≤ 15 := by omega
          have h1' : 1 ≤ (s.size : Int) := by omega
          go_wp2
          go_loopw [22] (fun i wx => ∃ (j : Nat), j ≤ s.size ∧ i = .int .i64 j ∧ Hid ((s.data.toList.take j).all (fun c => letterN c.toNat) = true) ∧ Below w.heap.size w wx) (fun i _ => s.size - (intOf i).toNat)
          case atStart => exact ⟨0, Nat.zero_le _, rfl, Lib.hid (by simp), hB⟩
          case round =>
            obtain ⟨j, hj, rfl, HJ, hB2⟩ := hrel
            by_cases hjt : j < s.size
            · have hc8 : 0 ≤ (s[j].toNat : Int) ∧ (s[j].toNat : Int) ≤ 255 := by have := s[j].toNat_lt; omega
              go_wp2_with fail
              refine (letter_any _ _ (by have := s[j].toNat_lt; omega)).mono ?_
              rintro e w3 ⟨rfl, hb3⟩
              have HB3 := Lib.hid (chain hB2 hb3)
              obtain ⟨q, hq⟩ : ∃ q, q = letterN s[j].toNat := ⟨_, rfl⟩
              rw [← hq]
              have HQ := Lib.hid hq
              clear hb3 hq
              cases q
              · go_wp2
                go_ret
                refine ⟨ret_bool ?_, HB3.out⟩
                rw [HS.out]
                unfold nameOk
                rw [Bool.and_eq_false_iff, List.all_eq_false]
                exact .inr ⟨s[j], by simp [ByteArray.getElem_eq_getElem_data], by rw [← HQ.out]; simp⟩
              · go_wp2
                go_roundw
                case rel => exact ⟨j + 1, by omega, by go_num, Lib.hid (by rw [nameOk_step hjt, List.all_append, HJ.out]; simp; exact HQ.out.symm), HB3.out⟩
                case measure => simp [intOf]; omega
            · have hjs : j = s.size := by omega
              subst hjs
              go_wp2
              go_roundw
              case rel => exact ⟨k + 1, by omega, by go_num, Lib.hid (by
                rw [HT.out, List.all_append, HA.out]
                have := HJ.out
                rw [List.take_of_length_le (by simp)] at this
                simp [nameOk, this]
                omega), hB2⟩
              case measure => simp [intOf]; omega
    · have hkl : k = l.length := by omega
      subst hkl
      go_wp2
      go_ret
      exact ⟨ret_bool (by have := HA.out; rw [List.take_length] at this; rw [this]), hB⟩
end Go.Proofs.Ytaenpcglaenlaaa
