/-
  The contracts of sedimentbook.SameTexts, Room.
-/
import Derived.Test.YtjcggkfinhkcoaaGreatTexts
namespace Go.Proofs.YtjcggkfinhkcoaaGreat
open Go.RowKit
set_option linter.unusedVariables false
set_option linter.unusedSimpArgs false

theorem bytes_eq {a b : ByteArray} (h : (a.toList == b.toList) = true) : a = b := by
  have h := beq_iff_eq.1 h
  rw [ByteArray.toList_eq, ByteArray.toList_eq] at h
  cases a; cases b; congr; exact Array.toList_inj.1 h
theorem take_snocX {l : List ByteArray} {k : Nat} (h : k < l.length) : l.take (k + 1) = l.take k ++ [l.getD k ByteArray.empty] := by
  rw [List.take_succ_eq_append_getElem h]; simp [h]
theorem same_takeX {l m : List ByteArray} {k : Nat} (hk : k < l.length) (hk2 : k < m.length) (h : l.take k = m.take k) (hx : l.getD k ByteArray.empty = m.getD k ByteArray.empty) : l.take (k + 1) = m.take (k + 1) := by
  rw [take_snocX hk, take_snocX hk2, h, hx]
theorem not_sameX {l m : List ByteArray} {k : Nat} (hx : l.getD k ByteArray.empty ≠ m.getD k ByteArray.empty) : l ≠ m := fun h => hx (by rw [h])

set_option maxRecDepth 100000 in
set_option maxHeartbeats 1000000 in
theorem same_texts (v u : Value) (l m : List ByteArray) (w : World) (hv : TextsAt w v l) (hu : TextsAt w u m) :
    Calls Tryz.prog 15 #[v, u] w (RetB w (.bool (decide (l = m)))) := by
  obtain ⟨a, ca, rfl, hI, hlen, hc⟩ := hv
  obtain ⟨b, cb, rfl, hJ, hlen2, hd⟩ := hu
  have HC := Lib.hid hc
  have HD := Lib.hid hd
  clear hI hJ hc hd
  by_cases hne : l.length = m.length
  · have HN := Lib.hid hne
    obtain ⟨n, hn⟩ : ∃ n, n = l.length := ⟨_, rfl⟩
    have hn2 : m.length = n := by omega
    have HNL := Lib.hid hn
    have HNM := Lib.hid hn2
    rw [← hn] at hlen ⊢
    rw [hn2] at hlen2 ⊢
    clear hne hn hn2
    go_enter Tryz.func15, Tryz.ntmps15
    go_wp2
    go_loopw [5] (fun i wr => ∃ (k : Nat), k ≤ n ∧ i = .int .i64 k ∧ Hid (l.take k = m.take k) ∧ Below w.heap.size w wr) (fun i _ => n - (intOf i).toNat)
    case atStart => exact ⟨0, Nat.zero_le _, rfl, Lib.hid rfl, Below.refl _ _⟩
    case round =>
      obtain ⟨k, hk, rfl, HT, hnx⟩ := hrel
      by_cases hlt : k < n
      · obtain ⟨b1, o1, rfl, hbw1, hcl1⟩ := HC.out (by intro h; have := HNL.out; simp [h] at this; omega)
        obtain ⟨b2, o2, rfl, hbw2, hcl2⟩ := HD.out (by intro h; have := HNM.out; simp [h] at this; omega)
        have hx1 := (hnx.cell (p := ⟨b1, o1 + k, none⟩) hbw1).trans (hcl1 k (by have := HNL.out; omega))
        have hx2 := (hnx.cell (p := ⟨b2, o2 + k, none⟩) hbw2).trans (hcl2 k (by have := HNM.out; omega))
        obtain ⟨x, hx⟩ : ∃ x, x = l.getD k ByteArray.empty := ⟨_, rfl⟩
        obtain ⟨y, hy⟩ : ∃ y, y = m.getD k ByteArray.empty := ⟨_, rfl⟩
        rw [← hx] at hx1
        rw [← hy] at hx2
        have HX := Lib.hid hx
        have HY := Lib.hid hy
        clear hx hy hcl1 hcl2
        cases hq : (x.toList == y.toList)
        · have HXY := Lib.hid (show x ≠ y by intro h; subst h; simp at hq)
          go_wp2
          go_quiet (fail)
          go_wp2
          go_ret
          exact ⟨ret_bool (by simp; exact not_sameX (k := k) (by rw [← HX.out, ← HY.out]; exact HXY.out)), bel_drewN hnx _⟩
        · have HXY := Lib.hid (bytes_eq hq)
          go_wp2
          go_quiet (fail)
          go_wp2
          go_roundw
          case rel => exact ⟨k + 1, by omega, by go_num, Lib.hid (same_takeX (by have := HNL.out; omega) (by have := HNM.out; omega) HT.out (by rw [← HX.out, ← HY.out, HXY.out])), bel_drewN hnx _⟩
          case measure => simp [intOf]; omega
      · have hkn : k = n := by omega
        subst hkn
        go_wp2
        go_ret
        refine ⟨ret_bool ?_, hnx⟩
        have := HT.out
        rw [List.take_of_length_le (by have := HNL.out; omega), List.take_of_length_le (by have := HNM.out; omega)] at this
        simp [this]
  · have hq : ((l.length : Int) != m.length) = true := by simp; omega
    have hr : decide (l = m) = false := by simp; intro h; exact hne (by rw [h])
    rw [hr]
    clear hne hr
    go_enter Tryz.func15, Tryz.ntmps15
    go_wp2
    go_ret
    exact ⟨rfl, Below.refl _ _⟩

/-- How much room is left behind a part of this size. -/
def room1 (left sz : Int) : Int := if left < 0 ∨ left < sz then -1 else left - sz
def roomL (left : Int) (l : List Int) : Int := l.foldl room1 left
theorem roomL_neg : ∀ (l : List Int) (left : Int), left < 0 → roomL left l < 0
  | [], _, h => h
  | x :: l, left, h => roomL_neg l _ (by unfold room1; rw [if_pos (.inl h)]; omega)
theorem roomL_take {l : List Int} {k : Nat} (h : k < l.length) (left : Int) : roomL left (l.take (k + 1)) = room1 (roomL left (l.take k)) (l.getD k 0) := by
  rw [take_snoc h]; simp [roomL]
theorem roomL_drop (l : List Int) (k : Nat) (left : Int) : roomL left l = roomL (roomL left (l.take k)) (l.drop k) := by
  unfold roomL; rw [← List.foldl_append, List.take_append_drop]
theorem roomL_minus : ∀ (l : List Int), roomL (-1) l = -1
  | [] => rfl
  | x :: l => by show roomL (room1 (-1) x) l = -1; rw [show room1 (-1) x = -1 from if_pos (.inl (by omega))]; exact roomL_minus l
theorem room1_bd {left sz : Int} (h0 : 0 ≤ sz) (h : -1 ≤ left) : -1 ≤ room1 left sz ∧ room1 left sz ≤ left := by
  unfold room1; split <;> omega
theorem roomL_le : ∀ (l : List Int) (left : Int), (∀ x ∈ l, 0 ≤ x) → 0 ≤ roomL left l → l.sum ≤ left ∧ 0 ≤ left
  | [], left, _, h => by simp; exact h
  | x :: l, left, hx, h => by
    have h1 : 0 ≤ roomL (room1 left x) l := h
    obtain ⟨h2, h3⟩ := roomL_le l _ (fun y hy => hx y (List.mem_cons_of_mem _ hy)) h1
    have h4 := hx x (List.mem_cons_self ..)
    unfold room1 at h2 h3
    split at h3
    · omega
    · rw [if_neg (by omega)] at h2
      simp; omega

set_option maxRecDepth 100000 in
set_option maxHeartbeats 1000000 in
theorem room_any (left : Int) (v : Value) (l : List Int) (w : World) (hv : IntsAt w v l) (hl : -9223372036854775808 ≤ left ∧ left ≤ 9223372036854775807) (h0 : ∀ x ∈ l, 0 ≤ x) :
    Calls Tryz.prog 21 #[.int .i64 left, v] w (RetB w (.int .i64 (roomL left l))) := by
  obtain ⟨a, ca, rfl, hI, hlen, hc⟩ := hv
  have HC := Lib.hid hc
  have HI := Lib.hid hI
  have H0 := Lib.hid h0
  clear hc hI h0
  go_enter Tryz.func21, Tryz.ntmps21
  go_wp2
  go_loop [5, 0] (fun i x => ∃ (k : Nat) (R : Int), k ≤ l.length ∧ i = .int .i64 k ∧ x = .int .i64 R ∧ (-9223372036854775808 ≤ R ∧ R ≤ 9223372036854775807) ∧ Hid (R = roomL left (l.take k))) (fun i _ => l.length - (intOf i).toNat)
  case atStart => exact ⟨0, left, Nat.zero_le _, rfl, rfl, hl, Lib.hid rfl⟩
  case round =>
    obtain ⟨k, R, hk, rfl, rfl, hR, HR⟩ := hrel
    by_cases hlt : k < l.length
    · obtain ⟨b, o, rfl, hbw, hcl⟩ := HC.out (by intro h; simp [h] at hlt)
      have hx := hcl k hlt
      have hxI := HI.out (l.getD k 0) (by simp [hlt])
      have hx0 := H0.out (l.getD k 0) (by simp [hlt])
      have HT := Lib.hid (roomL_take hlt left)
      have HD := Lib.hid (roomL_drop l (k + 1) left)
      obtain ⟨x, hxe⟩ : ∃ x, x = l.getD k 0 := ⟨_, rfl⟩
      rw [← hxe] at hx hxI hx0 HT
      clear hxe hcl
      by_cases g1 : R < 0
      · go_wp2
        go_ret
        exact ⟨ret_int (by rw [HD.out, HT.out, ← HR.out]; unfold room1; rw [if_pos (.inl g1)]; exact (roomL_minus _).symm), Below.refl _ _⟩
      · by_cases g2 : R < x
        · go_wp2
          go_ret
          exact ⟨ret_int (by rw [HD.out, HT.out, ← HR.out]; unfold room1; rw [if_pos (.inr g2)]; exact (roomL_minus _).symm), Below.refl _ _⟩
        · go_wp2
          go_round
          case rel => exact ⟨k + 1, R - x, by omega, by go_num, rfl, by omega, Lib.hid (by rw [HT.out, ← HR.out]; unfold room1; rw [if_neg (by omega)])⟩
          case measure => simp [intOf]; omega
    · have hkl : k = l.length := by omega
      subst hkl
      go_wp2
      go_ret
      exact ⟨ret_int (by have := HR.out; rw [List.take_length] at this; exact this), Below.refl _ _⟩
end Go.Proofs.YtjcggkfinhkcoaaGreat
