/-
  The contract of sedimentbook.Short.
-/
import Derived.Test.YtjcggkfinhkcoaaBookSame
namespace Go.Proofs.Ytjcggkfinhkcoaa
open Go.RowKit
set_option linter.unusedVariables false
set_option linter.unusedSimpArgs false

def sizes (l : List ByteArray) : List Int := l.map fun s => (s.size : Int)
def shortT (few room : Int) (l : List ByteArray) : Bool := decide ((l.length : Int) ≤ few) && decide (0 ≤ roomL room (sizes l))
theorem sizes_take {l : List ByteArray} {k : Nat} (h : k < l.length) (room : Int) : roomL room ((sizes l).take (k + 1)) = room1 (roomL room ((sizes l).take k)) (l.getD k ByteArray.empty).size := by
  rw [roomL_take (by simpa [sizes] using h)]
  congr 1
  simp [sizes, h]
theorem sizes_neg (l : List ByteArray) (room : Int) (k : Nat) (h : roomL room ((sizes l).take k) < 0) : roomL room (sizes l) < 0 := by
  rw [roomL_drop _ k]; exact roomL_neg _ _ h

set_option maxRecDepth 100000 in
set_option maxHeartbeats 1000000 in
theorem short_any (few room : Int) (v : Value) (l : List ByteArray) (w : World) (hv : TextsAt w v l) (hf : -9223372036854775808 ≤ few ∧ few ≤ 9223372036854775807) (hr : 0 ≤ room ∧ room ≤ 9223372036854775807) :
    Calls Try.prog 16 #[.int .i64 few, .int .i64 room, v] w (RetB w (.bool (shortT few room l))) := by
  obtain ⟨a, ca, rfl, hI, hlen, hc⟩ := hv
  have HC := Lib.hid hc
  have HI := Lib.hid hI
  clear hc hI
  by_cases g0 : few < l.length
  · have HF := Lib.hid (show shortT few room l = false by unfold shortT; rw [Bool.and_eq_false_iff]; left; simp; omega)
    go_enter Try.func16, Try.ntmps16
    go_wp2
    go_ret
    exact ⟨ret_bool HF.out.symm, Below.refl _ _⟩
  · have HG := Lib.hid (show shortT few room l = decide (0 ≤ roomL room (sizes l)) by unfold shortT; rw [decide_eq_true (show (l.length : Int) ≤ few by omega)]; rfl)
    go_enter Try.func16, Try.ntmps16
    go_wp2
    go_loopw [7, 1] (fun i x wr => ∃ (k : Nat) (R : Int), k ≤ l.length ∧ i = .int .i64 k ∧ x = .int .i64 R ∧ (-1 ≤ R ∧ R ≤ room) ∧ Hid (R = roomL room ((sizes l).take k)) ∧ Below w.heap.size w wr) (fun i _ _ => l.length - (intOf i).toNat)
    case atStart => exact ⟨0, room, Nat.zero_le _, rfl, rfl, by omega, Lib.hid rfl, Below.refl _ _⟩
    case round =>
      obtain ⟨k, R, hk, rfl, rfl, hR, HR, hB⟩ := hrel
      by_cases hlt : k < l.length
      · by_cases g1 : R < 0
        · have HN := Lib.hid (sizes_neg l room k (by rw [← HR.out]; exact g1))
          go_wp2
          go_ret
          exact ⟨ret_bool (by rw [HG.out]; have := HN.out; simp; omega), hB⟩
        · obtain ⟨b, o, rfl, hbw, hcl⟩ := HC.out (by intro h; simp [h] at hlt)
          have hx := (hB.cell (p := ⟨b, o + k, none⟩) hbw).trans (hcl k hlt)
          have hsz := HI.out (l.getD k ByteArray.empty) (by simp [hlt])
          have HT := Lib.hid (sizes_take hlt room)
          obtain ⟨s, hs⟩ : ∃ s, s = l.getD k ByteArray.empty := ⟨_, rfl⟩
          rw [← hs] at hx hsz HT
          have HB := Lib.hid hB
          clear hs hcl
          go_wp2_with fail
          refine (room_any R _ [(s.size : Int)] _ (ints_new (l := [(s.size : Int)]) rfl (by rfl) (by intro x hx; simp at hx; subst hx; omega) (by simp)) (by omega) (by intro x hx; simp at hx; subst hx; omega)).mono ?_
          rintro e w1 ⟨rfl, hb⟩
          have HB1 := Lib.hid (chain (chain HB.out (bel_new _ _)) hb)
          have hbd := room1_bd (left := R) (sz := s.size) (by omega) (by omega)
          have he : roomL R [(s.size : Int)] = room1 R s.size := rfl
          rw [he]
          obtain ⟨R2, hR2⟩ : ∃ R2, R2 = room1 R s.size := ⟨_, rfl⟩
          rw [← hR2] at hbd ⊢
          have HR2 := Lib.hid hR2
          clear hb he hR2
          go_wp2
          go_roundw
          case rel => exact ⟨k + 1, R2, by omega, by go_num, rfl, by omega, Lib.hid (by rw [HT.out, ← HR.out, HR2.out]), HB1.out⟩
          case measure => simp [intOf]; omega
      · have hkl : k = l.length := by omega
        subst hkl
        have hR9 := HR.out
        rw [List.take_of_length_le (by simp [sizes])] at hR9
        have HR9 := Lib.hid hR9
        clear hR9
        go_wp2
        go_ret
        exact ⟨ret_bool (by rw [HG.out, ← HR9.out]), hB⟩
theorem short_facts {few room : Int} {l : List ByteArray} (h : shortT few room l = true) : (l.length : Int) ≤ few ∧ ∀ s ∈ l, (s.size : Int) ≤ room := by
  unfold shortT at h
  rw [Bool.and_eq_true] at h
  have h1 := of_decide_eq_true h.1
  have h2 := of_decide_eq_true h.2
  refine ⟨h1, fun s hs => ?_⟩
  have hnn : ∀ x ∈ sizes l, (0 : Int) ≤ x := by
    intro x hx; unfold sizes at hx; obtain ⟨s, _, rfl⟩ := List.mem_map.1 hx; omega
  obtain ⟨h3, _⟩ := roomL_le (sizes l) room hnn h2
  have h4 : ∀ (m : List Int), (∀ x ∈ m, (0 : Int) ≤ x) → ∀ y ∈ m, y ≤ m.sum := by
    intro m
    induction m with
    | nil => intro _ y hy; cases hy
    | cons x m ih =>
      intro hm y hy
      have hx := hm x (List.mem_cons_self ..)
      have hs : 0 ≤ m.sum := by
        clear ih hy
        have hm2 : ∀ z ∈ m, (0 : Int) ≤ z := fun z hz => hm z (List.mem_cons_of_mem _ hz)
        clear hm
        induction m with
        | nil => simp
        | cons a m ih2 => simp; have := hm2 a (List.mem_cons_self ..); have := ih2 (fun z hz => hm2 z (List.mem_cons_of_mem _ hz)); omega
      rcases List.mem_cons.1 hy with rfl | hy
      · simp; omega
      · have := ih (fun z hz => hm z (List.mem_cons_of_mem _ hz)) y hy
        simp; omega
  have := h4 (sizes l) hnn s.size (by unfold sizes; exact List.mem_map.2 ⟨s, hs, rfl⟩)
  omega
end Go.Proofs.Ytjcggkfinhkcoaa
