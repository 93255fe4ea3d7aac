/-
  The contract of pack.Packer's Words.
-/
import Derived.Test.YtjcggkfinhkcoaaGreatPack
namespace Go.Proofs.YtjcggkfinhkcoaaGreat
open Go.RowKit
set_option linter.unusedVariables false
set_option linter.unusedSimpArgs false

/-- A slice of words that may be read. -/
def WordsAt (w : World) (v : Value) (l : List Int) : Prop :=
  ∃ a c, v = .slice a l.length c ∧ (∀ x ∈ l, 0 ≤ x ∧ x ≤ 18446744073709551615) ∧
    (l ≠ [] → ∃ b o, a = some ⟨b, o, none⟩ ∧ b < w.heap.size ∧ ∀ j, j < l.length → w.cell? ⟨b, o + j, none⟩ = some (.int .u64 (l.getD j 0)))
theorem words_new {w : World} {b c : Nat} {l : List Int} {cs : Array Value} {T : TypeId} {fr : Nat × Nat} (hk : w.heap.size = b) (hcs : cs = (l.map (Value.int .u64)).toArray) (hI : ∀ x ∈ l, 0 ≤ x ∧ x ≤ 18446744073709551615) :
    WordsAt (w.alloc (.cells cs T fr)) (.slice (some ⟨b, 0, none⟩) l.length c) l := by
  subst hk
  subst hcs
  refine ⟨_, _, rfl, hI, fun _ => ⟨w.heap.size, 0, rfl, by simp, fun j hj => ?_⟩⟩
  rw [cell_of_row _ _ _ _ _ _ (heap_alloc_new w _)]; simp [hj]
def wordBytes (l : List Int) : List UInt8 := l.flatMap fun v => lowBytes v 8
theorem wordBytes_take {l : List Int} {k : Nat} (h : k < l.length) : wordBytes (l.take (k + 1)) = wordBytes (l.take k) ++ lowBytes (l.getD k 0) 8 := by
  rw [take_snoc h]; simp [wordBytes]
theorem wordBytes_length : ∀ (l : List Int), (wordBytes l).length = 8 * l.length
  | [] => rfl
  | v :: l => by
    have := wordBytes_length l
    simp only [wordBytes] at this ⊢
    rw [List.flatMap_cons, List.length_append, lowBytes_length, this, List.length_cons]; omega

theorem WordsAt.nil (w : World) (v : Value) (c : Nat) (h : v = .slice none 0 c) : WordsAt w v [] := ⟨none, c, h, by simp, fun h => absurd rfl h⟩
/-- A list of words that lies in no block of the Packer's. -/
def WordsOut (w : World) (p : Nat) (v : Value) (l : List Int) : Prop := WordsAt w v l ∧ (l ≠ [] → ∃ b o n c, v = .slice (some ⟨b, o, none⟩) n c ∧ Free w p b)
theorem WordsOut.step {w w' : World} {p : Nat} {v : Value} {l : List Int} (h : WordsOut w p v l) (hs : PackStep p w w') : WordsOut w' p v l := by
  obtain ⟨⟨a, c, h1, h2, h3⟩, h4⟩ := h
  refine ⟨⟨a, c, h1, h2, fun hn => ?_⟩, fun hn => ?_⟩
  · obtain ⟨b, o, h5, h6, h7⟩ := h3 hn
    obtain ⟨b', o', n', c', h8, h9⟩ := h4 hn
    subst h1
    injection h8 with e1 e2 e3
    subst h5
    injection e1 with e1; injection e1 with e1 e4
    subst e1
    exact ⟨b, o, rfl, Nat.lt_of_lt_of_le h6 hs.size, fun j hj => (World.cell?_of_block (h9.heap hs)).trans (h7 j hj)⟩
  · obtain ⟨b, o, n, c, h5, h6⟩ := h4 hn
    exact ⟨b, o, n, c, h5, h6.step hs⟩
theorem words_out_new {w : World} {p b c : Nat} {e : Int} {l : List Int} {bs : List UInt8} {cs : Array Value} {T : TypeId} {fr : Nat × Nat} (hP : PackAt w p e bs) (hk : w.heap.size = b) (hcs : cs = (l.map (Value.int .u64)).toArray) (hI : ∀ x ∈ l, 0 ≤ x ∧ x ≤ 18446744073709551615) :
    WordsOut (w.alloc (.cells cs T fr)) p (.slice (some ⟨b, 0, none⟩) l.length c) l := by
  refine ⟨words_new hk hcs hI, fun _ => ⟨b, 0, _, _, rfl, ?_⟩⟩
  subst hk; exact Free.new hP _

set_option maxRecDepth 100000 in
set_option maxHeartbeats 1000000 in
theorem words_any (p : Nat) (v : Value) (ls : List Int) (l : List UInt8) (w : World) (hP : PackAt w p 0 l) (hv : WordsOut w p v ls) (hn : l.length + 8 * ls.length ≤ 1000000) :
    Calls Tryz.prog 114 #[.pointer (some ⟨p, 0, none⟩), v] w (fun e' w' => e' = .returned (.tuple #[]) ∧ PackAt w' p 0 (l ++ wordBytes ls) ∧ PackStep p w w') := by
  obtain ⟨⟨a, ca, hve, hI, _⟩, _⟩ := hv.1, trivial
  subst hve
  have HI := Lib.hid hI
  have HV := Lib.hid hv
  have HP := Lib.hid hP
  have HN := Lib.hid hn
  have hnn : ls.length ≤ 1000000 := by omega
  obtain ⟨vb, hblk, _⟩ := hP
  have c0 : w.cell? ⟨p, 0, none⟩ = some (.int .i64 0) := by rw [cell_of_row w p _ _ _ _ hblk]; rfl
  clear hI hv hn hblk
  go_enter Tryz.func114, Tryz.ntmps114
  go_wp2
  clear c0
  go_loopw [18] (fun i wr => ∃ (k : Nat), k ≤ ls.length ∧ i = .int .i64 k ∧ Hid (PackAt wr p 0 (l ++ wordBytes (ls.take k))) ∧ PackStep p w wr) (fun i _ => ls.length - (intOf i).toNat)
  case atStart => exact ⟨0, Nat.zero_le _, rfl, Lib.hid (by simpa [wordBytes] using HP.out), PackStep.refl _ _⟩
  case round =>
    obtain ⟨k, hk, rfl, HPk, hnx⟩ := hrel
    by_cases hlt : k < ls.length
    · have hW := HV.out.step hnx
      obtain ⟨⟨a', c', h1, _, h3⟩, _⟩ := hW
      injection h1 with e1 e2 e3
      subst e1
      obtain ⟨b, o, rfl, hbw, hcl⟩ := h3 (by intro h; simp [h] at hlt)
      have hx := hcl k hlt
      have hxI := HI.out (ls.getD k 0) (by simp [hlt])
      have HT := Lib.hid (wordBytes_take hlt)
      obtain ⟨x, hxe⟩ : ∃ x, x = ls.getD k 0 := ⟨_, rfl⟩
      rw [← hxe] at hx hxI HT
      have hlen : (l ++ wordBytes (ls.take k)).length + 8 ≤ 1000000 := by
        have := HN.out
        rw [List.length_append, wordBytes_length, List.length_take]; omega
      have HL := Lib.hid hlen
      clear hxe h3 hcl hlen e2 e3
      go_wp2_with fail
      refine (low_any p 8 x 0 _ wr HPk.out hxI.1 hxI.2 HL.out).mono ?_
      rintro e w1 ⟨rfl, hP1, hs1⟩
      have HP1 := Lib.hid hP1
      have hs2 := hnx.trans hs1
      clear hP1 hs1
      go_wp2
      go_roundw
      case rel => exact ⟨k + 1, by omega, by go_num, Lib.hid (by rw [HT.out, ← List.append_assoc]; exact HP1.out), hs2⟩
      case measure => simp [intOf]; omega
    · have hkn : k = ls.length := by omega
      subst hkn
      have hP1 := HPk.out
      rw [List.take_length] at hP1
      have HP1 := Lib.hid hP1
      clear hP1
      go_wp2
      go_end0
      exact ⟨rfl, HP1.out, hnx⟩
end Go.Proofs.YtjcggkfinhkcoaaGreat
