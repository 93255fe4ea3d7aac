/-
  The contract of a log's lay: a record's blocks.
-/
import Derived.Test.YtjcggkfinhkcoaaGreatLog1
import Derived.Test.YtjcggkfinhkcoaaGreatTexts
import Derived.Lib.MinMax
namespace Go.Proofs.YtjcggkfinhkcoaaGreat
open Go.RowKit
set_option linter.unusedVariables false
set_option linter.unusedSimpArgs false

theorem texts_of_own {w : World} {B : Nat} {v : Value} {l : List ByteArray} (h : w.ownsRow B 9 1 v l.length (l.map Value.string)) (hl : ∀ s ∈ l, s.size ≤ 9223372036854775807) : TextsAt w v l := by
  have h0 := h
  rcases h.2 with ⟨h1, h2⟩ | ⟨g, cap, cur, h1, _, _, h2, h3, _, _⟩
  · subst h1
    obtain rfl := List.eq_nil_of_length_eq_zero h2
    exact texts_nil _
  · subst h1
    refine ⟨_, cap, rfl, hl, ⟨by omega, by unfold maxLen at h3; omega⟩, fun _ => ⟨g, 0, rfl, (h0.lt g rfl).2, fun j hj => ?_⟩⟩
    have := h0.cellAt j (by omega)
    rw [Nat.zero_add, this]
    simp [hj]
theorem info_strS : (Tryz.prog.info? 9).map (fun i => (i.zero, i.size, i.bytes)) = some (some (.string ByteArray.empty), 1, 16) := by kernel_rfl

def partB (s : ByteArray) (k : Nat) : ByteArray := s.extract (k * 224) (min ((k + 1) * 224) s.size)
def blkB (g nb : Int) (s : ByteArray) (k : Nat) : ByteArray := putB g nb k (blks s.size) (partB s k)
def layN (g nb : Int) (s : ByteArray) (k : Nat) : List ByteArray := (List.range k).map (blkB g nb s)
def layL (g nb : Int) (s : ByteArray) : List ByteArray := layN g nb s (blks s.size)
theorem layN_succ (g nb : Int) (s : ByteArray) (k : Nat) : layN g nb s (k + 1) = layN g nb s k ++ [blkB g nb s k] := by unfold layN; rw [List.range_succ, List.map_append]; rfl
theorem layN_len (g nb : Int) (s : ByteArray) (k : Nat) : (layN g nb s k).length = k := by simp [layN]
theorem layL_len (g nb : Int) (s : ByteArray) : (layL g nb s).length = blks s.size := layN_len _ _ _ _
theorem partB_size (s : ByteArray) (k : Nat) : (partB s k).size ≤ 224 := by unfold partB; rw [ByteArray.size_extract]; omega
theorem blkB_size (g nb : Int) (s : ByteArray) (k : Nat) : (blkB g nb s k).size = 256 := putB_size _ _ _ _ _ (partB_size s k)
theorem layL_size (g nb : Int) (s : ByteArray) : ∀ b ∈ layL g nb s, b.size = 256 := by
  intro b hb
  unfold layL layN at hb
  obtain ⟨k, _, rfl⟩ := List.mem_map.1 hb
  exact blkB_size _ _ _ _
theorem blks_bd {n : Nat} (h : n ≤ 1000000) : 1 ≤ blks n ∧ blks n ≤ 4465 := by unfold blks; split <;> omega
theorem blks_part {n k : Nat} (h : k < blks n) : k * 224 ≤ n := by unfold blks at h; split at h <;> omega
/-- What lay leaves: its texts, in a block of its own. -/
def RetLay (w : World) (l : List ByteArray) (e : Ending) (w' : World) : Prop := ∃ v, e = .returned v ∧ w'.ownsRow w.heap.size 9 1 v l.length (l.map Value.string) ∧ Below w.heap.size w w'

set_option maxRecDepth 100000 in
set_option maxHeartbeats 2000000 in
theorem lay_any (g nb : Int) (s : ByteArray) (w : World) (h0 : 0 ≤ g ∧ g ≤ 18446744073709551615) (h1 : 0 ≤ nb ∧ nb < 4294967296) (hs : s.size ≤ 1000000) :
    Calls Tryz.prog 63 #[.int .u64 g, .int .i64 nb, .string s] w (RetLay w (layL g nb s)) := by
  obtain ⟨i0, hi, hz0, hz1, hz2⟩ := info_parts info_strS
  obtain ⟨N, hN⟩ : ∃ N, N = blks s.size := ⟨_, rfl⟩
  have hNb := blks_bd hs
  rw [← hN] at hNb
  have HN := Lib.hid hN
  have HS := Lib.hid hs
  have hsI : (s.size : Int) ≤ 1000000 := by omega
  have hNI : (N : Int) ≤ 4465 := by omega
  have HL := Lib.hid (show layL g nb s = layN g nb s N by unfold layL; rw [← hN])
  rw [HL.out]
  clear hN hs
  go_enter Tryz.func63, Tryz.ntmps63
  go_wp2_with fail
  refine (blocks_any s.size _ (by have := HS.out; omega)).mono ?_
  rintro e w1 ⟨rfl, hb1⟩
  rw [← HN.out]
  have HB1 := Lib.hid hb1
  clear hb1
  go_wp2
  go_loopw [7, 15] (fun v x wr => ∃ k : Nat, k ≤ N ∧ x = .int .i64 k ∧ Hid (wr.ownsRow w.heap.size 9 1 v k ((layN g nb s k).map Value.string)) ∧ Hid (Below w.heap.size w wr)) (fun _ x _ => N - (intOf x).toNat)
  case atStart => exact ⟨0, Nat.zero_le _, rfl, Lib.hid (World.ownsRow_nil _ _ _ _), HB1⟩
  case round =>
    obtain ⟨k, hk, rfl, HO, HB⟩ := hrel
    by_cases hlt : k < N
    · obtain ⟨A, hA⟩ : ∃ A : Nat, (k : Int) * 224 = A := ⟨k * 224, by omega⟩
      obtain ⟨M, hM⟩ : ∃ M : Nat, min (((k : Int) + 1) * 224) (s.size : Int) = M := ⟨min ((k + 1) * 224) s.size, by omega⟩
      have hkn : k * 224 ≤ s.size := blks_part (by rw [← HN.out]; exact hlt)
      have hAM : A ≤ M := by omega
      have hMs : M ≤ s.size := by omega
      have hP : s.extract A M = partB s k := by
        unfold partB
        rw [show A = k * 224 by omega, show M = min ((k + 1) * 224) s.size by omega]
      have HP := Lib.hid hP
      have HPS := Lib.hid (partB_size s k)
      have HBK := Lib.hid (show blkB g nb s k = putB g nb k N (partB s k) by unfold blkB; rw [← HN.out])
      have HLS := Lib.hid (layN_succ g nb s k)
      obtain ⟨P, hPP⟩ : ∃ P, P = partB s k := ⟨_, rfl⟩
      rw [← hPP] at hP HPS HBK
      have hk12 : (k : Int) ≤ 4465 := by omega
      clear hkn hPP HP
      go_wp2_with fail
      refine (lput_any g nb k N P P.size _ rfl h0 h1 (by omega) (by omega) HPS.out).mono ?_
      rintro e w2 ⟨rfl, hb2⟩
      rw [← HBK.out]
      have HO2 := Lib.hid (own_step HO.out hb2)
      have HB2 := Lib.hid (chain HB.out hb2)
      obtain ⟨v0, ca, rfl⟩ := own_form HO.out
      have hsz : w.heap.size ≤ w2.heap.size := HB2.out.size
      clear hb2
      go_wp2_with (at_builtin; refine wpList_append_lies _ rfl (.tmp 28) (.tmp 38) 32 rfl w.heap.size 9 i0 (.string ByteArray.empty) 1 16 Tryz.underlying32 hi hz0 hz1 hz2 rfl (by decide) _ k ((layN g nb s k).map Value.string) rfl (HO2.out.alloc _) ⟨w2.heap.size, 0, none⟩ 1 1 [.string (blkB g nb s k)] rfl rfl ?c1 ?c2 (by decide) ?c3 ?c4 ?c5 (w2.heap.size + 1) ?c6 ?_)
      case c1 => exact one_cell _ _ _
      case c2 => simp [Value.oneCell']
      case c3 => unfold maxLen; omega
      case c4 => omega
      case c5 => simp; omega
      case c6 => simp
      intro g3 cp w3 hown hg hat hlt3
      have HO3 := Lib.hid (show w3.ownsRow w.heap.size 9 1 (.slice (some ⟨g3, 0, none⟩) (k + 1) cp) (k + 1) ((layN g nb s (k + 1)).map Value.string) by rw [HLS.out, List.map_append]; exact hown)
      have HB3 := Lib.hid (Below.grown (bel_alloc (o := .cells #[.string (blkB g nb s k)] 9) HB2.out hsz) hg (by simp; omega) (fun j hj => (HO2.out.lt j hj).1))
      clear hown hg hat hlt3
      go_wp2
      go_roundw
      case rel => exact ⟨k + 1, by omega, by go_num, HO3, HB3⟩
      case measure => simp [intOf]; omega
    · have hkn : k = N := by omega
      have HO' := Lib.hid (show wr.ownsRow w.heap.size 9 1 _ N ((layN g nb s N).map Value.string) by rw [← hkn]; exact HO.out)
      clear HO hkn
      go_wp2
      go_ret
      exact ⟨_, rfl, by rw [layN_len]; exact HO'.out, HB.out⟩
end Go.Proofs.YtjcggkfinhkcoaaGreat
