/-
  The contracts of a log's head, put and lay for a record of more blocks than two bytes tell.
-/
import Derived.Test.YtjcggkfinhkcoaaGreatLog2
import Derived.Test.YtjcggkfinhkcoaaGreatPackBad
namespace Go.Proofs.YtjcggkfinhkcoaaGreat
open Go.RowKit
set_option linter.unusedVariables false
set_option linter.unusedSimpArgs false

/-- A text of a few bytes is returned. -/
def RetFew (n : Nat) (w : World) (e : Ending) (w' : World) : Prop := ∃ s : ByteArray, e = .returned (.string s) ∧ s.size ≤ n ∧ Below w.heap.size w w'
set_option maxRecDepth 100000 in
set_option maxHeartbeats 2000000 in
theorem head_bad (g nb pl o by_ : Int) (w : World) (h0 : 0 ≤ g ∧ g ≤ 18446744073709551615) (h1 : 0 ≤ nb ∧ nb < 4294967296) (h2 : 0 ≤ pl ∧ pl ≤ 9223372036854775807) (h3 : 65536 ≤ o ∧ o ≤ 9223372036854775807) (h4 : 0 ≤ by_ ∧ by_ < 65536) :
    Calls Tryz.prog 104 #[.agg #[.int .u64 g, .int .i64 nb, .int .i64 pl, .int .i64 o, .int .i64 by_]] w (RetFew 4 w) := by
  have hk : ∀ o, (w.alloc o).heap.size = w.heap.size + 1 := fun o => by simp
  have Q0 := Lib.hid (show PLS w g nb pl o by_ (w.heap.size + 1) [] ((w.alloc (.cells #[.int .u64 g, .int .i64 nb, .int .i64 pl, .int .i64 o, .int .i64 by_] 133)).alloc (.cells #[.int .i64 0, .slice none 0 0] 162)) from
    ⟨hk (.cells #[.int .u64 g, .int .i64 nb, .int .i64 pl, .int .i64 o, .int .i64 by_] 133) ▸ pack_new (w.alloc (.cells #[.int .u64 g, .int .i64 nb, .int .i64 pl, .int .i64 o, .int .i64 by_] 133)), (Below.heap_alloc _ _ _ (by rw [hk]; omega)).trans (heap_alloc_new w _), chain (bel_new _ _) (bel_new _ _), by omega⟩)
  go_enter Tryz.func104, Tryz.ntmps104
  go_wp2_with fail
  refine (words_any _ _ [g] [] _ (Q0.out.pk.keep (bel_new _ _)) (words_out_new Q0.out.pk (by simp) rfl (by simp; omega)) (by simp)).mono ?_
  rintro e w2 ⟨rfl, hP, hs⟩
  have Q1 := Lib.hid (Q0.out.step (bel_new _ _) hs hP)
  clear hP hs
  obtain ⟨c0, c1, c2, c3, c4⟩ := cells5 Q1.out.b
  go_wp2_with fail
  refine (small_any _ 4 _ [nb] _ _ (Q1.out.pk.keep (bel_new _ _)) (ints_out_new Q1.out.pk (by simp) rfl (by simp; omega) (by simp)) (.inl rfl) (by simp [lim]; omega) (by simp [wordBytes_length])).mono ?_
  rintro e w3 ⟨rfl, hP, hs⟩
  have Q2 := Lib.hid (Q1.out.step (bel_new _ _) hs hP)
  clear hP hs c0 c1 c2 c3 c4
  obtain ⟨c0, c1, c2, c3, c4⟩ := cells5 Q2.out.b
  go_wp2_with fail
  refine (small_bad _ _ [pl, o, by_] _ _ (Q2.out.pk.keep (bel_new _ _)) (ints_out_new Q2.out.pk (by simp) rfl (by simp; omega) (by simp)) (by simp; omega) ⟨o, by simp, h3.1⟩ (by simp [wordBytes_length, smallBytes_length])).mono ?_
  rintro e w4 ⟨rfl, ⟨l', hl', hP⟩, hs⟩
  have HB4 := Lib.hid ((bel_step Q2.out.bel (bel_new _ _) Q2.out.bel.size).trans ((hs.below (Q2.out.pk.keep (bel_new _ _))).mono (Nat.le_of_lt Q2.out.lt)))
  have HP4 := Lib.hid hP
  have hl2 : l'.length ≤ 28 := by simp [wordBytes_length, smallBytes_length] at hl'; omega
  have HL2 := Lib.hid hl2
  clear hP hs hl' hl2 c0 c1 c2 c3 c4
  go_wp2_with fail
  refine (pfill_bad _ 28 l' _ HP4.out (by decide) HL2.out).mono ?_
  rintro e w5 ⟨rfl, hb5⟩
  have HB5 := Lib.hid (chain HB4.out hb5)
  have HP5 := Lib.hid (HP4.out.keep hb5)
  clear hb5
  go_wp2_with fail
  refine (done_bad _ l' _ HP5.out).mono ?_
  rintro e w6 ⟨rfl, hb6⟩
  have HB6 := Lib.hid (chain HB5.out hb6)
  have hcat : (⟨#[87, 76, 79, 71]⟩ : ByteArray).size + ByteArray.empty.size ≤ 9223372036854775807 := by decide
  clear hb6
  go_wp2
  go_ret
  exact ⟨_, rfl, by decide, HB6.out⟩

set_option maxRecDepth 100000 in
set_option maxHeartbeats 2000000 in
theorem lput_bad (g nb pl o : Int) (part : ByteArray) (by_ : Int) (w : World) (hby : by_ = part.size) (h0 : 0 ≤ g ∧ g ≤ 18446744073709551615) (h1 : 0 ≤ nb ∧ nb < 4294967296) (h2 : 0 ≤ pl ∧ pl ≤ 9223372036854775807) (h3 : 65536 ≤ o ∧ o ≤ 9223372036854775807) (h4 : part.size ≤ 224) :
    Calls Tryz.prog 87 #[.agg #[.int .u64 g, .int .i64 nb, .int .i64 pl, .int .i64 o, .int .i64 by_], .string part] w (RetFew 500 w) := by
  have hk : ∀ o, (w.alloc o).heap.size = w.heap.size + 1 := fun o => by simp
  have Q0 := Lib.hid (show PLS w g nb pl o by_ (w.heap.size + 1) [] ((w.alloc (.cells #[.int .u64 g, .int .i64 nb, .int .i64 pl, .int .i64 o, .int .i64 by_] 133)).alloc (.cells #[.int .i64 0, .slice none 0 0] 162)) from
    ⟨hk (.cells #[.int .u64 g, .int .i64 nb, .int .i64 pl, .int .i64 o, .int .i64 by_] 133) ▸ pack_new (w.alloc (.cells #[.int .u64 g, .int .i64 nb, .int .i64 pl, .int .i64 o, .int .i64 by_] 133)), (Below.heap_alloc _ _ _ (by rw [hk]; omega)).trans (heap_alloc_new w _), chain (bel_new _ _) (bel_new _ _), by omega⟩)
  have hI : (part.size : Int) ≤ 224 := by omega
  obtain ⟨m, hm⟩ : ∃ m : Nat, m = 224 - part.size := ⟨_, rfl⟩
  have hmI : (224 : Int) - part.size = (m : Int) := by omega
  have hm2 : m ≤ 224 := by omega
  have HBY := Lib.hid (show 0 ≤ by_ ∧ by_ < 65536 by omega)
  have HH3 := Lib.hid h3
  have HH2 := Lib.hid h2
  clear hby hm h4 h3 h2
  go_enter Tryz.func87, Tryz.ntmps87
  go_wp2_with fail
  refine (pfill_any _ m [] _ Q0.out.pk (by omega) (by simp)).mono ?_
  rintro e w2 ⟨rfl, hP, hs⟩
  rw [List.nil_append, List.length_nil, Nat.sub_zero] at hP
  have Q1 := Lib.hid (Q0.out.step (Below.refl _ _) hs hP)
  clear hP hs
  go_wp2_with fail
  refine (done_ok _ _ _ Q1.out.pk).mono ?_
  rintro e w3 ⟨rfl, hb3⟩
  have HB3 := Lib.hid (chain Q1.out.bel hb3)
  obtain ⟨c0, c1, c2, c3, c4⟩ := cells5 (heap_step Q1.out.b hb3)
  clear hb3
  go_wp2_with fail
  refine (head_bad g nb pl o by_ _ h0 h1 HH2.out HH3.out HBY.out).mono ?_
  rintro e w4 ⟨H, rfl, hH4, hb4⟩
  have HB4 := Lib.hid (chain HB3.out hb4)
  have hz2 : (strOf (List.replicate m 0)).size = m := by rw [strOf_size, List.length_replicate]
  obtain ⟨Z, hZ⟩ : ∃ Z, Z = strOf (List.replicate m 0) := ⟨_, rfl⟩
  rw [← hZ] at hz2 ⊢
  have hcat : H.size + part.size ≤ 9223372036854775807 := by omega
  have hcat2 : (H ++ part).size + Z.size ≤ 9223372036854775807 := by rw [ByteArray.size_append]; omega
  have hcat3 : H.size + part.size + Z.size ≤ 9223372036854775807 := by omega
  have HSZ := Lib.hid (show ((H ++ part) ++ Z).size ≤ 500 by rw [ByteArray.size_append, ByteArray.size_append]; omega)
  clear hb4 hZ hz2 hH4 c0 c1 c2 c3 c4
  go_wp2
  go_ret
  exact ⟨_, rfl, HSZ.out, HB4.out⟩

theorem lput_some (g nb pl o : Int) (part : ByteArray) (by_ : Int) (w : World) (hby : by_ = part.size) (h0 : 0 ≤ g ∧ g ≤ 18446744073709551615) (h1 : 0 ≤ nb ∧ nb < 4294967296) (h2 : 0 ≤ pl ∧ pl ≤ o) (h3 : o ≤ 9223372036854775807) (h4 : part.size ≤ 224) :
    Calls Tryz.prog 87 #[.agg #[.int .u64 g, .int .i64 nb, .int .i64 pl, .int .i64 o, .int .i64 by_], .string part] w (RetFew 500 w) := by
  by_cases h : o < 65536
  · refine (lput_any g nb pl o part by_ w hby h0 h1 ⟨h2.1, by omega⟩ ⟨by omega, h⟩ h4).mono ?_
    rintro e w' ⟨rfl, hb⟩
    exact ⟨_, rfl, by rw [putB_size _ _ _ _ _ h4]; decide, hb⟩
  · exact lput_bad g nb pl o part by_ w hby h0 h1 ⟨h2.1, by omega⟩ ⟨by omega, h3⟩ h4

/-- What lay leaves of a long record: so many texts, in a block of its own. -/
def RetLays (w : World) (n : Nat) (e : Ending) (w' : World) : Prop := ∃ v, ∃ l : List ByteArray, e = .returned v ∧ l.length = n ∧ w'.ownsRow w.heap.size 9 1 v l.length (l.map Value.string) ∧ Below w.heap.size w w'
set_option maxRecDepth 100000 in
set_option maxHeartbeats 2000000 in
theorem lay_long (g nb : Int) (s : ByteArray) (w : World) (h0 : 0 ≤ g ∧ g ≤ 18446744073709551615) (h1 : 0 ≤ nb ∧ nb < 4294967296) (hs : s.size ≤ 140737488351232) :
    Calls Tryz.prog 63 #[.int .u64 g, .int .i64 nb, .string s] w (RetLays w (blks s.size)) := by
  obtain ⟨i0, hi, hz0, hz1, hz2⟩ := info_parts info_strS
  obtain ⟨N, hN⟩ : ∃ N, N = blks s.size := ⟨_, rfl⟩
  have hNb : N ≤ 700000000000 := by rw [hN]; unfold blks; split <;> omega
  have HN := Lib.hid hN
  have HS := Lib.hid hs
  have hsI : (s.size : Int) ≤ 140737488351232 := by omega
  have hNI : (N : Int) ≤ 700000000000 := by omega
  rw [← hN]
  clear hN hs
  go_enter Tryz.func63, Tryz.ntmps63
  go_wp2_with fail
  refine (blocks_any s.size _ (by have := HS.out; omega)).mono ?_
  rintro e w1 ⟨rfl, hb1⟩
  rw [← HN.out]
  have HB1 := Lib.hid hb1
  clear hb1
  go_wp2
  go_loopw [7, 15] (fun v x wr => ∃ (k : Nat) (l : List ByteArray), k ≤ N ∧ x = .int .i64 k ∧ l.length = k ∧ Hid (wr.ownsRow w.heap.size 9 1 v k (l.map Value.string)) ∧ Hid (Below w.heap.size w wr)) (fun _ x _ => N - (intOf x).toNat)
  case atStart => exact ⟨0, [], Nat.zero_le _, rfl, rfl, Lib.hid (World.ownsRow_nil _ _ _ _), HB1⟩
  case round =>
    obtain ⟨k, l, hk, rfl, hlk, HO, HB⟩ := hrel
    have HLK := Lib.hid hlk
    clear hlk
    by_cases hlt : k < N
    · obtain ⟨A, hA⟩ : ∃ A : Nat, (k : Int) * 224 = A := ⟨k * 224, by omega⟩
      obtain ⟨M, hM⟩ : ∃ M : Nat, min (((k : Int) + 1) * 224) (s.size : Int) = M := ⟨min ((k + 1) * 224) s.size, by omega⟩
      have hkn : k * 224 ≤ s.size := blks_part (by rw [← HN.out]; exact hlt)
      have hAM : A ≤ M := by omega
      have hMs : M ≤ s.size := by omega
      have HPS := Lib.hid (show (s.extract A M).size ≤ 224 by rw [ByteArray.size_extract]; omega)
      obtain ⟨P, hPP⟩ : ∃ P, s.extract A M = P := ⟨_, rfl⟩
      rw [hPP] at HPS
      have hk12 : (k : Int) ≤ 700000000000 := by omega
      clear hkn
      go_wp2_with fail
      refine (lput_some g nb k N P P.size _ rfl h0 h1 (by omega) (by omega) HPS.out).mono ?_
      rintro e w2 ⟨r, rfl, hr, hb2⟩
      have HO2 := Lib.hid (own_step HO.out hb2)
      have HB2 := Lib.hid (chain HB.out hb2)
      obtain ⟨v0, ca, rfl⟩ := own_form HO.out
      have hsz : w.heap.size ≤ w2.heap.size := HB2.out.size
      clear hb2 hr
      go_wp2_with (at_builtin; refine wpList_append_lies _ rfl (.tmp 28) (.tmp 38) 32 rfl w.heap.size 9 i0 (.string ByteArray.empty) 1 16 Tryz.underlying32 hi hz0 hz1 hz2 rfl (by decide) _ k (l.map Value.string) rfl (HO2.out.alloc _) ⟨w2.heap.size, 0, none⟩ 1 1 [.string r] rfl rfl ?c1 ?c2 (by decide) ?c3 ?c4 ?c5 (w2.heap.size + 1) ?c6 ?_)
      case c1 => exact one_cell _ _ _
      case c2 => simp [Value.oneCell']
      case c3 => unfold maxLen; omega
      case c4 => omega
      case c5 => simp; omega
      case c6 => simp
      intro g3 cp w3 hown hg hat hlt3
      have HO3 := Lib.hid (show w3.ownsRow w.heap.size 9 1 (.slice (some ⟨g3, 0, none⟩) (k + 1) cp) (k + 1) ((l ++ [r]).map Value.string) by rw [List.map_append]; exact hown)
      have HB3 := Lib.hid (Below.grown (bel_alloc (o := .cells #[.string r] 9) HB2.out hsz) hg (by simp; omega) (fun j hj => (HO2.out.lt j hj).1))
      clear hown hg hat hlt3
      go_wp2
      go_roundw
      case rel => exact ⟨k + 1, l ++ [r], by omega, by go_num, by rw [List.length_append, HLK.out]; rfl, HO3, HB3⟩
      case measure => simp [intOf]; omega
    · have hkn : k = N := by omega
      have HO' := Lib.hid (show wr.ownsRow w.heap.size 9 1 _ l.length (l.map Value.string) by rw [HLK.out]; exact HO.out)
      have HKN := Lib.hid hkn
      clear HO hkn
      go_wp2
      go_ret
      exact ⟨_, l, rfl, HLK.out.trans HKN.out, HO'.out, HB.out⟩
end Go.Proofs.YtjcggkfinhkcoaaGreat
