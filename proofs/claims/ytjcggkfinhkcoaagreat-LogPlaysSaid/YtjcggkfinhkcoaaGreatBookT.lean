/-
  Marks of lists of texts, and copies of them.
-/
import Derived.Test.YtjcggkfinhkcoaaGreatBookFam
import Derived.Test.YtjcggkfinhkcoaaGreatBookTexts
namespace Go.Proofs.YtjcggkfinhkcoaaGreat
open Go.RowKit
set_option linter.unusedVariables false
set_option linter.unusedSimpArgs false

def markT (i k : Nat) : ByteArray := strOfNums [109, 65 + (i : Int) % 26, 65 + (i : Int) / 26 % 26, 48 + (k : Int) % 10, 48 + (k : Int) / 10 % 10, 48 + (k : Int) / 100 % 10]
theorem markT_size (i k : Nat) : (markT i k).size = 6 := strOfNums_size _
def marksT (i f n : Nat) : List ByteArray := (List.range n).map fun j => markT i (f + j)
theorem marksT_len (i f n : Nat) : (marksT i f n).length = n := by simp [marksT]
theorem marksT_snoc (i f n : Nat) : marksT i f (n + 1) = marksT i f n ++ [markT i (f + n)] := by unfold marksT; rw [List.range_succ]; simp
theorem marksT_app (i f n m : Nat) : marksT i f (n + m) = marksT i f n ++ marksT i (f + n) m := by
  induction m with
  | zero => simp [marksT]
  | succ m ih => rw [← Nat.add_assoc, marksT_snoc, ih, marksT_snoc, List.append_assoc, Nat.add_assoc]
theorem marksT_ok (i f n : Nat) (hi : i ≤ 300) (hf : f ≤ 1000000) (hn : n ≤ 1000000) : ∀ s ∈ marksT i f n, s.size ≤ 9223372036854775807 := by
  intro x hx
  unfold marksT at hx
  obtain ⟨j, hj, rfl⟩ := List.mem_map.1 hx
  rw [markT_size]; decide
theorem texts_of_ownL {w : World} {B : Nat} {v : Value} {l : List ByteArray} (h : OwnL w B 9 1 v l.length (l.map Value.string)) (hI : ∀ s ∈ l, s.size ≤ 9223372036854775807) : TextsAt w v l := by
  by_cases h0 : l = []
  · subst h0
    obtain ⟨a, c, rfl⟩ := h.form
    have := h.cap
    exact ⟨a, c, rfl, hI, ⟨Nat.zero_le _, this.2.2⟩, fun h => absurd rfl h⟩
  · obtain ⟨g, c, rfl, h1, h2, h3, _, h4, _, _, h5⟩ := h.cells (List.length_pos_iff.2 h0)
    refine ⟨_, c, rfl, hI, ⟨h2, h3⟩, fun _ => ⟨g, 0, rfl, h4, fun j hj => ?_⟩⟩
    rw [Nat.zero_add, h5 j (by omega)]
    simp [hj]
theorem name_conv (i k : Nat) (w : World) (b : Nat) (hb : w.heap.size = b) : (convert 143 9 (.slice (some ⟨b, 0, none⟩) 6 6)).run Tryz.prog (w.alloc (.cells #[.int .u8 109, .int .u8 (65 + (i : Int) % 26), .int .u8 (65 + (i : Int) / 26 % 26), .int .u8 (48 + (k : Int) % 10), .int .u8 (48 + (k : Int) / 10 % 10), .int .u8 (48 + (k : Int) / 100 % 10)] 5)) = .ok (.string (markT i k)) (w.alloc (.cells #[.int .u8 109, .int .u8 (65 + (i : Int) % 26), .int .u8 (65 + (i : Int) / 26 % 26), .int .u8 (48 + (k : Int) % 10), .int .u8 (48 + (k : Int) / 10 % 10), .int .u8 (48 + (k : Int) / 100 % 10)] 5)) := by
  subst hb
  exact run_convert_bytes_arg (w.alloc (.cells #[.int .u8 109, .int .u8 (65 + (i : Int) % 26), .int .u8 (65 + (i : Int) / 26 % 26), .int .u8 (48 + (k : Int) % 10), .int .u8 (48 + (k : Int) / 10 % 10), .int .u8 (48 + (k : Int) / 100 % 10)] 5)) 143 5 Tryz.underlying143 Tryz.underlying5 w.heap.size 0 6 6
    [109, 65 + (i : Int) % 26, 65 + (i : Int) / 26 % 26, 48 + (k : Int) % 10, 48 + (k : Int) / 10 % 10, 48 + (k : Int) / 100 % 10] rfl (fun j hj => by
      rw [cell_of_row _ _ _ _ _ _ (heap_alloc_new w _), Nat.zero_add]
      match j, hj with
      | 0, _ => rfl
      | 1, _ => rfl
      | 2, _ => rfl
      | 3, _ => rfl
      | 4, _ => rfl
      | 5, _ => rfl) 9 Tryz.underlying9
set_option maxRecDepth 100000 in
set_option maxHeartbeats 1000000 in
theorem name_any (i k : Nat) (w : World) (hi : i ≤ 300) (hk : k ≤ 2000000) :
    Calls Tryz.prog 101 #[.int .i64 i, .int .i64 k] w (RetB w (.string (markT i k))) := by
  have hcv := name_conv i k w w.heap.size rfl
  go_enter Tryz.func101, Tryz.ntmps101
  go_wp2
  go_ret
  exact ⟨rfl, bel_new _ _⟩

set_option maxRecDepth 100000 in
set_option maxHeartbeats 1000000 in
theorem marks_t (i f n : Nat) (w : World) (h1 : i ≤ 300) (h2 : f ≤ 1000000) (h3 : n ≤ 1000000) :
    Calls Tryz.prog 80 #[.int .i64 i, .int .i64 f, .int .i64 n] w (fun x w' => ∃ v, x = .returned v ∧ w'.ownsRow w.heap.size 9 1 v n ((marksT i f n).map Value.string) ∧ Below w.heap.size w w') := by
  obtain ⟨i0, hi, hz0, hz1, hz2⟩ := info_parts info_str
  go_enter Tryz.func80, Tryz.ntmps80
  go_wp2
  go_loopw [7, 8] (fun v kk wr => ∃ (j k : Nat) (ao : Option Addr) (ca : Nat), j ≤ n ∧ k = f + j ∧ kk = .int .i64 k ∧ v = .slice ao j ca ∧ Hid (wr.ownsRow w.heap.size 9 1 (.slice ao j ca) j ((marksT i f j).map Value.string)) ∧ Below w.heap.size w wr) (fun _ k _ => f + n - (intOf k).toNat)
  case atStart => exact ⟨0, f, none, 0, Nat.zero_le _, rfl, rfl, rfl, Lib.hid (World.ownsRow_nil _ _ _ _), Below.refl _ _⟩
  case round =>
    obtain ⟨j, k, ao, ca, hj, hk, rfl, rfl, HO, hnx⟩ := hrel
    by_cases hlt : j < n
    · have hq : (k : Int) < (f : Int) + n := by omega
      have HK := Lib.hid hk
      have HS := Lib.hid (show (marksT i f (j + 1)) = marksT i f j ++ [markT i k] by rw [marksT_snoc, hk])
      have hk2 : k ≤ 2000000 := by omega
      clear hk
      go_wp2_with fail
      refine (name_any i k _ h1 hk2).mono ?_
      rintro e w0 ⟨rfl, hb0⟩
      have HO0 := Lib.hid (own_step HO.out hb0)
      have hnx0 := bel_step hnx hb0 hnx.size
      have hsz0 := hnx0.size
      obtain ⟨s, hs⟩ : ∃ s, s = markT i k := ⟨_, rfl⟩
      rw [← hs]
      have HSS := Lib.hid hs
      clear hb0 hnx hs
      go_wp2_with (at_builtin; refine wpList_append_lies _ rfl (.tmp 17) (.tmp 21) 32 rfl w.heap.size 9 i0 (.string ByteArray.empty) 1 16 Tryz.underlying32 hi hz0 hz1 hz2 rfl (by decide) _ j ((marksT i f j).map Value.string) rfl (HO0.out.alloc _) ⟨w0.heap.size, 0, none⟩ 1 1 [.string s] rfl rfl ?c1 ?c2 (by decide) ?c3 ?c4 ?c5 (w0.heap.size + 1) ?c6 ?_)
      case c1 => exact one_cell _ _ _
      case c2 => simp [Value.oneCell']
      case c3 => unfold maxLen; omega
      case c4 => omega
      case c5 => simp; omega
      case c6 => simp
      intro g cp w1 hown1 hg hat hlt1
      have HO1 := Lib.hid (show w1.ownsRow w.heap.size 9 1 (.slice (some ⟨g, 0, none⟩) (j + 1) cp) (j + 1) ((marksT i f (j + 1)).map Value.string) by rw [HS.out, ← HSS.out, List.map_append]; exact hown1)
      have hnx1 : Below w.heap.size w w1 := Below.grown (bel_alloc (o := .cells #[.string s] 9) hnx0 hsz0) hg (by simp; omega) (fun g hg => (HO0.out.lt g hg).1)
      clear hown1 hg hat hlt1
      go_wp2
      go_roundw
      case rel => exact ⟨j + 1, k + 1, some ⟨g, 0, none⟩, cp, hlt, by have := HK.out; omega, by go_num, rfl, HO1, hnx1⟩
      case measure => simp [intOf]; have := HK.out; omega
    · have hq : ¬ (k : Int) < (f : Int) + n := by omega
      obtain rfl : j = n := by omega
      go_wp2
      go_ret
      exact ⟨_, rfl, HO.out, hnx⟩

set_option maxRecDepth 100000 in
set_option maxHeartbeats 1000000 in
theorem copy_t (v : Value) (l : List ByteArray) (w : World) (hv : TextsAt w v l) (hl : l.length ≤ 1000000) :
    Calls Tryz.prog 30 #[v] w (fun x w' => ∃ u, x = .returned u ∧ w'.ownsRow w.heap.size 9 1 u l.length (l.map Value.string) ∧ Below w.heap.size w w') := by
  obtain ⟨i0, hi, hz0, hz1, hz2⟩ := info_parts info_str
  obtain ⟨a, ca, rfl, hI, hlen, hc⟩ := hv
  by_cases h0 : l = []
  · subst h0
    have hap := append_nil_emptyT a ca
    clear hI hc hlen
    go_enter Tryz.func30, Tryz.ntmps30
    go_wp2_with (at_builtin; refine wpList_append_nilT rfl (.const (.slice none 0 0)) (.tmp 3) 32 rfl a ca rfl rfl hap ?_)
    go_ret
    exact ⟨_, rfl, World.ownsRow_nil _ _ _ _, Below.refl _ _⟩
  · obtain ⟨b, o, rfl, hbw, hcl⟩ := hc h0
    have hpos : 0 < l.length := List.length_pos_iff.2 h0
    have HC := Lib.hid hcl
    clear hcl hI hc h0
    go_enter Tryz.func30, Tryz.ntmps30
    go_wp2_with (at_builtin; refine wpList_append_lies _ rfl (.const (.slice none 0 0)) (.tmp 3) 32 rfl w.heap.size 9 i0 (.string ByteArray.empty) 1 16 Tryz.underlying32 hi hz0 hz1 hz2 rfl (by decide) _ 0 [] rfl (World.ownsRow_nil _ _ _ _) ⟨b, o, none⟩ l.length ca (l.map Value.string) rfl ?c0 ?c1 ?c2 hpos ?c3 ?c4 ?c5 w.heap.size rfl ?_)
    case c0 => simp
    case c1 =>
      intro j u hu
      have hj : j < l.length := by have := (List.getElem?_eq_some_iff.1 hu).1; simpa using this
      rw [add_at, HC.out j hj]
      simpa [hj] using hu
    case c2 => intro u hu; simp at hu; obtain ⟨x, _, rfl⟩ := hu; rfl
    case c3 => unfold maxLen; omega
    case c4 => omega
    case c5 => exact Nat.le_refl _
    intro g cp w1 hown1 hg hat hlt1
    (try simp only [Nat.zero_add, List.nil_append] at hown1)
    have HO1 := Lib.hid hown1
    have HB1 := Lib.hid (Below.grown (Below.refl w.heap.size w) hg (Nat.le_refl _) (fun k hk => by simp [Value.ownBlock] at hk))
    clear hown1 hg hat
    go_wp2
    go_ret
    exact ⟨_, rfl, HO1.out, HB1.out⟩
end Go.Proofs.YtjcggkfinhkcoaaGreat
