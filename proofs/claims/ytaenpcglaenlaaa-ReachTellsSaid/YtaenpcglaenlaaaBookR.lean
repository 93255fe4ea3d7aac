/-
  Marks of lists of tiers, and copies of them.
-/
import Derived.Test.YtaenpcglaenlaaaBookFam
import Derived.Test.YtaenpcglaenlaaaBookSameR
namespace Go.Proofs.Ytaenpcglaenlaaa
open Go.RowKit
set_option linter.unusedVariables false
set_option linter.unusedSimpArgs false

def markR (i k : Nat) : TierV := ⟨ByteArray.empty, 0, -1000 * (i : Int) - k - 1, 0⟩
def marksR (i f n : Nat) : List TierV := (List.range n).map fun j => markR i (f + j)
theorem marksR_len (i f n : Nat) : (marksR i f n).length = n := by simp [marksR]
theorem marksR_snoc (i f n : Nat) : marksR i f (n + 1) = marksR i f n ++ [markR i (f + n)] := by unfold marksR; rw [List.range_succ]; simp
theorem marksR_app (i f n m : Nat) : marksR i f (n + m) = marksR i f n ++ marksR i (f + n) m := by
  induction m with
  | zero => simp [marksR]
  | succ m ih => rw [← Nat.add_assoc, marksR_snoc, ih, marksR_snoc, List.append_assoc, Nat.add_assoc]
theorem markR_ok (i k : Nat) (hi : i ≤ 300) (hk : k ≤ 3000000) : (markR i k).ok := by
  refine ⟨by show ByteArray.empty.size ≤ _; decide, by unfold I64; show _ ≤ (0 : Int) ∧ (0 : Int) ≤ _; decide, ?_, by unfold I64; show _ ≤ (0 : Int) ∧ (0 : Int) ≤ _; decide⟩
  show _ ≤ -1000 * (i : Int) - k - 1 ∧ -1000 * (i : Int) - k - 1 ≤ _
  omega
theorem marksR_ok (i f n : Nat) (hi : i ≤ 300) (hf : f ≤ 1000000) (hn : n ≤ 1000000) : ∀ x ∈ marksR i f n, x.ok := by
  intro x hx
  unfold marksR at hx
  obtain ⟨j, hj, rfl⟩ := List.mem_map.1 hx
  have := List.mem_range.1 hj
  exact markR_ok i (f + j) hi (by omega)
theorem flatT_app (a b : List TierV) : flatT (a ++ b) = flatT a ++ flatT b := by unfold flatT; rw [List.flatMap_append]
theorem tiers_of_ownL {w : World} {B : Nat} {v : Value} {l : List TierV} (h : OwnL w B 32 4 v l.length (flatT l)) (hl : ∀ x ∈ l, x.ok) : TiersAt w v l := by
  by_cases h0 : l = []
  · subst h0
    obtain ⟨a, c, rfl⟩ := h.form
    have := h.cap
    exact ⟨a, c, rfl, hl, ⟨Nat.zero_le _, this.2.2⟩, fun h => absurd rfl h⟩
  · obtain ⟨g, c, rfl, h1, h2, h3, _, h4, _, _, h5⟩ := h.cells (List.length_pos_iff.2 h0)
    refine ⟨_, c, rfl, hl, ⟨h2, h3⟩, fun _ => ⟨g, 0, rfl, h4, fun j hj => ?_⟩⟩
    obtain ⟨d0, d1, d2, d3⟩ := flatT_at l j hj
    rw [Nat.zero_add, h5 _ (by omega), h5 _ (by omega), h5 _ (by omega), h5 _ (by omega)]
    exact ⟨d0, d1, d2, d3⟩
theorem four_cell (w : World) (a b c d : Value) (T : TypeId) : ∀ (j : Nat) (u : Value), [a, b, c, d][j]? = some u → (w.alloc (.cells #[a, b, c, d] T)).cell? ((⟨w.heap.size, 0, none⟩ : Addr).add j) = some u := by
  intro j u h
  rw [add_at, Nat.zero_add, cell_of_row _ _ _ _ _ _ (heap_alloc_new w _)]
  simpa using h

set_option maxRecDepth 100000 in
set_option maxHeartbeats 1000000 in
theorem marks_r (i f n : Nat) (w : World) (h1 : i ≤ 300) (h2 : f ≤ 1000000) (h3 : n ≤ 1000000) :
    Calls Try.prog 89 #[.int .i64 i, .int .i64 f, .int .i64 n] w (fun x w' => ∃ v, x = .returned v ∧ w'.ownsRow w.heap.size 32 4 v n (flatT (marksR i f n)) ∧ Below w.heap.size w w') := by
  obtain ⟨i0, hi, hz0, hz1, hz2⟩ := info_parts info_tier
  go_enter Try.func89, Try.ntmps89
  go_wp2
  go_loopw [7, 8] (fun v kk wr => ∃ (j k : Nat) (ao : Option Addr) (ca : Nat), j ≤ n ∧ k = f + j ∧ kk = .int .i64 k ∧ v = .slice ao j ca ∧ Hid (wr.ownsRow w.heap.size 32 4 (.slice ao j ca) j (flatT (marksR i f j))) ∧ Below w.heap.size w wr) (fun _ k _ => f + n - (intOf k).toNat)
  case atStart => exact ⟨0, f, none, 0, Nat.zero_le _, rfl, rfl, rfl, Lib.hid (World.ownsRow_nil _ _ _ _), Below.refl _ _⟩
  case round =>
    obtain ⟨j, k, ao, ca, hj, hk, rfl, rfl, HO, hnx⟩ := hrel
    by_cases hlt : j < n
    · have hq : (k : Int) < (f : Int) + n := by omega
      have HK := Lib.hid hk
      have HS := Lib.hid (show flatT (marksR i f (j + 1)) = flatT (marksR i f j) ++ [.string ByteArray.empty, .int .i64 0, .int .i64 (-1000 * (i : Int) - k - 1), .int .i64 0] by rw [marksR_snoc, flatT_app, ← hk]; rfl)
      have hk2 : k ≤ 2000000 := by omega
      clear hk
      go_wp2_with (at_builtin; refine wpList_append_lies _ rfl (.tmp 17) (.tmp 24) 22 rfl w.heap.size 32 i0 (.agg #[.string ByteArray.empty, .int .i64 0, .int .i64 0, .int .i64 0]) 4 40 Try.underlying22 hi hz0 hz1 hz2 rfl (by decide) _ j (flatT (marksR i f j)) rfl (HO.out.alloc _) ⟨wr.heap.size, 0, none⟩ 1 1 [.string ByteArray.empty, .int .i64 0, .int .i64 (-1000 * (i : Int) - k - 1), .int .i64 0] rfl rfl ?c1 ?c2 (by decide) ?c3 ?c4 ?c5 (wr.heap.size + 1) ?c6 ?_)
      (try case c1 => exact four_cell _ _ _ _ _ _)
      (try case c2 => simp [Value.oneCell'])
      case c3 => unfold maxLen; omega
      case c4 => omega
      case c5 => have := hnx.size; simp; omega
      case c6 => simp
      intro g cp w1 hown1 hg hat hlt1
      have HO1 := Lib.hid (show w1.ownsRow w.heap.size 32 4 (.slice (some ⟨g, 0, none⟩) (j + 1) cp) (j + 1) (flatT (marksR i f (j + 1))) by rw [HS.out]; exact hown1)
      have hnx1 : Below w.heap.size w w1 := Below.grown (bel_alloc (o := .cells #[.string ByteArray.empty, .int .i64 0, .int .i64 (-1000 * (i : Int) - k - 1), .int .i64 0] 32) hnx hnx.size) hg (by simp; have := hnx.size; omega) (fun g hg => (HO.out.lt g hg).1)
      clear hown1 hg hat hlt1
      go_wp2
      go_roundw
      case rel => exact ⟨j + 1, k + 1, some ⟨g, 0, none⟩, cp, hlt, by have := HK.out; omega, by go_num, rfl, HO1, hnx1⟩
      case measure => simp [intOf]; have := HK.out; omega
    · have hq : ¬ (k : Int) < (f : Int) + n := by omega
      obtain rfl : j = n := by omega
      go_wp2
      go_ret
      exact ⟨_, rfl, HO.out, hnx⟩

theorem append_nil_emptyR (a : Option Addr) (c : Nat) (t : TypeId) (w : World) : (Builtin.append_ #[22, 22] t #[.slice none 0 0, .slice a 0 c]).run Try.prog w = .ok (.slice none 0 0) w := by
  obtain ⟨i0, hi, hz0, hz1, hz2⟩ := info_parts info_tier
  cases a <;> simp [Builtin.append_, run_underlying Try.underlying22, sizeOf, typeInfo, hi, Builtin.lenOf, Builtin.firstCells, loadCells, loadCellsFrom]
set_option maxRecDepth 100000 in
set_option maxHeartbeats 1000000 in
theorem copy_r (v : Value) (l : List TierV) (w : World) (hv : TiersAt w v l) (hl : l.length ≤ 1000000) :
    Calls Try.prog 41 #[v] w (fun x w' => ∃ u, x = .returned u ∧ w'.ownsRow w.heap.size 32 4 u l.length (flatT l) ∧ Below w.heap.size w w') := by
  obtain ⟨i0, hi, hz0, hz1, hz2⟩ := info_parts info_tier
  have hv' := hv
  obtain ⟨a, ca, rfl, hI, hlen, hc⟩ := hv
  by_cases h0 : l = []
  · subst h0
    have hap := append_nil_emptyR a ca
    clear hI hc hlen hv'
    go_enter Try.func41, Try.ntmps41
    go_wp2_with (at_builtin; refine wpList_append_nil0 rfl (.const (.slice none 0 0)) (.tmp 3) 22 rfl a ca rfl rfl hap ?_)
    go_ret
    exact ⟨_, rfl, World.ownsRow_nil _ _ _ _, Below.refl _ _⟩
  · obtain ⟨b, o, rfl, hbw, hcl⟩ := hv'.flat h0
    have hpos : 0 < l.length := List.length_pos_iff.2 h0
    have HC := Lib.hid hcl
    have hfl := flatT_len l
    clear hcl hI hc h0 hv'
    go_enter Try.func41, Try.ntmps41
    go_wp2_with (at_builtin; refine wpList_append_lies _ rfl (.const (.slice none 0 0)) (.tmp 3) 22 rfl w.heap.size 32 i0 (.agg #[.string ByteArray.empty, .int .i64 0, .int .i64 0, .int .i64 0]) 4 40 Try.underlying22 hi hz0 hz1 hz2 rfl (by decide) _ 0 [] rfl (World.ownsRow_nil _ _ _ _) ⟨b, o, none⟩ l.length ca (flatT l) rfl hfl ?c1 flatT_one hpos ?c3 ?c4 ?c5 w.heap.size rfl ?_)
    case c1 => exact HC.out
    case c3 => unfold maxLen; omega
    case c4 => omega
    case c5 => exact Nat.le_refl _
    intro g cp w1 hown1 hg hat hlt1
    (try simp only [Nat.zero_add, List.nil_append] at hown1)
    have HO1 := Lib.hid hown1
    have HB1 := Lib.hid (Below.grown (Below.refl w.heap.size w) hg (Nat.le_refl _) (fun k hk => by simp [Value.ownBlock] at hk))
    clear hown1 hg hat
    go_wp2
    go_ret
    exact ⟨_, rfl, HO1.out, HB1.out⟩
end Go.Proofs.Ytaenpcglaenlaaa
