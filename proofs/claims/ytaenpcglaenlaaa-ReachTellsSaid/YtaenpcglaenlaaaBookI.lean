/-
  Marks of lists of ints, and copies of them.
-/
import Derived.Test.YtaenpcglaenlaaaBookFam
import Derived.Test.YtaenpcglaenlaaaBookSameI
namespace Go.Proofs.Ytaenpcglaenlaaa
open Go.RowKit
set_option linter.unusedVariables false
set_option linter.unusedSimpArgs false

def markI (i k : Nat) : Int := -1000000 * (i : Int) - k - 7
def marksI (i f n : Nat) : List Int := (List.range n).map fun j => markI i (f + j)
theorem marksI_len (i f n : Nat) : (marksI i f n).length = n := by simp [marksI]
theorem marksI_snoc (i f n : Nat) : marksI i f (n + 1) = marksI i f n ++ [markI i (f + n)] := by unfold marksI; rw [List.range_succ]; simp
theorem marksI_app (i f n m : Nat) : marksI i f (n + m) = marksI i f n ++ marksI i (f + n) m := by
  induction m with
  | zero => simp [marksI]
  | succ m ih => rw [← Nat.add_assoc, marksI_snoc, ih, marksI_snoc, List.append_assoc, Nat.add_assoc]
theorem marksI_ok (i f n : Nat) (hi : i ≤ 300) (hf : f ≤ 1000000) (hn : n ≤ 1000000) : ∀ x ∈ marksI i f n, -9223372036854775808 ≤ x ∧ x ≤ 9223372036854775807 := by
  intro x hx
  unfold marksI at hx
  obtain ⟨j, hj, rfl⟩ := List.mem_map.1 hx
  have := List.mem_range.1 hj
  unfold markI; omega
theorem marksI_get (i f n j : Nat) (hj : j < n) : (marksI i f n).getD j 0 = markI i (f + j) := by simp [marksI, hj]
theorem ints_of_ownL {w : World} {B : Nat} {v : Value} {l : List Int} (h : OwnL w B 3 1 v l.length (l.map (Value.int .i64))) (hI : ∀ x ∈ l, -9223372036854775808 ≤ x ∧ x ≤ 9223372036854775807) : IntsAt w v l := by
  by_cases h0 : l = []
  · subst h0
    obtain ⟨a, c, rfl⟩ := h.form
    have := h.cap
    exact ⟨a, c, rfl, hI, ⟨Nat.zero_le _, this.2.2⟩, fun h => absurd rfl h⟩
  · obtain ⟨g, c, rfl, h1, h2, h3, _, h4, _, _, h5⟩ := h.cells (List.length_pos_iff.2 h0)
    refine ⟨_, c, rfl, hI, ⟨h2, h3⟩, fun _ => ⟨g, 0, rfl, h4, fun j hj => ?_⟩⟩
    rw [Nat.zero_add, h5 j (by omega)]
    simp [hj]

set_option maxRecDepth 100000 in
set_option maxHeartbeats 1000000 in
theorem marks_i (i f n : Nat) (w : World) (h1 : i ≤ 300) (h2 : f ≤ 1000000) (h3 : n ≤ 1000000) :
    Calls Try.prog 86 #[.int .i64 i, .int .i64 f, .int .i64 n] w (fun x w' => ∃ v, x = .returned v ∧ w'.ownsRow w.heap.size 3 1 v n ((marksI i f n).map (Value.int .i64)) ∧ Below w.heap.size w w') := by
  obtain ⟨i0, hi, hz0, hz1, hz2⟩ := info_parts info_int
  go_enter Try.func86, Try.ntmps86
  go_wp2
  go_loopw [7, 8] (fun v kk wr => ∃ (j k : Nat) (ao : Option Addr) (ca : Nat), j ≤ n ∧ k = f + j ∧ kk = .int .i64 k ∧ v = .slice ao j ca ∧ Hid (wr.ownsRow w.heap.size 3 1 (.slice ao j ca) j ((marksI i f j).map (Value.int .i64))) ∧ Below w.heap.size w wr) (fun _ k _ => f + n - (intOf k).toNat)
  case atStart => exact ⟨0, f, none, 0, Nat.zero_le _, rfl, rfl, rfl, Lib.hid (World.ownsRow_nil _ _ _ _), Below.refl _ _⟩
  case round =>
    obtain ⟨j, k, ao, ca, hj, hk, rfl, rfl, HO, hnx⟩ := hrel
    by_cases hlt : j < n
    · have hq : (k : Int) < (f : Int) + n := by omega
      have HK := Lib.hid hk
      have HS := Lib.hid (marksI_snoc i f j)
      have HM := Lib.hid (show markI i (f + j) = -1000000 * (i : Int) - k - 7 by rw [← hk]; rfl)
      have hk2 : k ≤ 2000000 := by omega
      clear hk
      go_wp2_with (at_builtin; refine wpList_append_lies _ rfl (.tmp 17) (.tmp 23) 25 rfl w.heap.size 3 i0 (.int .i64 0) 1 8 Try.underlying25 hi hz0 hz1 hz2 rfl (by decide) _ j ((marksI i f j).map (Value.int .i64)) rfl (HO.out.alloc _) ⟨wr.heap.size, 0, none⟩ 1 1 [.int .i64 (-1000000 * (i : Int) - k - 7)] rfl rfl ?c1 ?c2 (by decide) ?c3 ?c4 ?c5 (wr.heap.size + 1) ?c6 ?_)
      case c1 => exact one_cell _ _ _
      case c2 => simp [Value.oneCell']
      case c3 => unfold maxLen; omega
      case c4 => omega
      case c5 => have := hnx.size; simp; omega
      case c6 => simp
      intro g cp w1 hown1 hg hat hlt1
      have HO1 := Lib.hid (show w1.ownsRow w.heap.size 3 1 (.slice (some ⟨g, 0, none⟩) (j + 1) cp) (j + 1) ((marksI i f (j + 1)).map (Value.int .i64)) by rw [HS.out, HM.out, List.map_append]; exact hown1)
      have hnx1 : Below w.heap.size w w1 := Below.grown (bel_alloc (o := .cells #[.int .i64 (-1000000 * (i : Int) - k - 7)] 3) hnx hnx.size) hg (by simp; have := hnx.size; omega) (fun g hg => (HO.out.lt g hg).1)
      clear hown1 hg hat hlt1
      go_wp2
      go_roundw
      case rel => exact ⟨j + 1, k + 1, some ⟨g, 0, none⟩, cp, hlt, by have := HK.out; omega, by go_num, rfl, HO1, hnx1⟩
      case measure => simp [intOf]; have := HK.out; omega
    · have hq : ¬ (k : Int) < (f : Int) + n := by omega
      obtain rfl : j = n := by omega
      go_wp2
      go_ret
      exact ⟨_, rfl, HO.out, hnx⟩

set_option maxRecDepth 100000 in
set_option maxHeartbeats 1000000 in
theorem copy_i (v : Value) (l : List Int) (w : World) (hv : IntsAt w v l) (hl : l.length ≤ 1000000) :
    Calls Try.prog 40 #[v] w (fun x w' => ∃ u, x = .returned u ∧ w'.ownsRow w.heap.size 3 1 u l.length (l.map (Value.int .i64)) ∧ Below w.heap.size w w') := by
  obtain ⟨i0, hi, hz0, hz1, hz2⟩ := info_parts info_int
  obtain ⟨a, ca, rfl, hI, hlen, hc⟩ := hv
  by_cases h0 : l = []
  · subst h0
    have hap := append_nil_empty a ca
    clear hI hc hlen
    go_enter Try.func40, Try.ntmps40
    go_wp2_with (at_builtin; refine wpList_append_nil0 rfl (.const (.slice none 0 0)) (.tmp 3) 25 rfl a ca rfl rfl hap ?_)
    go_ret
    exact ⟨_, rfl, World.ownsRow_nil _ _ _ _, Below.refl _ _⟩
  · obtain ⟨b, o, rfl, hbw, hcl⟩ := hc h0
    have hpos : 0 < l.length := List.length_pos_iff.2 h0
    have HC := Lib.hid hcl
    clear hcl hI hc h0
    go_enter Try.func40, Try.ntmps40
    go_wp2_with (at_builtin; refine wpList_append_lies _ rfl (.const (.slice none 0 0)) (.tmp 3) 25 rfl w.heap.size 3 i0 (.int .i64 0) 1 8 Try.underlying25 hi hz0 hz1 hz2 rfl (by decide) _ 0 [] rfl (World.ownsRow_nil _ _ _ _) ⟨b, o, none⟩ l.length ca (l.map (Value.int .i64)) rfl ?c0 ?c1 ?c2 hpos ?c3 ?c4 ?c5 w.heap.size rfl ?_)
    case c0 => simp
    case c1 =>
      intro j u hu
      have hj : j < l.length := by have := (List.getElem?_eq_some_iff.1 hu).1; simpa using this
      rw [add_at, HC.out j hj]
      simpa [hj] using hu
    case c2 => intro u hu; simp at hu; obtain ⟨x, _, rfl⟩ := hu; rfl
    case c3 => unfold maxLen; omega
    case c4 => omega
    case c5 => exact Nat.le_refl _
    intro g cp w1 hown1 hg hat hlt1
    (try simp only [Nat.zero_add, List.nil_append] at hown1)
    have HO1 := Lib.hid hown1
    have HB1 := Lib.hid (Below.grown (Below.refl w.heap.size w) hg (Nat.le_refl _) (fun k hk => by simp [Value.ownBlock] at hk))
    clear hown1 hg hat
    go_wp2
    go_ret
    exact ⟨_, rfl, HO1.out, HB1.out⟩
end Go.Proofs.Ytaenpcglaenlaaa
