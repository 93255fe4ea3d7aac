/-
  The contracts of sedimentbook.LentTiers, StaysTiers.
-/
import Derived.Test.YtaenpcglaenlaaaBookR
namespace Go.Proofs.Ytaenpcglaenlaaa
open Go.RowKit
set_option linter.unusedVariables false
set_option linter.unusedSimpArgs false

/-- A list of tiers that was lent: these, and the mark behind them. -/
def LentR (w : World) (v : Value) (l : List TierV) : Prop :=
  ∃ g cap, v = .slice (some ⟨g, 0, none⟩) l.length cap ∧ g < w.heap.size ∧ l.length < cap ∧ cap ≤ 9223372036854775807 ∧ (∀ j, j < l.length * 4 → w.cell? ⟨g, j, none⟩ = (flatT l)[j]?) ∧ w.cell? ⟨g, l.length * 4 + 2, none⟩ = some (.int .i64 (-77))
theorem LentR.below {w w' : World} {v : Value} {l : List TierV} (h : LentR w v l) (hb : Below w.heap.size w w') : LentR w' v l := by
  obtain ⟨g, cap, h1, h2, h3, h4, h5, h6⟩ := h
  exact ⟨g, cap, h1, Nat.lt_of_lt_of_le h2 hb.size, h3, h4, fun j hj => (hb.cell (p := ⟨g, j, none⟩) h2).trans (h5 j hj), (hb.cell (p := ⟨g, _, none⟩) h2).trans h6⟩
theorem LentR.tiers {w : World} {v : Value} {l : List TierV} (h : LentR w v l) (hI : ∀ x ∈ l, x.ok) : TiersAt w v l := by
  obtain ⟨g, cap, h1, h2, h3, h4, h5, h6⟩ := h
  refine ⟨_, cap, h1, hI, ⟨by omega, h4⟩, fun _ => ⟨g, 0, rfl, h2, fun j hj => ?_⟩⟩
  obtain ⟨d0, d1, d2, d3⟩ := flatT_at l j hj
  rw [Nat.zero_add, h5 _ (by omega), h5 _ (by omega), h5 _ (by omega), h5 _ (by omega)]
  exact ⟨d0, d1, d2, d3⟩
theorem lentR_of_own {w : World} {base g cap : Nat} {l : List TierV} (h : w.ownsRow base 32 4 (.slice (some ⟨g, 0, none⟩) (l.length + 1) cap) (l.length + 1) (flatT l ++ [.string ByteArray.empty, .int .i64 0, .int .i64 (-77), .int .i64 0])) : LentR w (.slice (some ⟨g, 0, none⟩) l.length cap) l := by
  have hl := flatT_len l
  obtain ⟨g2, c2, h1, h2, h3, h4, _, h5, _, _, h6⟩ := (OwnL.of_row h).cells (by omega)
  injection h1 with h1 _ h7
  injection h1 with h1; injection h1 with h1
  subst h1
  subst h7
  refine ⟨_, _, rfl, h5, by omega, h4, fun j hj => ?_, ?_⟩
  · rw [h6 j (by omega), List.getElem?_append_left (by omega)]
  · rw [h6 _ (by omega), List.getElem?_append_right (by omega), show l.length * 4 + 2 - (flatT l).length = 2 by omega]; rfl

set_option maxRecDepth 100000 in
set_option maxHeartbeats 1000000 in
theorem lent_tiers (v : Value) (l : List TierV) (w : World) (hv : TiersAt w v l) (hl : l.length ≤ 1000000) :
    Calls Try.prog 20 #[v] w (fun e' w' => ∃ u, e' = .returned u ∧ LentR w' u l ∧ Below w.heap.size w w' ∧ ∃ g cap cur, u = .slice (some ⟨g, 0, none⟩) l.length cap ∧ w.heap.size ≤ g ∧ w'.heap[g]? = some (.cells cur 32 (0, 0))) := by
  obtain ⟨i0, hi, hz0, hz1, hz2⟩ := info_parts info_tier
  have hv' := hv
  obtain ⟨a, ca, rfl, hI, hlen, hc⟩ := hv
  by_cases h0 : l = []
  · subst h0
    have hap := append_nil_emptyR a ca
    clear hI hc hlen hv'
    go_enter Try.func20, Try.ntmps20
    go_wp2_with (first | (at_builtin; refine wpList_append_nil0 rfl (.const (.slice none 0 0)) (.tmp 3) 22 rfl a ca rfl rfl hap ?_) | (at_builtin; refine wpList_append_lies _ rfl (.tmp 4) (.tmp 6) 22 rfl w.heap.size 32 i0 (.agg #[.string ByteArray.empty, .int .i64 0, .int .i64 0, .int .i64 0]) 4 40 Try.underlying22 hi hz0 hz1 hz2 rfl (by decide) _ 0 [] rfl (World.ownsRow_nil _ _ _ _) ⟨w.heap.size, 0, none⟩ 1 1 [.string ByteArray.empty, .int .i64 0, .int .i64 (-77), .int .i64 0] rfl rfl ?c1 ?c2 (by decide) ?c3 ?c4 ?c5 (w.heap.size + 1) ?c6 ?_))
    (try case c1 => exact four_cell _ _ _ _ _ _)
    (try case c2 => simp [Value.oneCell'])
    case c3 => unfold maxLen; omega
    case c4 => omega
    case c5 => simp
    case c6 => simp
    intro g cp w1 hown1 hg hat hlt1
    have hL := lentR_of_own (l := []) (by simpa [flatT] using hown1)
    have HL := Lib.hid hL
    have HOT := Lib.hid (lent_rowI hown1)
    obtain ⟨_, _, he, _, h2, _, _, _⟩ := hL
    injection he with e1 e2 e3
    have hcp : 0 < cp := by rw [e3]; simpa using h2
    have hbel := Below.grown (bel_new w (.cells #[.string ByteArray.empty, .int .i64 0, .int .i64 (-77), .int .i64 0] 32)) hg (by simp) (fun k hk => by simp [Value.ownBlock] at hk)
    have HB := Lib.hid hbel
    clear hown1 hg hat hlt1 e1 e2 e3 h2 hbel
    go_wp2
    go_ret
    exact ⟨_, rfl, HL.out, HB.out, _, _, _, rfl, HOT.out.1, HOT.out.2.choose_spec⟩
  · obtain ⟨b, o, rfl, hbw, hcl⟩ := hv'.flat h0
    have hpos : 0 < l.length := List.length_pos_iff.2 h0
    have HC := Lib.hid hcl
    have hn1 : l.length ≤ 1000000 := hl
    have hfl := flatT_len l
    clear hcl hI hc h0 hv'
    go_enter Try.func20, Try.ntmps20
    go_wp2_with (at_builtin; refine wpList_append_lies _ rfl (.const (.slice none 0 0)) (.tmp 3) 22 rfl w.heap.size 32 i0 (.agg #[.string ByteArray.empty, .int .i64 0, .int .i64 0, .int .i64 0]) 4 40 Try.underlying22 hi hz0 hz1 hz2 rfl (by decide) _ 0 [] rfl (World.ownsRow_nil _ _ _ _) ⟨b, o, none⟩ l.length ca (flatT l) rfl hfl ?c1 flatT_one hpos ?c3 ?c4 ?c5 w.heap.size rfl ?_)
    case c1 => exact HC.out
    case c3 => unfold maxLen; omega
    case c4 => omega
    case c5 => exact Nat.le_refl _
    intro g cp w1 hown1 hg hat hlt1
    have hgs : w.heap.size ≤ g := (hown1.lt g rfl).1
    (try simp only [Nat.zero_add, List.nil_append] at hown1)
    have HO1 := Lib.hid hown1
    have hbel := Below.grown (Below.refl w.heap.size w) hg (Nat.le_refl _) (fun k hk => by simp [Value.ownBlock] at hk)
    have HB1 := Lib.hid hbel
    have hsz := hg.size
    clear hown1 hg hat hbel
    go_wp2_with (at_builtin; refine wpList_append_lies _ rfl (.tmp 4) (.tmp 6) 22 rfl w.heap.size 32 i0 (.agg #[.string ByteArray.empty, .int .i64 0, .int .i64 0, .int .i64 0]) 4 40 Try.underlying22 hi hz0 hz1 hz2 rfl (by decide) _ l.length (flatT l) rfl (HO1.out.alloc _) ⟨w1.heap.size, 0, none⟩ 1 1 [.string ByteArray.empty, .int .i64 0, .int .i64 (-77), .int .i64 0] rfl rfl ?d1 ?d2 (by decide) ?d3 ?d4 ?d5 (w1.heap.size + 1) ?d6 ?_)
    (try case d1 => exact four_cell _ _ _ _ _ _)
    (try case d2 => simp [Value.oneCell'])
    case d3 => unfold maxLen; omega
    case d4 => omega
    case d5 => simp; omega
    case d6 => simp
    intro g2 cp2 w2 hown2 hg2 hat2 hlt2
    have hL := lentR_of_own hown2
    have HL := Lib.hid hL
    have HOT := Lib.hid (lent_rowI hown2)
    obtain ⟨_, _, he, _, h2, _, _, _⟩ := hL
    injection he with e1 e2 e3
    have hcp : l.length < cp2 := by rw [e3]; exact h2
    have hbel := Below.grown (bel_alloc (o := .cells #[.string ByteArray.empty, .int .i64 0, .int .i64 (-77), .int .i64 0] 32) HB1.out hsz) hg2 (by simp; omega) (fun k hk => by simp [Value.ownBlock] at hk; omega)
    have HB := Lib.hid hbel
    clear hown2 hg2 hat2 hlt2 e1 e2 e3 h2 hbel
    go_wp2
    go_ret
    exact ⟨_, rfl, HL.out, HB.out, _, _, _, rfl, HOT.out.1, HOT.out.2.choose_spec⟩

set_option maxRecDepth 100000 in
set_option maxHeartbeats 1000000 in
theorem stays_tiers (v u : Value) (l : List TierV) (w : World) (hv : LentR w v l) (hu : TiersAt w u l) (hI : ∀ x ∈ l, x.ok) :
    Calls Try.prog 30 #[v, u] w (BoolPost w true) := by
  have HV := Lib.hid hv
  have HU := Lib.hid hu
  have HI := Lib.hid hI
  obtain ⟨g, cap, rfl, hg, hcap, hcap2, _, hm⟩ := hv
  have HM := Lib.hid hm
  clear hu hI hm
  go_enter Try.func30, Try.ntmps30
  go_wp2_with fail
  refine (same_tiers _ u l l w (HV.out.tiers HI.out) HU.out).mono ?_
  rintro e w1 ⟨rfl, hb⟩
  have hm1 : w1.cell? ⟨g, l.length * 4 + 2, none⟩ = some (.int .i64 (-77)) := (hb.cell (p := ⟨g, l.length * 4 + 2, none⟩) hg).trans HM.out
  go_wp2
  go_ret
  exact ⟨rfl, hb⟩
end Go.Proofs.Ytaenpcglaenlaaa
