/-
  The contracts of sedimentbook.LentInts, StaysInts.
-/
import Derived.Test.YtaenpcglaenlaaaBookSameI
namespace Go.Proofs.Ytaenpcglaenlaaa
open Go.RowKit
set_option linter.unusedVariables false
set_option linter.unusedSimpArgs false

/-- A list that was lent: these numbers, and the mark behind them. -/
def Lent (w : World) (v : Value) (l : List Int) : Prop :=
  ∃ g cap, v = .slice (some ⟨g, 0, none⟩) l.length cap ∧ g < w.heap.size ∧ l.length < cap ∧ cap ≤ 9223372036854775807 ∧ (∀ j, j < l.length → w.cell? ⟨g, j, none⟩ = some (.int .i64 (l.getD j 0))) ∧ w.cell? ⟨g, l.length, none⟩ = some (.int .i64 (-77))
theorem Lent.below {w w' : World} {v : Value} {l : List Int} (h : Lent w v l) (hb : Below w.heap.size w w') : Lent w' v l := by
  obtain ⟨g, cap, h1, h2, h3, h4, h5, h6⟩ := h
  exact ⟨g, cap, h1, Nat.lt_of_lt_of_le h2 hb.size, h3, h4, fun j hj => (hb.cell (p := ⟨g, j, none⟩) h2).trans (h5 j hj), (hb.cell (p := ⟨g, _, none⟩) h2).trans h6⟩
theorem Lent.ints {w : World} {v : Value} {l : List Int} (h : Lent w v l) (hI : ∀ x ∈ l, -9223372036854775808 ≤ x ∧ x ≤ 9223372036854775807) : IntsAt w v l := by
  obtain ⟨g, cap, h1, h2, h3, h4, h5, h6⟩ := h
  exact ⟨_, cap, h1, hI, ⟨by omega, h4⟩, fun _ => ⟨g, 0, rfl, h2, fun j hj => by rw [Nat.zero_add]; exact h5 j hj⟩⟩

theorem lent_of_own {w : World} {base g cap : Nat} {l : List Int} (h : w.ownsRow base 3 1 (.slice (some ⟨g, 0, none⟩) (l.length + 1) cap) (l.length + 1) (l.map (Value.int .i64) ++ [.int .i64 (-77)])) : Lent w (.slice (some ⟨g, 0, none⟩) l.length cap) l := by
  have hf := h.form (by omega)
  obtain ⟨g', cap', he, _, hlt⟩ := hf
  have hc := fun j hj => h.cellAt j hj
  rcases h.2 with ⟨h1, _⟩ | ⟨g2, cap2, cur, h1, _, _, h2, h3, _, _⟩
  · cases h1
  · injection h1 with e1 e2 e3
    injection he with f1 f2 f3
    injection f1 with f1; injection f1 with f1
    subst f1
    rw [← e3] at h2 h3
    have h3' : cap ≤ 9223372036854775807 := by unfold maxLen at h3; omega
    refine ⟨_, _, rfl, by assumption, by omega, h3', fun j hj => ?_, ?_⟩
    · rw [hc j (by omega), List.getElem?_append_left (by simpa using hj)]; simp [hj]
    · rw [hc _ (by omega), List.getElem?_append_right (by simp)]; simp

theorem lent_rowI {w : World} {B n g cap s : Nat} {T : TypeId} {xs : List Value} (h : w.ownsRow B T s (.slice (some ⟨g, 0, none⟩) n cap) n xs) : B ≤ g ∧ ∃ cur, w.heap[g]? = some (.cells cur T (0, 0)) := by
  rcases h.2 with ⟨h1, _⟩ | ⟨g', cap', cur, h1, h2, h3, _⟩
  · cases h1
  · injection h1 with h1 _ _; injection h1 with h1; injection h1 with h1
    subst h1
    exact ⟨h2, cur, h3⟩
set_option maxRecDepth 100000 in
set_option maxHeartbeats 1000000 in
theorem lent_ints_own (v : Value) (l : List Int) (w : World) (hv : IntsAt w v l) (hl : l.length ≤ 1000000) :
    Calls Try.prog 19 #[v] w (fun e' w' => ∃ u, e' = .returned u ∧ Lent w' u l ∧ Below w.heap.size w w' ∧ ∃ g cap cur, u = .slice (some ⟨g, 0, none⟩) l.length cap ∧ w.heap.size ≤ g ∧ w'.heap[g]? = some (.cells cur 3 (0, 0))) := by
  obtain ⟨i0, hi, hz0, hz1, hz2⟩ := info_parts info_int
  obtain ⟨a, ca, rfl, hI, hlen, hc⟩ := hv
  by_cases h0 : l = []
  · subst h0
    have hap := append_nil_empty a ca
    clear hI hc hlen
    go_enter Try.func19, Try.ntmps19
    go_wp2_with (first | (at_builtin; refine wpList_append_nil0 rfl (.const (.slice none 0 0)) (.tmp 3) 25 rfl a ca rfl rfl hap ?_) | (at_builtin; refine wpList_append_lies _ rfl (.tmp 4) (.tmp 5) 25 rfl w.heap.size 3 i0 (.int .i64 0) 1 8 Try.underlying25 hi hz0 hz1 hz2 rfl (by decide) _ 0 [] rfl (World.ownsRow_nil _ _ _ _) ⟨w.heap.size, 0, none⟩ 1 1 [.int .i64 (-77)] rfl rfl ?c1 ?c2 (by decide) ?c3 ?c4 ?c5 (w.heap.size + 1) ?c6 ?_))
    case c1 => exact one_cell _ _ _
    case c2 => simp [Value.oneCell']
    case c3 => unfold maxLen; omega
    case c4 => omega
    case c5 => simp
    case c6 => simp
    intro g cp w1 hown1 hg hat hlt1
    have hL := lent_of_own (l := []) hown1
    have HL := Lib.hid hL
    have HOT := Lib.hid (lent_rowI hown1)
    obtain ⟨_, _, he, _, h2, _, _, _⟩ := hL
    injection he with e1 e2 e3
    have hcp : 0 < cp := by rw [e3]; simpa using h2
    have hbel := Below.grown (bel_new w (.cells #[.int .i64 (-77)] 3)) hg (by simp) (fun k hk => by simp [Value.ownBlock] at hk)
    have HB := Lib.hid hbel
    clear hown1 hg hat hlt1 e1 e2 e3 h2 hbel
    go_wp2
    go_ret
    exact ⟨_, rfl, HL.out, HB.out, _, _, _, rfl, HOT.out.1, HOT.out.2.choose_spec⟩
  · obtain ⟨b, o, rfl, hbw, hcl⟩ := hc h0
    have hpos : 0 < l.length := List.length_pos_iff.2 h0
    have HC := Lib.hid hcl
    have HI := Lib.hid hI
    have HL0 := Lib.hid hl
    have hn1 : l.length ≤ 1000000 := hl
    clear hcl hI hc h0
    go_enter Try.func19, Try.ntmps19
    go_wp2_with (at_builtin; refine wpList_append_lies _ rfl (.const (.slice none 0 0)) (.tmp 3) 25 rfl w.heap.size 3 i0 (.int .i64 0) 1 8 Try.underlying25 hi hz0 hz1 hz2 rfl (by decide) _ 0 [] rfl (World.ownsRow_nil _ _ _ _) ⟨b, o, none⟩ l.length ca (l.map (Value.int .i64)) rfl ?c0 ?c1 ?c2 hpos ?c3 ?c4 ?c5 w.heap.size rfl ?_)
    case c0 => simp
    case c1 =>
      intro j u hu
      have hj : j < l.length := by have := (List.getElem?_eq_some_iff.1 hu).1; simpa using this
      rw [add_at, HC.out j hj]
      simpa [hj] using hu
    case c2 => intro u hu; simp at hu; obtain ⟨x, _, rfl⟩ := hu; rfl
    case c3 => unfold maxLen; omega
    case c4 => omega
    case c5 => exact Nat.le_refl _
    intro g cp w1 hown1 hg hat hlt1
    have hgs : w.heap.size ≤ g := (hown1.lt g rfl).1
    (try simp only [Nat.zero_add, List.nil_append] at hown1)
    have HO1 := Lib.hid hown1
    have hbel := Below.grown (Below.refl w.heap.size w) hg (Nat.le_refl _) (fun k hk => by simp [Value.ownBlock] at hk)
    have HB1 := Lib.hid hbel
    have hsz := hg.size
    clear hown1 hg hat hbel
    go_wp2_with (at_builtin; refine wpList_append_lies _ rfl (.tmp 4) (.tmp 5) 25 rfl w.heap.size 3 i0 (.int .i64 0) 1 8 Try.underlying25 hi hz0 hz1 hz2 rfl (by decide) _ l.length (l.map (Value.int .i64)) rfl (HO1.out.alloc _) ⟨w1.heap.size, 0, none⟩ 1 1 [.int .i64 (-77)] rfl rfl ?c1 ?c2 (by decide) ?c3 ?c4 ?c5 (w1.heap.size + 1) ?c6 ?_)
    case c1 => exact one_cell _ _ _
    case c2 => simp [Value.oneCell']
    case c3 => unfold maxLen; omega
    case c4 => omega
    case c5 => simp; omega
    case c6 => simp
    intro g2 cp2 w2 hown2 hg2 hat2 hlt2
    have hL := lent_of_own hown2
    have HL := Lib.hid hL
    have HOT := Lib.hid (lent_rowI hown2)
    obtain ⟨_, _, he, _, h2, _, _, _⟩ := hL
    injection he with e1 e2 e3
    have hcp : l.length < cp2 := by rw [e3]; exact h2
    have hbel := Below.grown (bel_alloc (o := .cells #[.int .i64 (-77)] 3) HB1.out hsz) hg2 (by simp; omega) (fun k hk => by simp [Value.ownBlock] at hk; omega)
    have HB := Lib.hid hbel
    clear hown2 hg2 hat2 hlt2 e1 e2 e3 h2 hbel
    go_wp2
    go_ret
    exact ⟨_, rfl, HL.out, HB.out, _, _, _, rfl, HOT.out.1, HOT.out.2.choose_spec⟩

theorem lent_ints (v : Value) (l : List Int) (w : World) (hv : IntsAt w v l) (hl : l.length ≤ 1000000) :
    Calls Try.prog 19 #[v] w (fun e' w' => ∃ u, e' = .returned u ∧ Lent w' u l ∧ Below w.heap.size w w') :=
  (lent_ints_own v l w hv hl).mono fun e w' ⟨u, h1, h2, h3, _⟩ => ⟨u, h1, h2, h3⟩
set_option maxRecDepth 100000 in
set_option maxHeartbeats 1000000 in
theorem stays_ints (v u : Value) (l : List Int) (w : World) (hv : Lent w v l) (hu : IntsAt w u l) (hI : ∀ x ∈ l, -9223372036854775808 ≤ x ∧ x ≤ 9223372036854775807) :
    Calls Try.prog 29 #[v, u] w (BoolPost w true) := by
  have HV := Lib.hid hv
  have HU := Lib.hid hu
  have HI := Lib.hid hI
  obtain ⟨g, cap, rfl, hg, hcap, hcap2, _, hm⟩ := hv
  have HM := Lib.hid hm
  clear hu hI hm
  go_enter Try.func29, Try.ntmps29
  go_wp2_with fail
  refine (same_ints _ u l l w (HV.out.ints HI.out) HU.out).mono ?_
  rintro e w1 ⟨rfl, hb⟩
  have hm1 : w1.cell? ⟨g, l.length, none⟩ = some (.int .i64 (-77)) := (hb.cell (p := ⟨g, l.length, none⟩) hg).trans HM.out
  have hd : decide (l = l) = true := by simp
  rw [hd]
  clear hd
  go_wp2
  go_ret
  exact ⟨rfl, hb⟩
end Go.Proofs.Ytaenpcglaenlaaa
