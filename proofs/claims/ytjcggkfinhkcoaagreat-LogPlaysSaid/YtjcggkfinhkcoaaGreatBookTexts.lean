/-
  The contracts of sedimentbook.LentTexts, StaysTexts.
-/
import Derived.Test.YtjcggkfinhkcoaaGreatBookSame
namespace Go.Proofs.YtjcggkfinhkcoaaGreat
open Go.RowKit
set_option linter.unusedVariables false
set_option linter.unusedSimpArgs false

/-- A list that was lent: these texts, and the mark behind them. -/
def LentT (w : World) (v : Value) (l : List ByteArray) : Prop :=
  ∃ g cap, v = .slice (some ⟨g, 0, none⟩) l.length cap ∧ g < w.heap.size ∧ l.length < cap ∧ cap ≤ 9223372036854775807 ∧ (∀ j, j < l.length → w.cell? ⟨g, j, none⟩ = some (.string (l.getD j ByteArray.empty))) ∧ w.cell? ⟨g, l.length, none⟩ = some (.string ⟨#[109, 97, 114, 107]⟩)
theorem LentT.below {w w' : World} {v : Value} {l : List ByteArray} (h : LentT w v l) (hb : Below w.heap.size w w') : LentT w' v l := by
  obtain ⟨g, cap, h1, h2, h3, h4, h5, h6⟩ := h
  exact ⟨g, cap, h1, Nat.lt_of_lt_of_le h2 hb.size, h3, h4, fun j hj => (hb.cell (p := ⟨g, j, none⟩) h2).trans (h5 j hj), (hb.cell (p := ⟨g, _, none⟩) h2).trans h6⟩
theorem LentT.texts {w : World} {v : Value} {l : List ByteArray} (h : LentT w v l) (hI : ∀ s ∈ l, s.size ≤ 9223372036854775807) : TextsAt w v l := by
  obtain ⟨g, cap, h1, h2, h3, h4, h5, h6⟩ := h
  exact ⟨_, cap, h1, hI, ⟨by omega, h4⟩, fun _ => ⟨g, 0, rfl, h2, fun j hj => by rw [Nat.zero_add]; exact h5 j hj⟩⟩

theorem info_str : (Tryz.prog.info? 9).map (fun i => (i.zero, i.size, i.bytes)) = some (some (.string ByteArray.empty), 1, 16) := by kernel_rfl
theorem append_nil_emptyT (a : Option Addr) (c : Nat) (t : TypeId) (w : World) : (Builtin.append_ #[32, 32] t #[.slice none 0 0, .slice a 0 c]).run Tryz.prog w = .ok (.slice none 0 0) w := by
  obtain ⟨i0, hi, hz0, hz1, hz2⟩ := info_parts info_str
  cases a <;> simp [Builtin.append_, run_underlying Tryz.underlying32, sizeOf, typeInfo, hi, Builtin.lenOf, Builtin.firstCells, loadCells, loadCellsFrom]
theorem wpList_append_nilT {P : Program} {w : World} {ops : Array Oper} {rest : List Oper} {o : Oper} {a : Act} {Q : Exit → Act → World → Prop} (hgd : o.guard = none) (s x : Operand) (t : TypeId)
    (ho : o.op = .call { callee := .builtin .append, args := #[s, x], argTypes := #[t, t] }) (ad : Option Addr) (c : Nat) (hs : a.eval s = .slice none 0 0) (hx : a.eval x = .slice ad 0 c)
    (hr : ∀ ty w, (Builtin.append_ #[t, t] ty #[.slice none 0 0, .slice ad 0 c]).run P w = .ok (.slice none 0 0) w)
    (h : wpList P ops Q rest (a.put o.dst (.slice none 0 0)) w) : wpList P ops Q (o :: rest) a w := by
  refine wpList_plain hgd fun K hK => ?_
  have hrun := hr o.type w
  unfold Oper.wp
  simp [execOp, ho, resolve, invoke, builtin, hs, hx, hrun, Result.andThen]
  exact hK _ _ h

theorem lentT_of_own {w : World} {base g cap : Nat} {l : List ByteArray} (h : w.ownsRow base 9 1 (.slice (some ⟨g, 0, none⟩) (l.length + 1) cap) (l.length + 1) (l.map Value.string ++ [.string ⟨#[109, 97, 114, 107]⟩])) : LentT w (.slice (some ⟨g, 0, none⟩) l.length cap) l := by
  have hf := h.form (by omega)
  obtain ⟨g', cap', he, _, hlt⟩ := hf
  have hc := fun j hj => h.cellAt j hj
  rcases h.2 with ⟨h1, _⟩ | ⟨g2, cap2, cur, h1, _, _, h2, h3, _, _⟩
  · cases h1
  · injection h1 with e1 e2 e3
    injection he with f1 f2 f3
    injection f1 with f1; injection f1 with f1
    subst f1
    rw [← e3] at h2 h3
    have h3' : cap ≤ 9223372036854775807 := by unfold maxLen at h3; omega
    refine ⟨_, _, rfl, by assumption, by omega, h3', fun j hj => ?_, ?_⟩
    · rw [hc j (by omega), List.getElem?_append_left (by simpa using hj)]; simp [hj]
    · rw [hc _ (by omega), List.getElem?_append_right (by simp)]; simp

theorem lent_row {w : World} {B n g cap : Nat} {xs : List Value} (h : w.ownsRow B 9 1 (.slice (some ⟨g, 0, none⟩) n cap) n xs) : B ≤ g ∧ ∃ cur, w.heap[g]? = some (.cells cur 9 (0, 0)) := by
  rcases h.2 with ⟨h1, _⟩ | ⟨g', cap', cur, h1, h2, h3, _⟩
  · cases h1
  · injection h1 with h1 _ _; injection h1 with h1; injection h1 with h1
    subst h1
    exact ⟨h2, cur, h3⟩
set_option maxRecDepth 100000 in
set_option maxHeartbeats 1000000 in
theorem lent_texts_own (v : Value) (l : List ByteArray) (w : World) (hv : TextsAt w v l) (hl : l.length ≤ 1000000) :
    Calls Tryz.prog 8 #[v] w (fun e' w' => ∃ u, e' = .returned u ∧ LentT w' u l ∧ Below w.heap.size w w' ∧ ∃ g cap cur, u = .slice (some ⟨g, 0, none⟩) l.length cap ∧ w.heap.size ≤ g ∧ w'.heap[g]? = some (.cells cur 9 (0, 0))) := by
  obtain ⟨i0, hi, hz0, hz1, hz2⟩ := info_parts info_str
  obtain ⟨a, ca, rfl, hI, hlen, hc⟩ := hv
  by_cases h0 : l = []
  · subst h0
    have hap := append_nil_emptyT a ca
    clear hI hc hlen
    go_enter Tryz.func8, Tryz.ntmps8
    go_wp2_with (first | (at_builtin; refine wpList_append_nilT rfl (.const (.slice none 0 0)) (.tmp 3) 32 rfl a ca rfl rfl hap ?_) | (at_builtin; refine wpList_append_lies _ rfl (.tmp 4) (.tmp 5) 32 rfl w.heap.size 9 i0 (.string ByteArray.empty) 1 16 Tryz.underlying32 hi hz0 hz1 hz2 rfl (by decide) _ 0 [] rfl (World.ownsRow_nil _ _ _ _) ⟨w.heap.size, 0, none⟩ 1 1 [.string ⟨#[109, 97, 114, 107]⟩] rfl rfl ?c1 ?c2 (by decide) ?c3 ?c4 ?c5 (w.heap.size + 1) ?c6 ?_))
    case c1 => exact one_cell _ _ _
    case c2 => simp [Value.oneCell']
    case c3 => unfold maxLen; omega
    case c4 => omega
    case c5 => simp
    case c6 => simp
    intro g cp w1 hown1 hg hat hlt1
    have hL := lentT_of_own (l := []) hown1
    have HL := Lib.hid hL
    have HOT := Lib.hid (lent_row hown1)
    obtain ⟨_, _, he, _, h2, _, _, _⟩ := hL
    injection he with e1 e2 e3
    have hcp : 0 < cp := by rw [e3]; simpa using h2
    have hbel := Below.grown (bel_new w (.cells #[.string ⟨#[109, 97, 114, 107]⟩] 9)) hg (by simp) (fun k hk => by simp [Value.ownBlock] at hk)
    have HB := Lib.hid hbel
    clear hown1 hg hat hlt1 e1 e2 e3 h2 hbel
    go_wp2
    go_ret
    exact ⟨_, rfl, HL.out, HB.out, _, _, _, rfl, HOT.out.1, HOT.out.2.choose_spec⟩
  · obtain ⟨b, o, rfl, hbw, hcl⟩ := hc h0
    have hpos : 0 < l.length := List.length_pos_iff.2 h0
    have HC := Lib.hid hcl
    have HI := Lib.hid hI
    have hn1 : l.length ≤ 1000000 := hl
    clear hcl hI hc h0
    go_enter Tryz.func8, Tryz.ntmps8
    go_wp2_with (at_builtin; refine wpList_append_lies _ rfl (.const (.slice none 0 0)) (.tmp 3) 32 rfl w.heap.size 9 i0 (.string ByteArray.empty) 1 16 Tryz.underlying32 hi hz0 hz1 hz2 rfl (by decide) _ 0 [] rfl (World.ownsRow_nil _ _ _ _) ⟨b, o, none⟩ l.length ca (l.map Value.string) rfl ?c0 ?c1 ?c2 hpos ?c3 ?c4 ?c5 w.heap.size rfl ?_)
    case c0 => simp
    case c1 =>
      intro j u hu
      have hj : j < l.length := by have := (List.getElem?_eq_some_iff.1 hu).1; simpa using this
      rw [add_at, HC.out j hj]
      simpa [hj] using hu
    case c2 => intro u hu; simp at hu; obtain ⟨x, _, rfl⟩ := hu; rfl
    case c3 => unfold maxLen; omega
    case c4 => omega
    case c5 => exact Nat.le_refl _
    intro g cp w1 hown1 hg hat hlt1
    have hgs : w.heap.size ≤ g := (hown1.lt g rfl).1
    (try simp only [Nat.zero_add, List.nil_append] at hown1)
    have HO1 := Lib.hid hown1
    have hbel := Below.grown (Below.refl w.heap.size w) hg (Nat.le_refl _) (fun k hk => by simp [Value.ownBlock] at hk)
    have HB1 := Lib.hid hbel
    have hsz := hg.size
    clear hown1 hg hat hbel
    go_wp2_with (at_builtin; refine wpList_append_lies _ rfl (.tmp 4) (.tmp 5) 32 rfl w.heap.size 9 i0 (.string ByteArray.empty) 1 16 Tryz.underlying32 hi hz0 hz1 hz2 rfl (by decide) _ l.length (l.map Value.string) rfl (HO1.out.alloc _) ⟨w1.heap.size, 0, none⟩ 1 1 [.string ⟨#[109, 97, 114, 107]⟩] rfl rfl ?c1 ?c2 (by decide) ?c3 ?c4 ?c5 (w1.heap.size + 1) ?c6 ?_)
    case c1 => exact one_cell _ _ _
    case c2 => simp [Value.oneCell']
    case c3 => unfold maxLen; omega
    case c4 => omega
    case c5 => simp; omega
    case c6 => simp
    intro g2 cp2 w2 hown2 hg2 hat2 hlt2
    have hL := lentT_of_own hown2
    have HL := Lib.hid hL
    have HOT := Lib.hid (lent_row hown2)
    obtain ⟨_, _, he, _, h2, _, _, _⟩ := hL
    injection he with e1 e2 e3
    have hcp : l.length < cp2 := by rw [e3]; exact h2
    have hbel := Below.grown (bel_alloc (o := .cells #[.string ⟨#[109, 97, 114, 107]⟩] 9) HB1.out hsz) hg2 (by simp; omega) (fun k hk => by simp [Value.ownBlock] at hk; omega)
    have HB := Lib.hid hbel
    clear hown2 hg2 hat2 hlt2 e1 e2 e3 h2 hbel
    go_wp2
    go_ret
    exact ⟨_, rfl, HL.out, HB.out, _, _, _, rfl, HOT.out.1, HOT.out.2.choose_spec⟩

theorem lent_texts (v : Value) (l : List ByteArray) (w : World) (hv : TextsAt w v l) (hl : l.length ≤ 1000000) :
    Calls Tryz.prog 8 #[v] w (fun e' w' => ∃ u, e' = .returned u ∧ LentT w' u l ∧ Below w.heap.size w w') :=
  (lent_texts_own v l w hv hl).mono fun e w' ⟨u, h1, h2, h3, _⟩ => ⟨u, h1, h2, h3⟩
set_option maxRecDepth 100000 in
set_option maxHeartbeats 1000000 in
theorem stays_texts (v u : Value) (l : List ByteArray) (w : World) (hv : LentT w v l) (hu : TextsAt w u l) (hI : ∀ s ∈ l, s.size ≤ 9223372036854775807) :
    Calls Tryz.prog 11 #[v, u] w (BoolPost w true) := by
  have HV := Lib.hid hv
  have HU := Lib.hid hu
  have HI := Lib.hid hI
  obtain ⟨g, cap, rfl, hg, hcap, hcap2, _, hm⟩ := hv
  have HM := Lib.hid hm
  clear hu hI hm
  go_enter Tryz.func11, Tryz.ntmps11
  go_wp2_with fail
  refine (same_texts _ u l l w (HV.out.texts HI.out) HU.out).mono ?_
  rintro e w1 ⟨rfl, hb⟩
  have hm1 : w1.cell? ⟨g, l.length, none⟩ = some (.string ⟨#[109, 97, 114, 107]⟩) := (hb.cell (p := ⟨g, l.length, none⟩) hg).trans HM.out
  have hd : decide (l = l) = true := by simp
  rw [hd]
  clear hd
  go_wp2
  go_ret
  exact ⟨rfl, hb⟩
end Go.Proofs.YtjcggkfinhkcoaaGreat
