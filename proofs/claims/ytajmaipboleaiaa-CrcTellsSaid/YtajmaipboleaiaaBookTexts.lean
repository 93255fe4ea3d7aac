/-
  The contracts of sedimentbook.SameTexts, LentTexts, StaysTexts, Room, Short.
-/
import Derived.Test.YtajmaipboleaiaaTexts
namespace Go.Proofs.Ytajmaipboleaiaa
open Go.RowKit
set_option linter.unusedVariables false
set_option linter.unusedSimpArgs false

theorem bytes_eq {a b : ByteArray} (h : (a.toList == b.toList) = true) : a = b := by
  have h := beq_iff_eq.1 h
  rw [ByteArray.toList_eq, ByteArray.toList_eq] at h
  cases a; cases b; congr; exact Array.toList_inj.1 h
theorem take_snocX {l : List ByteArray} {k : Nat} (h : k < l.length) : l.take (k + 1) = l.take k ++ [l.getD k ByteArray.empty] := by
  rw [List.take_succ_eq_append_getElem h]; simp [h]
theorem same_takeX {l m : List ByteArray} {k : Nat} (hk : k < l.length) (hk2 : k < m.length) (h : l.take k = m.take k) (hx : l.getD k ByteArray.empty = m.getD k ByteArray.empty) : l.take (k + 1) = m.take (k + 1) := by
  rw [take_snocX hk, take_snocX hk2, h, hx]
theorem not_sameX {l m : List ByteArray} {k : Nat} (hx : l.getD k ByteArray.empty ≠ m.getD k ByteArray.empty) : l ≠ m := fun h => hx (by rw [h])

set_option maxRecDepth 100000 in
set_option maxHeartbeats 1000000 in
theorem same_texts (v u : Value) (l m : List ByteArray) (w : World) (hv : TextsAt w v l) (hu : TextsAt w u m) :
    Calls Try.prog 23 #[v, u] w (RetB w (.bool (decide (l = m)))) := by
  obtain ⟨a, ca, rfl, hI, hlen, hc⟩ := hv
  obtain ⟨b, cb, rfl, hJ, hlen2, hd⟩ := hu
  have HC := Lib.hid hc
  have HD := Lib.hid hd
  clear hI hJ hc hd
  by_cases hne : l.length = m.length
  · have HN := Lib.hid hne
    obtain ⟨n, hn⟩ : ∃ n, n = l.length := ⟨_, rfl⟩
    have hn2 : m.length = n := by omega
    have HNL := Lib.hid hn
    have HNM := Lib.hid hn2
    rw [← hn] at hlen ⊢
    rw [hn2] at hlen2 ⊢
    clear hne hn hn2
    go_enter Try.func23, Try.ntmps23
    go_wp2
    go_loopw [5] (fun i wr => ∃ (k : Nat), k ≤ n ∧ i = .int .i64 k ∧ Hid (l.take k = m.take k) ∧ Below w.heap.size w wr) (fun i _ => n - (intOf i).toNat)
    case atStart => exact ⟨0, Nat.zero_le _, rfl, Lib.hid rfl, Below.refl _ _⟩
    case round =>
      obtain ⟨k, hk, rfl, HT, hnx⟩ := hrel
      by_cases hlt : k < n
      · obtain ⟨b1, o1, rfl, hbw1, hcl1⟩ := HC.out (by intro h; have := HNL.out; simp [h] at this; omega)
        obtain ⟨b2, o2, rfl, hbw2, hcl2⟩ := HD.out (by intro h; have := HNM.out; simp [h] at this; omega)
        have hx1 := (hnx.cell (p := ⟨b1, o1 + k, none⟩) hbw1).trans (hcl1 k (by have := HNL.out; omega))
        have hx2 := (hnx.cell (p := ⟨b2, o2 + k, none⟩) hbw2).trans (hcl2 k (by have := HNM.out; omega))
        obtain ⟨x, hx⟩ : ∃ x, x = l.getD k ByteArray.empty := ⟨_, rfl⟩
        obtain ⟨y, hy⟩ : ∃ y, y = m.getD k ByteArray.empty := ⟨_, rfl⟩
        rw [← hx] at hx1
        rw [← hy] at hx2
        have HX := Lib.hid hx
        have HY := Lib.hid hy
        clear hx hy hcl1 hcl2
        cases hq : (x.toList == y.toList)
        · have HXY := Lib.hid (show x ≠ y by intro h; subst h; simp at hq)
          go_wp2
          go_quiet (fail)
          go_wp2
          go_ret
          exact ⟨ret_bool (by simp; exact not_sameX (k := k) (by rw [← HX.out, ← HY.out]; exact HXY.out)), bel_drewN hnx _⟩
        · have HXY := Lib.hid (bytes_eq hq)
          go_wp2
          go_quiet (fail)
          go_wp2
          go_roundw
          case rel => exact ⟨k + 1, by omega, by go_num, Lib.hid (same_takeX (by have := HNL.out; omega) (by have := HNM.out; omega) HT.out (by rw [← HX.out, ← HY.out, HXY.out])), bel_drewN hnx _⟩
          case measure => simp [intOf]; omega
      · have hkn : k = n := by omega
        subst hkn
        go_wp2
        go_ret
        refine ⟨ret_bool ?_, hnx⟩
        have := HT.out
        rw [List.take_of_length_le (by have := HNL.out; omega), List.take_of_length_le (by have := HNM.out; omega)] at this
        simp [this]
  · have hq : ((l.length : Int) != m.length) = true := by simp; omega
    have hr : decide (l = m) = false := by simp; intro h; exact hne (by rw [h])
    rw [hr]
    clear hne hr
    go_enter Try.func23, Try.ntmps23
    go_wp2
    go_ret
    exact ⟨rfl, Below.refl _ _⟩

/-- A list that was lent: these texts, and the mark behind them. -/
def LentT (w : World) (v : Value) (l : List ByteArray) : Prop :=
  ∃ g cap, v = .slice (some ⟨g, 0, none⟩) l.length cap ∧ g < w.heap.size ∧ l.length < cap ∧ cap ≤ 9223372036854775807 ∧ (∀ j, j < l.length → w.cell? ⟨g, j, none⟩ = some (.string (l.getD j ByteArray.empty))) ∧ w.cell? ⟨g, l.length, none⟩ = some (.string ⟨#[109, 97, 114, 107]⟩)
theorem LentT.below {w w' : World} {v : Value} {l : List ByteArray} (h : LentT w v l) (hb : Below w.heap.size w w') : LentT w' v l := by
  obtain ⟨g, cap, h1, h2, h3, h4, h5, h6⟩ := h
  exact ⟨g, cap, h1, Nat.lt_of_lt_of_le h2 hb.size, h3, h4, fun j hj => (hb.cell (p := ⟨g, j, none⟩) h2).trans (h5 j hj), (hb.cell (p := ⟨g, _, none⟩) h2).trans h6⟩
theorem LentT.texts {w : World} {v : Value} {l : List ByteArray} (h : LentT w v l) (hI : ∀ s ∈ l, s.size ≤ 9223372036854775807) : TextsAt w v l := by
  obtain ⟨g, cap, h1, h2, h3, h4, h5, h6⟩ := h
  exact ⟨_, cap, h1, hI, ⟨by omega, h4⟩, fun _ => ⟨g, 0, rfl, h2, fun j hj => by rw [Nat.zero_add]; exact h5 j hj⟩⟩

theorem info_str : (Try.prog.info? 9).map (fun i => (i.zero, i.size, i.bytes)) = some (some (.string ByteArray.empty), 1, 16) := by kernel_rfl
theorem append_nil_emptyT (a : Option Addr) (c : Nat) (t : TypeId) (w : World) : (Builtin.append_ #[22, 22] t #[.slice none 0 0, .slice a 0 c]).run Try.prog w = .ok (.slice none 0 0) w := by
  obtain ⟨i0, hi, hz0, hz1, hz2⟩ := info_parts info_str
  cases a <;> simp [Builtin.append_, run_underlying Try.underlying22, sizeOf, typeInfo, hi, Builtin.lenOf, Builtin.firstCells, loadCells, loadCellsFrom]
theorem wpList_append_nilT {P : Program} {w : World} {ops : Array Oper} {rest : List Oper} {o : Oper} {a : Act} {Q : Exit → Act → World → Prop} (hgd : o.guard = none) (s x : Operand) (t : TypeId)
    (ho : o.op = .call { callee := .builtin .append, args := #[s, x], argTypes := #[t, t] }) (ad : Option Addr) (c : Nat) (hs : a.eval s = .slice none 0 0) (hx : a.eval x = .slice ad 0 c)
    (hr : ∀ ty w, (Builtin.append_ #[t, t] ty #[.slice none 0 0, .slice ad 0 c]).run P w = .ok (.slice none 0 0) w)
    (h : wpList P ops Q rest (a.put o.dst (.slice none 0 0)) w) : wpList P ops Q (o :: rest) a w := by
  refine wpList_plain hgd fun K hK => ?_
  have hrun := hr o.type w
  unfold Oper.wp
  simp [execOp, ho, resolve, invoke, builtin, hs, hx, hrun, Result.andThen]
  exact hK _ _ h

theorem lentT_of_own {w : World} {base g cap : Nat} {l : List ByteArray} (h : w.ownsRow base 9 1 (.slice (some ⟨g, 0, none⟩) (l.length + 1) cap) (l.length + 1) (l.map Value.string ++ [.string ⟨#[109, 97, 114, 107]⟩])) : LentT w (.slice (some ⟨g, 0, none⟩) l.length cap) l := by
  have hf := h.form (by omega)
  obtain ⟨g', cap', he, _, hlt⟩ := hf
  have hc := fun j hj => h.cellAt j hj
  rcases h.2 with ⟨h1, _⟩ | ⟨g2, cap2, cur, h1, _, _, h2, h3, _, _⟩
  · cases h1
  · injection h1 with e1 e2 e3
    injection he with f1 f2 f3
    injection f1 with f1; injection f1 with f1
    subst f1
    rw [← e3] at h2 h3
    have h3' : cap ≤ 9223372036854775807 := by unfold maxLen at h3; omega
    refine ⟨_, _, rfl, by assumption, by omega, h3', fun j hj => ?_, ?_⟩
    · rw [hc j (by omega), List.getElem?_append_left (by simpa using hj)]; simp [hj]
    · rw [hc _ (by omega), List.getElem?_append_right (by simp)]; simp

set_option maxRecDepth 100000 in
set_option maxHeartbeats 1000000 in
theorem lent_texts (v : Value) (l : List ByteArray) (w : World) (hv : TextsAt w v l) (hl : l.length ≤ 1000000) :
    Calls Try.prog 10 #[v] w (fun e' w' => ∃ u, e' = .returned u ∧ LentT w' u l ∧ Below w.heap.size w w') := by
  obtain ⟨i0, hi, hz0, hz1, hz2⟩ := info_parts info_str
  obtain ⟨a, ca, rfl, hI, hlen, hc⟩ := hv
  by_cases h0 : l = []
  · subst h0
    have hap := append_nil_emptyT a ca
    clear hI hc hlen
    go_enter Try.func10, Try.ntmps10
    go_wp2_with (first | (at_builtin; refine wpList_append_nilT rfl (.const (.slice none 0 0)) (.tmp 3) 22 rfl a ca rfl rfl hap ?_) | (at_builtin; refine wpList_append_lies _ rfl (.tmp 4) (.tmp 5) 22 rfl w.heap.size 9 i0 (.string ByteArray.empty) 1 16 Try.underlying22 hi hz0 hz1 hz2 rfl (by decide) _ 0 [] rfl (World.ownsRow_nil _ _ _ _) ⟨w.heap.size, 0, none⟩ 1 1 [.string ⟨#[109, 97, 114, 107]⟩] rfl rfl ?c1 ?c2 (by decide) ?c3 ?c4 ?c5 (w.heap.size + 1) ?c6 ?_))
    case c1 => exact one_cell _ _ _
    case c2 => simp [Value.oneCell']
    case c3 => unfold maxLen; omega
    case c4 => omega
    case c5 => simp
    case c6 => simp
    intro g cp w1 hown1 hg hat hlt1
    have hL := lentT_of_own (l := []) hown1
    have HL := Lib.hid hL
    obtain ⟨_, _, he, _, h2, _, _, _⟩ := hL
    injection he with e1 e2 e3
    have hcp : 0 < cp := by rw [e3]; simpa using h2
    have hbel := Below.grown (bel_new w (.cells #[.string ⟨#[109, 97, 114, 107]⟩] 9)) hg (by simp) (fun k hk => by simp [Value.ownBlock] at hk)
    have HB := Lib.hid hbel
    clear hown1 hg hat hlt1 e1 e2 e3 h2 hbel
    go_wp2
    go_ret
    exact ⟨_, rfl, HL.out, HB.out⟩
  · obtain ⟨b, o, rfl, hbw, hcl⟩ := hc h0
    have hpos : 0 < l.length := List.length_pos_iff.2 h0
    have HC := Lib.hid hcl
    have HI := Lib.hid hI
    have hn1 : l.length ≤ 1000000 := hl
    clear hcl hI hc h0
    go_enter Try.func10, Try.ntmps10
    go_wp2_with (at_builtin; refine wpList_append_lies _ rfl (.const (.slice none 0 0)) (.tmp 3) 22 rfl w.heap.size 9 i0 (.string ByteArray.empty) 1 16 Try.underlying22 hi hz0 hz1 hz2 rfl (by decide) _ 0 [] rfl (World.ownsRow_nil _ _ _ _) ⟨b, o, none⟩ l.length ca (l.map Value.string) rfl ?c0 ?c1 ?c2 hpos ?c3 ?c4 ?c5 w.heap.size rfl ?_)
    case c0 => simp
    case c1 =>
      intro j u hu
      have hj : j < l.length := by have := (List.getElem?_eq_some_iff.1 hu).1; simpa using this
      rw [add_at, HC.out j hj]
      simpa [hj] using hu
    case c2 => intro u hu; simp at hu; obtain ⟨x, _, rfl⟩ := hu; rfl
    case c3 => unfold maxLen; omega
    case c4 => omega
    case c5 => exact Nat.le_refl _
    intro g cp w1 hown1 hg hat hlt1
    have hgs : w.heap.size ≤ g := (hown1.lt g rfl).1
    (try simp only [Nat.zero_add, List.nil_append] at hown1)
    have HO1 := Lib.hid hown1
    have hbel := Below.grown (Below.refl w.heap.size w) hg (Nat.le_refl _) (fun k hk => by simp [Value.ownBlock] at hk)
    have HB1 := Lib.hid hbel
    have hsz := hg.size
    clear hown1 hg hat hbel
    go_wp2_with (at_builtin; refine wpList_append_lies _ rfl (.tmp 4) (.tmp 5) 22 rfl w.heap.size 9 i0 (.string ByteArray.empty) 1 16 Try.underlying22 hi hz0 hz1 hz2 rfl (by decide) _ l.length (l.map Value.string) rfl (HO1.out.alloc _) ⟨w1.heap.size, 0, none⟩ 1 1 [.string ⟨#[109, 97, 114, 107]⟩] rfl rfl ?c1 ?c2 (by decide) ?c3 ?c4 ?c5 (w1.heap.size + 1) ?c6 ?_)
    case c1 => exact one_cell _ _ _
    case c2 => simp [Value.oneCell']
    case c3 => unfold maxLen; omega
    case c4 => omega
    case c5 => simp; omega
    case c6 => simp
    intro g2 cp2 w2 hown2 hg2 hat2 hlt2
    have hL := lentT_of_own hown2
    have HL := Lib.hid hL
    obtain ⟨_, _, he, _, h2, _, _, _⟩ := hL
    injection he with e1 e2 e3
    have hcp : l.length < cp2 := by rw [e3]; exact h2
    have hbel := Below.grown (bel_alloc (o := .cells #[.string ⟨#[109, 97, 114, 107]⟩] 9) HB1.out hsz) hg2 (by simp; omega) (fun k hk => by simp [Value.ownBlock] at hk; omega)
    have HB := Lib.hid hbel
    clear hown2 hg2 hat2 hlt2 e1 e2 e3 h2 hbel
    go_wp2
    go_ret
    exact ⟨_, rfl, HL.out, HB.out⟩

set_option maxRecDepth 100000 in
set_option maxHeartbeats 1000000 in
theorem stays_texts (v u : Value) (l : List ByteArray) (w : World) (hv : LentT w v l) (hu : TextsAt w u l) (hI : ∀ s ∈ l, s.size ≤ 9223372036854775807) :
    Calls Try.prog 18 #[v, u] w (BoolPost w true) := by
  have HV := Lib.hid hv
  have HU := Lib.hid hu
  have HI := Lib.hid hI
  obtain ⟨g, cap, rfl, hg, hcap, hcap2, _, hm⟩ := hv
  have HM := Lib.hid hm
  clear hu hI hm
  go_enter Try.func18, Try.ntmps18
  go_wp2_with fail
  refine (same_texts _ u l l w (HV.out.texts HI.out) HU.out).mono ?_
  rintro e w1 ⟨rfl, hb⟩
  have hm1 : w1.cell? ⟨g, l.length, none⟩ = some (.string ⟨#[109, 97, 114, 107]⟩) := (hb.cell (p := ⟨g, l.length, none⟩) hg).trans HM.out
  have hd : decide (l = l) = true := by simp
  rw [hd]
  clear hd
  go_wp2
  go_ret
  exact ⟨rfl, hb⟩

/-- How much room is left behind a part of this size. -/
def room1 (left sz : Int) : Int := if left < 0 ∨ left < sz then -1 else left - sz
def roomL (left : Int) (l : List Int) : Int := l.foldl room1 left
theorem roomL_neg : ∀ (l : List Int) (left : Int), left < 0 → roomL left l < 0
  | [], _, h => h
  | x :: l, left, h => roomL_neg l _ (by unfold room1; rw [if_pos (.inl h)]; omega)
theorem roomL_take {l : List Int} {k : Nat} (h : k < l.length) (left : Int) : roomL left (l.take (k + 1)) = room1 (roomL left (l.take k)) (l.getD k 0) := by
  rw [take_snoc h]; simp [roomL]
theorem roomL_drop (l : List Int) (k : Nat) (left : Int) : roomL left l = roomL (roomL left (l.take k)) (l.drop k) := by
  unfold roomL; rw [← List.foldl_append, List.take_append_drop]
theorem roomL_minus : ∀ (l : List Int), roomL (-1) l = -1
  | [] => rfl
  | x :: l => by show roomL (room1 (-1) x) l = -1; rw [show room1 (-1) x = -1 from if_pos (.inl (by omega))]; exact roomL_minus l
theorem room1_bd {left sz : Int} (h0 : 0 ≤ sz) (h : -1 ≤ left) : -1 ≤ room1 left sz ∧ room1 left sz ≤ left := by
  unfold room1; split <;> omega
theorem roomL_le : ∀ (l : List Int) (left : Int), (∀ x ∈ l, 0 ≤ x) → 0 ≤ roomL left l → l.sum ≤ left ∧ 0 ≤ left
  | [], left, _, h => by simp; exact h
  | x :: l, left, hx, h => by
    have h1 : 0 ≤ roomL (room1 left x) l := h
    obtain ⟨h2, h3⟩ := roomL_le l _ (fun y hy => hx y (List.mem_cons_of_mem _ hy)) h1
    have h4 := hx x (List.mem_cons_self ..)
    unfold room1 at h2 h3
    split at h3
    · omega
    · rw [if_neg (by omega)] at h2
      simp; omega

set_option maxRecDepth 100000 in
set_option maxHeartbeats 1000000 in
theorem room_any (left : Int) (v : Value) (l : List Int) (w : World) (hv : IntsAt w v l) (hl : -9223372036854775808 ≤ left ∧ left ≤ 9223372036854775807) (h0 : ∀ x ∈ l, 0 ≤ x) :
    Calls Try.prog 19 #[.int .i64 left, v] w (RetB w (.int .i64 (roomL left l))) := by
  obtain ⟨a, ca, rfl, hI, hlen, hc⟩ := hv
  have HC := Lib.hid hc
  have HI := Lib.hid hI
  have H0 := Lib.hid h0
  clear hc hI h0
  go_enter Try.func19, Try.ntmps19
  go_wp2
  go_loop [5, 0] (fun i x => ∃ (k : Nat) (R : Int), k ≤ l.length ∧ i = .int .i64 k ∧ x = .int .i64 R ∧ (-9223372036854775808 ≤ R ∧ R ≤ 9223372036854775807) ∧ Hid (R = roomL left (l.take k))) (fun i _ => l.length - (intOf i).toNat)
  case atStart => exact ⟨0, left, Nat.zero_le _, rfl, rfl, hl, Lib.hid rfl⟩
  case round =>
    obtain ⟨k, R, hk, rfl, rfl, hR, HR⟩ := hrel
    by_cases hlt : k < l.length
    · obtain ⟨b, o, rfl, hbw, hcl⟩ := HC.out (by intro h; simp [h] at hlt)
      have hx := hcl k hlt
      have hxI := HI.out (l.getD k 0) (by simp [hlt])
      have hx0 := H0.out (l.getD k 0) (by simp [hlt])
      have HT := Lib.hid (roomL_take hlt left)
      have HD := Lib.hid (roomL_drop l (k + 1) left)
      obtain ⟨x, hxe⟩ : ∃ x, x = l.getD k 0 := ⟨_, rfl⟩
      rw [← hxe] at hx hxI hx0 HT
      clear hxe hcl
      by_cases g1 : R < 0
      · go_wp2
        go_ret
        exact ⟨ret_int (by rw [HD.out, HT.out, ← HR.out]; unfold room1; rw [if_pos (.inl g1)]; exact (roomL_minus _).symm), Below.refl _ _⟩
      · by_cases g2 : R < x
        · go_wp2
          go_ret
          exact ⟨ret_int (by rw [HD.out, HT.out, ← HR.out]; unfold room1; rw [if_pos (.inr g2)]; exact (roomL_minus _).symm), Below.refl _ _⟩
        · go_wp2
          go_round
          case rel => exact ⟨k + 1, R - x, by omega, by go_num, rfl, by omega, Lib.hid (by rw [HT.out, ← HR.out]; unfold room1; rw [if_neg (by omega)])⟩
          case measure => simp [intOf]; omega
    · have hkl : k = l.length := by omega
      subst hkl
      go_wp2
      go_ret
      exact ⟨ret_int (by have := HR.out; rw [List.take_length] at this; exact this), Below.refl _ _⟩
end Go.Proofs.Ytajmaipboleaiaa
