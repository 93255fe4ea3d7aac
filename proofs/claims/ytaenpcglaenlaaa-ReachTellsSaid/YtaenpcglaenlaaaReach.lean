/-
  The contracts of policy.Copy and of the reach package: what a tier is, where tiers lie, and how far back each reaches.
-/
import Derived.Test.YtaenpcglaenlaaaReachGrid
import Derived.Test.YtaenpcglaenlaaaInv
import Derived.Test.YtaenpcglaenlaaaShelf
import Derived.Test.YtaenpcglaenlaaaBookInts
import Derived.Lib.MinMax
namespace Go.Proofs.Ytaenpcglaenlaaa
open Go.RowKit
set_option linter.unusedVariables false
set_option linter.unusedSimpArgs false

structure TierV where
  name : ByteArray
  every : Int
  keep : Int
  shards : Int
def TierV.cells (t : TierV) : List Value := [.string t.name, .int .i64 t.every, .int .i64 t.keep, .int .i64 t.shards]
def TierV.ok (t : TierV) : Prop := t.name.size ≤ 9223372036854775807 ∧ I64 t.every ∧ I64 t.keep ∧ I64 t.shards
def TierV.zero : TierV := ⟨ByteArray.empty, 0, 0, 0⟩
/-- A slice of tiers that may be read. -/
def TiersAt (w : World) (v : Value) (l : List TierV) : Prop :=
  ∃ a c, v = .slice a l.length c ∧ (∀ x ∈ l, x.ok) ∧ (l.length ≤ c ∧ c ≤ 9223372036854775807) ∧
    (l ≠ [] → ∃ b o, a = some ⟨b, o, none⟩ ∧ b < w.heap.size ∧ ∀ j, j < l.length → (w.cell? ⟨b, o + j * 4, none⟩ = some (.string (l.getD j TierV.zero).name) ∧ w.cell? ⟨b, o + j * 4 + 1, none⟩ = some (.int .i64 (l.getD j TierV.zero).every) ∧
      w.cell? ⟨b, o + j * 4 + 2, none⟩ = some (.int .i64 (l.getD j TierV.zero).keep) ∧ w.cell? ⟨b, o + j * 4 + 3, none⟩ = some (.int .i64 (l.getD j TierV.zero).shards)))
theorem TiersAt.below {w w' : World} {v : Value} {l : List TierV} (h : TiersAt w v l) (hb : Below w.heap.size w w') : TiersAt w' v l := by
  obtain ⟨a, c, h1, h2, h3, h4⟩ := h
  refine ⟨a, c, h1, h2, h3, fun hn => ?_⟩
  obtain ⟨b, o, h5, h6, h7⟩ := h4 hn
  refine ⟨b, o, h5, Nat.lt_of_lt_of_le h6 hb.size, fun j hj => ?_⟩
  obtain ⟨c0, c1, c2, c3⟩ := h7 j hj
  exact ⟨(hb.cell (p := ⟨b, _, none⟩) h6).trans c0, (hb.cell (p := ⟨b, _, none⟩) h6).trans c1, (hb.cell (p := ⟨b, _, none⟩) h6).trans c2, (hb.cell (p := ⟨b, _, none⟩) h6).trans c3⟩
theorem TiersAt.ok {w : World} {v : Value} {l : List TierV} (h : TiersAt w v l) : ∀ x ∈ l, x.ok := by obtain ⟨_, _, _, h, _⟩ := h; exact h
def flatT (l : List TierV) : List Value := l.flatMap TierV.cells
theorem flatT_len : ∀ l : List TierV, (flatT l).length = l.length * 4
  | [] => rfl
  | t :: l => by simp only [flatT, List.flatMap_cons, List.length_append, List.length_cons]; rw [show (l.flatMap TierV.cells).length = l.length * 4 from flatT_len l]; simp [TierV.cells]; omega
theorem flatT_at : ∀ (l : List TierV) (j : Nat), j < l.length → (flatT l)[j * 4]? = some (.string (l.getD j TierV.zero).name) ∧ (flatT l)[j * 4 + 1]? = some (.int .i64 (l.getD j TierV.zero).every) ∧ (flatT l)[j * 4 + 2]? = some (.int .i64 (l.getD j TierV.zero).keep) ∧ (flatT l)[j * 4 + 3]? = some (.int .i64 (l.getD j TierV.zero).shards)
  | [], j, h => absurd h (Nat.not_lt_zero _)
  | t :: l, 0, _ => ⟨rfl, rfl, rfl, rfl⟩
  | t :: l, j + 1, h => by
    have h4 : (t.cells).length = 4 := rfl
    have := flatT_at l j (by simpa using h)
    have e : ∀ k, (flatT (t :: l))[(j + 1) * 4 + k]? = (flatT l)[j * 4 + k]? := fun k => by
      show (t.cells ++ flatT l)[(j + 1) * 4 + k]? = _
      rw [List.getElem?_append_right (by rw [h4]; omega), h4]; congr 1; omega
    have e0 := e 0
    simp only [Nat.add_zero] at e0
    rw [e0, e 1, e 2, e 3]
    simpa using this
theorem flatT_one {l : List TierV} : ∀ u ∈ flatT l, u.oneCell' = true := by
  intro u hu
  simp only [flatT, List.mem_flatMap] at hu
  obtain ⟨t, _, hu⟩ := hu
  simp only [TierV.cells, List.mem_cons, List.not_mem_nil, or_false] at hu
  rcases hu with rfl | rfl | rfl | rfl <;> rfl
/-- The cells of a slice of tiers, one by one. -/
theorem TiersAt.flat {w : World} {a : Option Addr} {l : List TierV} {n c : Nat} (h : TiersAt w (.slice a n c) l) (hn : l ≠ []) : ∃ b o, a = some ⟨b, o, none⟩ ∧ b < w.heap.size ∧ ∀ j u, (flatT l)[j]? = some u → w.cell? ((⟨b, o, none⟩ : Addr).add j) = some u := by
  obtain ⟨a', c', h1, h2, h3, h4⟩ := h
  obtain ⟨b, o, rfl, h6, h7⟩ := h4 hn
  injection h1 with h1
  refine ⟨b, o, h1, h6, fun j u hu => ?_⟩
  rw [add_at]
  have hj : j < l.length * 4 := by rw [← flatT_len]; exact (List.getElem?_eq_some_iff.1 hu).1
  obtain ⟨c0, c1, c2, c3⟩ := h7 (j / 4) (by omega)
  obtain ⟨d0, d1, d2, d3⟩ := flatT_at l (j / 4) (by omega)
  have hm : j % 4 = 0 ∨ j % 4 = 1 ∨ j % 4 = 2 ∨ j % 4 = 3 := by omega
  rcases hm with hm | hm | hm | hm
  · rw [show j = j / 4 * 4 by omega] at hu ⊢; rw [c0, ← hu, ← d0]
  · rw [show j = j / 4 * 4 + 1 by omega] at hu ⊢; rw [← Nat.add_assoc, ← hu]; rw [c1, d1]
  · rw [show j = j / 4 * 4 + 2 by omega] at hu ⊢; rw [← Nat.add_assoc, ← hu]; rw [c2, d2]
  · rw [show j = j / 4 * 4 + 3 by omega] at hu ⊢; rw [← Nat.add_assoc, ← hu]; rw [c3, d3]
/-- A row of the call's own that holds these tiers. -/
theorem tiers_of_own {w : World} {B : Nat} {v : Value} {l : List TierV} (h : w.ownsRow B 32 4 v l.length (flatT l)) (hl : ∀ x ∈ l, x.ok) : TiersAt w v l := by
  have h0 := h
  rcases h.2 with ⟨h1, h2⟩ | ⟨g, cap, cur, h1, _, _, h2, h3, _, _⟩
  · subst h1
    obtain rfl := List.eq_nil_of_length_eq_zero h2
    exact ⟨none, 0, rfl, hl, by simp, fun h => absurd rfl h⟩
  · subst h1
    refine ⟨_, cap, rfl, hl, ⟨by omega, by unfold maxLen at h3; omega⟩, fun _ => ⟨g, 0, rfl, (h0.lt g rfl).2, fun j hj => ?_⟩⟩
    have hc := fun j hj => h0.cellAt j hj
    obtain ⟨d0, d1, d2, d3⟩ := flatT_at l j hj
    refine ⟨?_, ?_, ?_, ?_⟩
    · have := hc (j * 4) (by omega); rw [Nat.zero_add, this]; exact d0
    · have := hc (j * 4 + 1) (by omega); rw [Nat.zero_add, this]; exact d1
    · have := hc (j * 4 + 2) (by omega); rw [Nat.zero_add, this]; exact d2
    · have := hc (j * 4 + 3) (by omega); rw [Nat.zero_add, this]; exact d3
/-- A slice that lies in blocks from B on. -/
def SlB (B : Nat) (v : Value) : Prop := ∀ b o s n c, v = .slice (some ⟨b, o, s⟩) n c → B ≤ b
theorem slB_nil (B : Nat) : SlB B (.slice none 0 0) := by intro b o s n c h; cases h
theorem slB_of_own {w : World} {B n k : Nat} {e : TypeId} {v : Value} {xs : List Value} (h : w.ownsRow B e k v n xs) : SlB B v := by
  intro b o s m c hv
  rcases h.2 with ⟨h1, h2⟩ | ⟨g, cap, cur, h1, h2, _⟩
  · rw [hv] at h1; cases h1
  · rw [hv] at h1
    injection h1 with e1; injection e1 with e1; injection e1 with e1
    omega
theorem SlB.mono {B C : Nat} {v : Value} (h : SlB B v) (hc : C ≤ B) : SlB C v := fun b o s n c e => Nat.le_trans hc (h b o s n c e)
theorem TiersAt.frame {w w' : World} {v : Value} {l : List TierV} {B : Nat} (h : TiersAt w v l) (hs : SlB B v) (hh : w.heap.size ≤ w'.heap.size) (hb : ∀ k, B ≤ k → k < w.heap.size → w'.heap[k]? = w.heap[k]?) : TiersAt w' v l := by
  obtain ⟨a, c, rfl, h2, h3, h4⟩ := h
  refine ⟨a, c, rfl, h2, h3, fun hn => ?_⟩
  obtain ⟨b, o, rfl, h6, h7⟩ := h4 hn
  have hB := hs b o none _ _ rfl
  have hc : ∀ o', w'.cell? ⟨b, o', none⟩ = w.cell? ⟨b, o', none⟩ := fun o' => by unfold World.cell?; rw [hb b hB h6]
  refine ⟨b, o, rfl, by omega, fun j hj => ?_⟩
  simp only [hc]
  exact h7 j hj
theorem ints_frame {w w' : World} {v : Value} {l : List Int} {B : Nat} (h : IntsAt w v l) (hs : SlB B v) (hh : w.heap.size ≤ w'.heap.size) (hb : ∀ k, B ≤ k → k < w.heap.size → w'.heap[k]? = w.heap[k]?) : IntsAt w' v l := by
  obtain ⟨a, c, rfl, h2, h3, h4⟩ := h
  refine ⟨a, c, rfl, h2, h3, fun hn => ?_⟩
  obtain ⟨b, o, rfl, h6, h7⟩ := h4 hn
  have hB := hs b o none _ _ rfl
  have hc : ∀ o', w'.cell? ⟨b, o', none⟩ = w.cell? ⟨b, o', none⟩ := fun o' => by unfold World.cell?; rw [hb b hB h6]
  refine ⟨b, o, rfl, by omega, fun j hj => ?_⟩
  rw [hc]
  exact h7 j hj
theorem info_tier : (Try.prog.info? 32).map (fun i => (i.zero, i.size, i.bytes)) = some (some (.agg #[.string ByteArray.empty, .int .i64 0, .int .i64 0, .int .i64 0]), 4, 40) := by kernel_rfl

set_option maxRecDepth 100000 in
set_option maxHeartbeats 1000000 in
theorem clone_tiers (v : Value) (l : List TierV) (w : World) (hv : TiersAt w v l) (hl : l.length ≤ 1000000) :
    Calls Try.prog 76 #[v] w (fun e' w' => ∃ u, e' = .returned u ∧ TiersAt w' u l ∧ SlB w.heap.size u ∧ Below w.heap.size w w') := by
  obtain ⟨i0, hi, hz0, hz1, hz2⟩ := info_parts info_tier
  have hv' := hv
  obtain ⟨a, ca, rfl, hI, hlen, hc⟩ := hv
  have HI := Lib.hid hI
  clear hI hc
  have q22 : ∀ (w : World) (a : Option Addr) (n c n' c' : Nat), (binOp .eql 22 (.slice a n c) (.slice none n' c')).run Try.prog w = .ok (.bool a.isNone) w := fun w a n c n' c' => Lib.run_eql_slice_nil w _ _ a n c n' c' Try.underlying22
  have u22 : ∀ w, Sem.run Try.prog (underlying 22) w = .ok (TypeDesc.slice 32) w := run_underlying Try.underlying22
  cases a with
  | none =>
    have h0 : l = [] := by
      by_cases h : l = []
      · exact h
      · obtain ⟨_, _, h1, _⟩ := hv'.flat h; cases h1
    subst h0
    clear hlen
    go_enter Try.func76, Try.ntmps76
    go_wp2_with fail
    go_ret
    exact ⟨_, rfl, ⟨none, 0, rfl, by simp, by simp, fun h => absurd rfl h⟩, slB_nil _, Below.refl _ _⟩
  | some a =>
    have hc : ∀ j u, (flatT l)[j]? = some u → w.cell? (a.add j) = some u := by
      by_cases h0 : l = []
      · subst h0; intro j u hu; simp [flatT] at hu
      · obtain ⟨b, o, h1, hb, hc⟩ := hv'.flat h0
        injection h1 with h1
        subst h1
        exact hc
    have HC := Lib.hid hc
    have HV := Lib.hid hv'
    clear hc hv'
    go_enter Try.func76, Try.ntmps76
    go_wp2_with (at_builtin; refine wpList_append_own _ rfl _ _ 22 rfl w.heap.size 32 i0 (.agg #[.string ByteArray.empty, .int .i64 0, .int .i64 0, .int .i64 0]) 4 40 Try.underlying22 hi hz0 hz1 hz2 rfl (by decide) _ _ _ rfl (World.ownsRow_made w #[] 0 (Nat.le_refl _) (Nat.zero_le _) rfl) a l.length ca (flatT l) rfl ?qc1 ?qc2 ?qc3 ?qc4 ?qc5 ?qc6 ?_)
    case qc1 => exact flatT_len l
    case qc2 =>
      intro j u hj
      exact Lib.cell?_alloc_some _ (HC.out j u hj)
    case qc3 => exact flatT_one
    case qc4 => unfold maxLen; omega
    case qc5 => omega
    case qc6 => simp
    intro v' w1 hown hgrow hnil
    have hT := tiers_of_own (by simpa using hown) HI.out
    have HT := Lib.hid hT
    have HS := Lib.hid (slB_of_own hown)
    have hb : Below w.heap.size w w1 := ((Below.refl _ w).alloc (Nat.le_refl _) _).grown hgrow (by simp) (by intro k hk; simp [Value.ownBlock] at hk; omega)
    have HB := Lib.hid hb
    clear hown hgrow hnil hT hb
    go_wp2
    go_ret
    exact ⟨v', rfl, HT.out, HS.out, HB.out⟩

theorem ints_of_own {w : World} {B : Nat} {v : Value} {l : List Int} (h : w.ownsRow B 3 1 v l.length (l.map (Value.int .i64))) (hl : ∀ x ∈ l, -9223372036854775808 ≤ x ∧ x ≤ 9223372036854775807) : IntsAt w v l := by
  have h0 := h
  rcases h.2 with ⟨h1, h2⟩ | ⟨g, cap, cur, h1, _, _, h2, h3, _, _⟩
  · subst h1
    obtain rfl := List.eq_nil_of_length_eq_zero h2
    exact ints_nil _
  · subst h1
    refine ⟨_, cap, rfl, hl, ⟨by omega, by unfold maxLen at h3; omega⟩, fun _ => ⟨g, 0, rfl, (h0.lt g rfl).2, fun j hj => ?_⟩⟩
    have := h0.cellAt j (by omega)
    rw [Nat.zero_add, this]
    simp [hj]
theorem IntsAt.ok {w : World} {v : Value} {l : List Int} (h : IntsAt w v l) : ∀ x ∈ l, -9223372036854775808 ≤ x ∧ x ≤ 9223372036854775807 := by obtain ⟨_, _, _, h, _⟩ := h; exact h
theorem clone_ints (v : Value) (l : List Int) (w : World) (hv : IntsAt w v l) (hl : l.length ≤ 1000000) :
    Calls Try.prog 34 #[v] w (fun e' w' => ∃ u, e' = .returned u ∧ IntsAt w' u l ∧ SlB w.heap.size u ∧ Below w.heap.size w w') := by
  have hI := hv.ok
  obtain ⟨a, ca, rfl, _, hlen, hc⟩ := hv
  by_cases h0 : l = []
  · subst h0
    cases a with
    | none =>
      refine (Try.slices_Clone_int_nil _ _ w).mono ?_
      rintro e w1 ⟨rfl, rfl⟩
      exact ⟨_, rfl, ints_nil _, slB_nil _, Below.refl _ _⟩
    | some a =>
      refine (Try.slices_Clone_int_zero _ _ w).mono ?_
      rintro e w1 ⟨u, rfl, ho, _, hb⟩
      exact ⟨_, rfl, ints_of_own ho (by simp), slB_of_own ho, hb⟩
  · obtain ⟨b, o, rfl, hbw, hcl⟩ := hc h0
    refine (Try.slices_Clone_int b o l.length ca l w (Nat.le_refl _) (by omega) hcl).mono ?_
    rintro e w1 ⟨u, rfl, ho, _, hb⟩
    rw [List.take_length] at ho
    exact ⟨_, rfl, ints_of_own ho hI, slB_of_own ho, hb⟩

theorem one_new {w w1 : World} {o1 : Obj} (hb : Below (w.alloc o1).heap.size (w.alloc o1) w1) : w1.heap[w.heap.size]? = some o1 ∧ Below w.heap.size w w1 :=
  ⟨heap_step (heap_new_at rfl) hb, chain (bel_new _ _) hb⟩
theorem two_new {w w1 : World} {o1 o2 : Obj} (hb : Below ((w.alloc o1).alloc o2).heap.size ((w.alloc o1).alloc o2) w1) : w1.heap[w.heap.size]? = some o1 ∧ w1.heap[w.heap.size + 1]? = some o2 ∧ Below w.heap.size w w1 :=
  ⟨heap_step (heap_step (heap_new_at rfl) (bel_new _ _)) hb, heap_step (heap_new_at (by simp)) hb, chain (chain (bel_new _ _) (bel_new _ _)) hb⟩

theorem row2 {w : World} {b : Nat} {T : TypeId} {x0 x1 : Value} (h : w.heap[b]? = some (.cells #[x0, x1] T)) : w.cell? ⟨b, 0, none⟩ = some x0 ∧ w.cell? ⟨b, 1, none⟩ = some x1 := by
  constructor <;> (rw [cell_of_row w b _ _ _ _ h]; rfl)
theorem row3 {w : World} {b : Nat} {T : TypeId} {x0 x1 x2 : Value} (h : w.heap[b]? = some (.cells #[x0, x1, x2] T)) : w.cell? ⟨b, 0, none⟩ = some x0 ∧ w.cell? ⟨b, 1, none⟩ = some x1 ∧ w.cell? ⟨b, 2, none⟩ = some x2 := by
  refine ⟨?_, ?_, ?_⟩ <;> (rw [cell_of_row w b _ _ _ _ h]; rfl)
theorem row4 {w : World} {b : Nat} {T : TypeId} {x0 x1 x2 x3 : Value} (h : w.heap[b]? = some (.cells #[x0, x1, x2, x3] T)) : w.cell? ⟨b, 0, none⟩ = some x0 ∧ w.cell? ⟨b, 1, none⟩ = some x1 ∧ w.cell? ⟨b, 2, none⟩ = some x2 ∧ w.cell? ⟨b, 3, none⟩ = some x3 := by
  refine ⟨?_, ?_, ?_, ?_⟩ <;> (rw [cell_of_row w b _ _ _ _ h]; rfl)

/-- A policy and a Reach. -/
def PolAt (w : World) (v : Value) (name : ByteArray) (l : List TierV) : Prop := ∃ tv, v = .agg #[.string name, tv] ∧ TiersAt w tv l
structure RV where
  now : Int
  name : ByteArray
  l : List TierV
  fl : List Int
def ReachAt (w : World) (v : Value) (r : RV) : Prop := ∃ tv fv, v = .agg #[.int .i64 r.now, .string r.name, tv, fv] ∧ TiersAt w tv r.l ∧ IntsAt w fv r.fl
theorem PolAt.below {w w' : World} {v : Value} {n : ByteArray} {l : List TierV} (h : PolAt w v n l) (hb : Below w.heap.size w w') : PolAt w' v n l := by
  obtain ⟨tv, h1, h2⟩ := h; exact ⟨tv, h1, h2.below hb⟩
theorem ReachAt.below {w w' : World} {v : Value} {r : RV} (h : ReachAt w v r) (hb : Below w.heap.size w w') : ReachAt w' v r := by
  obtain ⟨tv, fv, h1, h2, h3⟩ := h; exact ⟨tv, fv, h1, h2.below hb, h3.below hb⟩
def ReachOut (B : Nat) (w : World) (v : Value) (r : RV) : Prop := ∃ tv fv, v = .agg #[.int .i64 r.now, .string r.name, tv, fv] ∧ TiersAt w tv r.l ∧ IntsAt w fv r.fl ∧ SlB B tv ∧ SlB B fv
theorem ReachOut.at {B : Nat} {w : World} {v : Value} {r : RV} (h : ReachOut B w v r) : ReachAt w v r := by
  obtain ⟨tv, fv, h1, h2, h3, _⟩ := h; exact ⟨tv, fv, h1, h2, h3⟩
theorem ReachOut.below {B : Nat} {w w' : World} {v : Value} {r : RV} (h : ReachOut B w v r) (hb : Below w.heap.size w w') : ReachOut B w' v r := by
  obtain ⟨tv, fv, h1, h2, h3, h4⟩ := h; exact ⟨tv, fv, h1, h2.below hb, h3.below hb, h4⟩
def RetP (w : World) (p : Value → World → Prop) (e : Ending) (w' : World) : Prop := ∃ u, e = .returned u ∧ p u w' ∧ Below w.heap.size w w'

set_option maxRecDepth 100000 in
set_option maxHeartbeats 1000000 in
theorem copy_any (v : Value) (n : ByteArray) (l : List TierV) (w : World) (hv : PolAt w v n l) (hl : l.length ≤ 1000000) :
    Calls Try.prog 33 #[v] w (RetP w (fun u w' => ∃ tv, u = .agg #[.string n, tv] ∧ TiersAt w' tv l ∧ SlB w.heap.size tv)) := by
  obtain ⟨tv, rfl, ht⟩ := hv
  have HT := Lib.hid ht
  obtain ⟨a, c, rfl, _⟩ := ht
  go_enter Try.func33, Try.ntmps33
  go_wp2_with fail
  refine (clone_tiers _ l _ ((HT.out.below (bel_new _ _)).below (bel_new _ _)) hl).mono ?_
  rintro e w1 ⟨u, rfl, hu, hs, hb⟩
  have HS := Lib.hid hs
  have HSZ := Lib.hid hb.size
  have HU := Lib.hid hu
  obtain ⟨a2, c2, rfl, _⟩ := hu
  obtain ⟨h1, h2, hbw⟩ := two_new hb
  have HB := Lib.hid hbw
  obtain ⟨c0, c1⟩ := row2 h1
  obtain ⟨d0, d1⟩ := row2 h2
  have f1 := frozen_row (o := 1) h1
  have g0 := frozen_row (o := 0) h2
  have g1 := frozen_row (o := 1) h2
  have H2 := Lib.hid h2
  clear hs hb hbw h1 h2
  go_wp2
  have hs := HSZ.out
  simp only [World.size_alloc] at hs
  refine bodyPost_ret (v := .agg #[.string n, .slice a2 l.length c2]) (results_cell_row Try.results33 _ _ (w.heap.size + 1) 24 #[.string n, .slice a2 l.length c2] (0, 0) _ rfl (set_heap (set_heap ((set_heap_other _ (by simp)).trans H2.out) _) _) Try.underlying24 rfl (by kernel_rfl)) rfl ?_
  refine ⟨_, rfl, ⟨_, rfl, HU.out.frame HS.out (by simp) (fun k hk _ => ?_), HS.out.mono (by simp; omega)⟩, bel_set (bel_set (bel_set HB.out (Nat.le_refl _)) (by simp)) (by simp)⟩
  simp only [World.size_alloc] at hk
  rw [set_heap_other _ (by dsimp only; omega), set_heap_other _ (by dsimp only; omega), set_heap_other _ (by dsimp only; omega)]

set_option maxRecDepth 100000 in
set_option maxHeartbeats 1000000 in
theorem of_any (v fv : Value) (now : Int) (n : ByteArray) (l : List TierV) (fl : List Int) (w : World) (hv : PolAt w v n l) (hf : IntsAt w fv fl) (hl : l.length ≤ 1000000) (hfl : fl.length ≤ 1000000) :
    Calls Try.prog 12 #[v, .int .i64 now, fv] w (RetP w (fun u w' => ReachOut w.heap.size w' u ⟨now, n, l, fl⟩)) := by
  obtain ⟨tv, rfl, ht⟩ := hv
  have HT := Lib.hid ht
  have HF := Lib.hid hf
  obtain ⟨a, c, rfl, _⟩ := ht
  obtain ⟨fa, fc, rfl, _⟩ := hf
  go_enter Try.func12, Try.ntmps12
  go_wp2_with fail
  refine (copy_any _ n l _ ⟨_, rfl, (HT.out.below (bel_new _ _)).below (bel_new _ _)⟩ hl).mono ?_
  rintro e w1 ⟨u, rfl, ⟨tv, rfl, hu, hs⟩, hb⟩
  have HS := Lib.hid hs
  have HU := Lib.hid hu
  have HB0 := Lib.hid hb
  obtain ⟨a2, c2, rfl, _⟩ := hu
  obtain ⟨h1, h2, hbw⟩ := two_new hb
  have HB := Lib.hid hbw
  have H2 := Lib.hid h2
  clear hb hbw hs h1 h2
  go_wp2_with fail
  refine (clone_ints _ fl _ (HF.out.below HB.out) hfl).mono ?_
  rintro e w2 ⟨u, rfl, hu, hs, hb⟩
  have HS2 := Lib.hid hs
  have HU2 := Lib.hid hu
  obtain ⟨a3, c3, rfl, _⟩ := hu
  have h2 := heap_step H2.out hb
  have HB2 := Lib.hid (chain HB.out hb)
  have HUb := Lib.hid (HU.out.below hb)
  have hsz := HB0.out.size
  simp only [World.size_alloc] at hsz
  have hsz2 := hb.size
  have H22 := Lib.hid h2
  obtain ⟨d0, d1, d2, d3⟩ := row4 h2
  have g0 := frozen_row (o := 0) h2
  have g1 := frozen_row (o := 1) h2
  have g2 := frozen_row (o := 2) h2
  have g3 := frozen_row (o := 3) h2
  clear hs hb h2
  go_wp2
  refine bodyPost_ret (v := .agg #[.int .i64 now, .string n, .slice a2 l.length c2, .slice a3 fl.length c3]) (results_cell_row Try.results12 _ _ (w.heap.size + 1) 34 #[.int .i64 now, .string n, .slice a2 l.length c2, .slice a3 fl.length c3] (0, 0) _ rfl (set_heap (set_heap (set_heap (set_heap H22.out _) _) _) _) Try.underlying34 rfl (by kernel_rfl)) rfl ?_
  have hfr : ∀ (k : Nat), w.heap.size + 2 ≤ k → ((((w2.setCell ⟨w.heap.size + 1, 0, none⟩ (.int .i64 now)).setCell ⟨w.heap.size + 1, 1, none⟩ (.string n)).setCell ⟨w.heap.size + 1, 2, none⟩ (.slice a2 l.length c2)).setCell ⟨w.heap.size + 1, 3, none⟩ (.slice a3 fl.length c3)).heap[k]? = w2.heap[k]? := fun k hk => by
    rw [set_heap_other _ (by dsimp only; omega), set_heap_other _ (by dsimp only; omega), set_heap_other _ (by dsimp only; omega), set_heap_other _ (by dsimp only; omega)]
  refine ⟨_, rfl, ⟨_, _, rfl, HUb.out.frame HS.out (by simp) (fun k hk _ => hfr k (by simp only [World.size_alloc] at hk; omega)), ints_frame HU2.out HS2.out (by simp) (fun k hk _ => hfr k (by omega)), HS.out.mono (by simp; omega), HS2.out.mono (by omega)⟩, bel_set (bel_set (bel_set (bel_set HB2.out (by simp)) (by simp)) (by simp)) (by simp)⟩

def RV.is (r : RV) (k : Int) : Bool := decide (0 ≤ k ∧ k < r.l.length)
def RV.low (r : RV) (k : Nat) : Int := gback r.now (r.l.getD k TierV.zero).keep (r.l.getD (min (k + 1) (r.l.length - 1)) TierV.zero).every
def RV.fromN (r : RV) (k : Nat) : Int := if k < r.fl.length then max (r.low k) (r.fl.getD k 0) else r.low k
def RV.from (r : RV) (k : Int) : Int := if r.is k then r.fromN k.toNat else 0
theorem RV.from_nat (r : RV) (k : Nat) (h : k < r.l.length) : r.from k = r.fromN k := by
  unfold RV.from RV.is; rw [if_pos (by simp; omega)]; rfl
theorem RV.from_not (r : RV) (k : Int) (h : k < 0 ∨ (r.l.length : Int) ≤ k) : r.from k = 0 := by
  unfold RV.from RV.is; rw [if_neg (by simp; omega)]

set_option maxRecDepth 100000 in
set_option maxHeartbeats 1000000 in
theorem is_any (v : Value) (r : RV) (k : Int) (w : World) (hv : ReachAt w v r) (hk : I64 k) :
    Calls Try.prog 35 #[v, .int .i64 k] w (RetB w (.bool (r.is k))) := by
  obtain ⟨tv, fv, rfl, ht, hf⟩ := hv
  obtain ⟨a, c, rfl, _, hlen, _⟩ := ht
  obtain ⟨fa, fc, rfl, _⟩ := hf
  by_cases h1 : 0 ≤ k
  · go_enter Try.func35, Try.ntmps35
    go_wp2_with fail
    go_ret
    exact ⟨ret_bool (by unfold RV.is; simp; omega), bel_new _ _⟩
  · go_enter Try.func35, Try.ntmps35
    go_wp2_with fail
    go_ret
    exact ⟨ret_bool (by unfold RV.is; simp; omega), bel_new _ _⟩

theorem gback_I64 (t k e : Int) (ht : I64 t) (hk : I64 k) (he : I64 e) : I64 (gback t k e) := by
  unfold I64 at *
  unfold gback
  split
  · omega
  · have := gfloor_I64 (t - k) e (by omega) he.2
    omega

set_option maxRecDepth 100000 in
set_option maxHeartbeats 1000000 in
theorem from_any (v : Value) (r : RV) (k : Int) (w : World) (hv : ReachAt w v r) (hn : I64 r.now) (hk : I64 k) :
    Calls Try.prog 14 #[v, .int .i64 k] w (RetB w (.int .i64 (r.from k))) := by
  have hv0 := hv
  obtain ⟨tv, fv, rfl, ht, hf⟩ := hv
  obtain ⟨a, c, rfl, hok, hlen, hc⟩ := ht
  obtain ⟨fa, fc, rfl, hfk, hflen, hfc⟩ := hf
  have HV := Lib.hid hv0
  have HC := Lib.hid hc
  have HFC := Lib.hid hfc
  have HOK := Lib.hid hok
  have HFK := Lib.hid hfk
  have HN := Lib.hid hn
  have HK := Lib.hid hk
  clear hc hfc hok hfk hv0
  unfold I64 at hn hk
  by_cases h1 : r.is k = true
  · have h2 : 0 ≤ k ∧ k < r.l.length := by unfold RV.is at h1; simpa using h1
    have H1 := Lib.hid h1
    obtain ⟨K, rfl⟩ : ∃ K : Nat, k = K := ⟨k.toNat, by omega⟩
    obtain ⟨M, hM⟩ : ∃ M : Nat, M = min (K + 1) (r.l.length - 1) := ⟨_, rfl⟩
    obtain ⟨K1, hK1⟩ : ∃ x : Nat, x = K + 1 := ⟨_, rfl⟩
    obtain ⟨N1, hN1⟩ : ∃ x : Nat, x = r.l.length - 1 := ⟨_, rfl⟩
    have hw1 : IntKind.i64.wrap ((K : Int) + 1) = K1 := by rw [IntKind.wrap_i64]; omega
    have hw2 : IntKind.i64.wrap ((r.l.length : Int) - 1) = N1 := by rw [IntKind.wrap_i64]; omega
    have hM2 : min (K1 : Int) (N1 : Int) = (M : Int) := by omega
    have hM3 : M < r.l.length := by omega
    obtain ⟨b, o, rfl, hb, hcl⟩ := HC.out (by intro h; rw [h] at h2; simp at h2; omega)
    obtain ⟨_, _, x2, _⟩ := hcl K (by omega)
    obtain ⟨_, y1, _, _⟩ := hcl M hM3
    have e1 : r.from K = if K < r.fl.length then max (gback r.now (r.l.getD K TierV.zero).keep (r.l.getD M TierV.zero).every) (r.fl.getD K 0) else gback r.now (r.l.getD K TierV.zero).keep (r.l.getD M TierV.zero).every := by
      rw [r.from_nat K (by omega)]; unfold RV.fromN RV.low; rw [← hM]
    have ok1 := HOK.out (r.l.getD K TierV.zero) (by rw [List.getD_eq_getElem?_getD, List.getElem?_eq_getElem (show K < r.l.length by omega)]; exact List.getElem_mem _)
    have ok2 := HOK.out (r.l.getD M TierV.zero) (by rw [List.getD_eq_getElem?_getD, List.getElem?_eq_getElem hM3]; exact List.getElem_mem _)
    obtain ⟨kp, hkp⟩ : ∃ x, x = (r.l.getD K TierV.zero).keep := ⟨_, rfl⟩
    obtain ⟨ev, hev⟩ : ∃ x, x = (r.l.getD M TierV.zero).every := ⟨_, rfl⟩
    have hkI : I64 kp := by rw [hkp]; exact ok1.2.2.1
    have heI : I64 ev := by rw [hev]; exact ok2.2.1
    rw [← hkp] at x2 e1
    rw [← hev] at y1 e1
    have HE1 := Lib.hid e1
    have HKI := Lib.hid hkI
    have HEI := Lib.hid heI
    have hb' : b < w.heap.size := hb
    clear hkp hev ok1 ok2 hcl e1 hM h1 heI hkI hK1 hN1
    go_enter Try.func14, Try.ntmps14
    go_wp2_with fail
    refine (is_any _ r K _ (HV.out.below (bel_new _ _)) HK.out).mono ?_
    rintro e w1 ⟨rfl, hb1⟩
    rw [H1.out]
    obtain ⟨h1, hbw⟩ := one_new hb1
    obtain ⟨c0, c1, c2, c3⟩ := row4 h1
    have x2' := (hbw.cell (p := ⟨b, _, none⟩) hb').trans x2
    have y1' := (hbw.cell (p := ⟨b, _, none⟩) hb').trans y1
    have HB1 := Lib.hid hbw
    clear hb1 hbw h1
    go_wp2_with fail
    have HG := Lib.hid (gback_I64 _ _ _ HN.out HKI.out HEI.out)
    obtain ⟨G, hG⟩ : ∃ G, G = gback r.now kp ev := ⟨_, rfl⟩
    rw [← hG] at HG HE1
    have HGE := Lib.hid hG
    clear hG
    refine wp_region_inv (R := Blw) (S := (fun w' => Below w.heap.size w w' ∧ w'.cell? ⟨w.heap.size, 0, none⟩ = some (.int .i64 r.now) ∧ w'.cell? ⟨w.heap.size, 3, none⟩ = some (.slice fa r.fl.length fc) ∧ w'.cell? ⟨b, o + K * 4 + 2, none⟩ = some (.int .i64 kp) ∧ w'.cell? ⟨b, o + M * 4 + 1, none⟩ = some (.int .i64 ev))) 19 (Spec.val ?_ :: Spec.val ?_ :: Spec.val ?_ :: Spec.val ?_ :: Spec.val ?_ :: Spec.val ?_ :: Spec.val ?_ :: Spec.val ?_ :: Spec.val ?_ :: Spec.val ?_ :: Spec.val ?_ :: Spec.val ?_ :: Spec.val ?_ :: Spec.val ?_ :: Spec.val ?_ :: Spec.val ?_ :: Spec.val ?_ :: Spec.val ?_ :: Spec.val ?_ :: []) (by kernel_rfl) (by kernel_rfl) rfl (fun w1 w2 h hb => ⟨chain h.1 hb, cell_step h.2.1 hb, cell_step h.2.2.1 hb, cell_step h.2.2.2.1 hb, cell_step h.2.2.2.2 hb⟩) (⟨HB1.out.drew, c0, c3, x2', y1'⟩) ?hm1
    case' hm1 => skip
    refine inv_val (i := 0) (by kernel_rfl) rfl rfl (fun w1 hS hd K hK => ?_) ?_
    · (try dsimp only at hS); go_simp; exact hK.out _ _ (by simp only [Act.put, List.setIfInBounds_toArray, List.set_cons_zero, List.set_cons_succ, List.nil_append, List.cons_append]; rfl) (Below.refl _ _)
    simp only [Act.put, List.setIfInBounds_toArray, List.set_cons_zero, List.set_cons_succ, List.nil_append, List.cons_append]
    refine inv_val (i := 1) (by kernel_rfl) rfl rfl (fun w1 hS hd K hK => ?_) ?_
    · (try dsimp only at hS); go_simp; exact hK.out _ _ (by simp only [Act.put, List.setIfInBounds_toArray, List.set_cons_zero, List.set_cons_succ, List.nil_append, List.cons_append]; rfl) (Below.refl _ _)
    simp only [Act.put, List.setIfInBounds_toArray, List.set_cons_zero, List.set_cons_succ, List.nil_append, List.cons_append]
    refine inv_val (i := 2) (by kernel_rfl) rfl rfl (fun w1 hS hd K hK => ?_) ?_
    · (try dsimp only at hS); go_simp; exact hK.out _ _ (by simp only [Act.put, List.setIfInBounds_toArray, List.set_cons_zero, List.set_cons_succ, List.nil_append, List.cons_append]; rfl) (Below.refl _ _)
    simp only [Act.put, List.setIfInBounds_toArray, List.set_cons_zero, List.set_cons_succ, List.nil_append, List.cons_append]
    refine inv_val (i := 3) (by kernel_rfl) rfl rfl (fun w1 hS hd K hK => ?_) ?_
    · (try dsimp only at hS); go_simp; exact hK.out _ _ (by simp only [Act.put, List.setIfInBounds_toArray, List.set_cons_zero, List.set_cons_succ, List.nil_append, List.cons_append]; rfl) (Below.refl _ _)
    simp only [Act.put, List.setIfInBounds_toArray, List.set_cons_zero, List.set_cons_succ, List.nil_append, List.cons_append]
    refine inv_val (i := 4) (by kernel_rfl) rfl rfl (fun w1 hS hd K hK => ?_) ?_
    · (try dsimp only at hS); go_simp; exact hK.out _ _ (by simp only [Act.put, List.setIfInBounds_toArray, List.set_cons_zero, List.set_cons_succ, List.nil_append, List.cons_append]; rfl) (Below.refl _ _)
    simp only [Act.put, List.setIfInBounds_toArray, List.set_cons_zero, List.set_cons_succ, List.nil_append, List.cons_append]
    refine inv_val (i := 5) (by kernel_rfl) rfl rfl (fun w1 hS hd K hK => ?_) ?_
    · (try dsimp only at hS); go_simp; exact hK.out _ _ (by simp only [Act.put, List.setIfInBounds_toArray, List.set_cons_zero, List.set_cons_succ, List.nil_append, List.cons_append]; rfl) (Below.refl _ _)
    simp only [Act.put, List.setIfInBounds_toArray, List.set_cons_zero, List.set_cons_succ, List.nil_append, List.cons_append]
    refine inv_val (i := 6) (by kernel_rfl) rfl rfl (fun w1 hS hd K hK => ?_) ?_
    · (try dsimp only at hS); go_simp; exact hK.out _ _ (by simp only [Act.put, List.setIfInBounds_toArray, List.set_cons_zero, List.set_cons_succ, List.nil_append, List.cons_append]; rfl) (Below.refl _ _)
    simp only [Act.put, List.setIfInBounds_toArray, List.set_cons_zero, List.set_cons_succ, List.nil_append, List.cons_append]
    refine inv_val (i := 7) (by kernel_rfl) rfl rfl (fun w1 hS hd K hK => ?_) ?_
    · (try dsimp only at hS); go_simp; exact hK.out _ _ (by simp only [Act.put, List.setIfInBounds_toArray, List.set_cons_zero, List.set_cons_succ, List.nil_append, List.cons_append]; rfl) (Below.refl _ _)
    simp only [Act.put, List.setIfInBounds_toArray, List.set_cons_zero, List.set_cons_succ, List.nil_append, List.cons_append]
    refine inv_val (i := 8) (by kernel_rfl) rfl rfl (fun w1 hS hd K hK => ?_) ?_
    · (try dsimp only at hS); go_simp; exact hK.out _ _ (by simp only [Act.put, List.setIfInBounds_toArray, List.set_cons_zero, List.set_cons_succ, List.nil_append, List.cons_append]; rfl) (Below.refl _ _)
    simp only [Act.put, List.setIfInBounds_toArray, List.set_cons_zero, List.set_cons_succ, List.nil_append, List.cons_append]
    refine inv_val (i := 9) (by kernel_rfl) rfl rfl (fun w1 hS hd K hK => ?_) ?_
    · (try dsimp only at hS); go_simp; exact hK.out _ _ (by simp only [Act.put, List.setIfInBounds_toArray, List.set_cons_zero, List.set_cons_succ, List.nil_append, List.cons_append]; rfl) (Below.refl _ _)
    simp only [Act.put, List.setIfInBounds_toArray, List.set_cons_zero, List.set_cons_succ, List.nil_append, List.cons_append]
    refine inv_val (i := 10) (by kernel_rfl) rfl rfl (fun w1 hS hd K hK => ?_) ?_
    · (try dsimp only at hS); go_simp; exact hK.out _ _ (by simp only [Act.put, List.setIfInBounds_toArray, List.set_cons_zero, List.set_cons_succ, List.nil_append, List.cons_append]; rfl) (Below.refl _ _)
    simp only [Act.put, List.setIfInBounds_toArray, List.set_cons_zero, List.set_cons_succ, List.nil_append, List.cons_append]
    refine inv_val (i := 11) (by kernel_rfl) rfl rfl (fun w1 hS hd K hK => ?_) ?_
    · (try dsimp only at hS); go_simp; exact hK.out _ _ (by simp only [Act.put, List.setIfInBounds_toArray, List.set_cons_zero, List.set_cons_succ, List.nil_append, List.cons_append]; rfl) (Below.refl _ _)
    simp only [Act.put, List.setIfInBounds_toArray, List.set_cons_zero, List.set_cons_succ, List.nil_append, List.cons_append]
    refine inv_val (i := 12) (by kernel_rfl) rfl rfl (fun w1 hS hd K hK => ?_) ?_
    · (try dsimp only at hS); go_simp; exact hK.out _ _ (by simp only [Act.put, List.setIfInBounds_toArray, List.set_cons_zero, List.set_cons_succ, List.nil_append, List.cons_append]; rfl) (Below.refl _ _)
    simp only [Act.put, List.setIfInBounds_toArray, List.set_cons_zero, List.set_cons_succ, List.nil_append, List.cons_append]
    refine inv_val (i := 13) (by kernel_rfl) rfl rfl (fun w1 hS hd K hK => ?_) ?_
    · (try dsimp only at hS); go_simp; exact hK.out _ _ (by simp only [Act.put, List.setIfInBounds_toArray, List.set_cons_zero, List.set_cons_succ, List.nil_append, List.cons_append]; rfl) (Below.refl _ _)
    simp only [Act.put, List.setIfInBounds_toArray, List.set_cons_zero, List.set_cons_succ, List.nil_append, List.cons_append]
    refine inv_val (i := 14) (by kernel_rfl) rfl rfl (fun w1 hS hd K hK => ?_) ?_
    · (try dsimp only at hS); go_simp; exact hK.out _ _ (by simp only [Act.put, List.setIfInBounds_toArray, List.set_cons_zero, List.set_cons_succ, List.nil_append, List.cons_append]; rfl) (Below.refl _ _)
    simp only [Act.put, List.setIfInBounds_toArray, List.set_cons_zero, List.set_cons_succ, List.nil_append, List.cons_append]
    refine inv_val (i := 15) (by kernel_rfl) rfl rfl (fun w1 hS hd K hK => ?_) ?_
    · (try dsimp only at hS); go_simp; exact hK.out _ _ (by simp only [Act.put, List.setIfInBounds_toArray, List.set_cons_zero, List.set_cons_succ, List.nil_append, List.cons_append]; rfl) (Below.refl _ _)
    simp only [Act.put, List.setIfInBounds_toArray, List.set_cons_zero, List.set_cons_succ, List.nil_append, List.cons_append]
    refine inv_val (i := 16) (by kernel_rfl) rfl rfl (fun w1 hS hd K hK => ?_) ?_
    · (try dsimp only at hS); go_simp; exact hK.out _ _ (by simp only [Act.put, List.setIfInBounds_toArray, List.set_cons_zero, List.set_cons_succ, List.nil_append, List.cons_append]; rfl) (Below.refl _ _)
    simp only [Act.put, List.setIfInBounds_toArray, List.set_cons_zero, List.set_cons_succ, List.nil_append, List.cons_append]
    refine inv_val (i := 17) (by kernel_rfl) rfl rfl (fun w1 hS hd K hK => ?_) ?_
    · (try dsimp only at hS); go_simp; refine (back_any _ _ _ _ HN.out HKI.out HEI.out).mono ?_; rintro e w2 ⟨rfl, rfl⟩; rw [← HGE.out]; exact hK.out _ _ (by simp only [Act.put, List.setIfInBounds_toArray, List.set_cons_zero, List.set_cons_succ, List.nil_append, List.cons_append]; rfl) (Below.refl _ _)
    simp only [Act.put, List.setIfInBounds_toArray, List.set_cons_zero, List.set_cons_succ, List.nil_append, List.cons_append]
    refine inv_val (i := 18) (by kernel_rfl) rfl rfl (fun w1 hS hd K hK => ?_) ?_
    · (try dsimp only at hS); go_simp; exact hK.out _ _ (by simp only [Act.put, List.setIfInBounds_toArray, List.set_cons_zero, List.set_cons_succ, List.nil_append, List.cons_append]; rfl) (Below.refl _ _)
    simp only [Act.put, List.setIfInBounds_toArray, List.set_cons_zero, List.set_cons_succ, List.nil_append, List.cons_append]
    refine inv_done (by kernel_rfl) (fun w2 hS hd => ?_)
    obtain ⟨hb2, _, c3', _, _⟩ := hS
    have HB2 := Lib.hid hb2
    clear hb2 hd c0 c1 c2 c3
    by_cases hf : K < r.fl.length
    · obtain ⟨b3, o3, rfl, hb3, hcl3⟩ := HFC.out (by intro h; rw [h] at hf; simp at hf)
      have z := (HB2.out.cell (p := ⟨b3, _, none⟩) hb3).trans (hcl3 K hf)
      obtain ⟨fx, hfx⟩ : ∃ x, x = r.fl.getD K 0 := ⟨_, rfl⟩
      rw [← hfx] at z HE1
      clear hcl3 hfx
      go_wp2_with fail
      go_ret
      exact ⟨ret_int (by rw [HE1.out, if_pos hf]), HB2.out⟩
    · go_wp2_with fail
      go_ret
      exact ⟨ret_int (by rw [HE1.out, if_neg hf]), HB2.out⟩
  · have H1 := Lib.hid (show r.is k = false by simpa using h1)
    have H2 := Lib.hid (show r.from k = 0 by unfold RV.from; rw [if_neg h1])
    clear h1
    go_enter Try.func14, Try.ntmps14
    go_wp2_with fail
    refine (is_any _ r k _ (HV.out.below (bel_new _ _)) HK.out).mono ?_
    rintro e w1 ⟨rfl, hb1⟩
    rw [H1.out]
    have HB1 := Lib.hid (chain (bel_new _ _) hb1)
    clear hb1
    go_wp2_with fail
    go_ret
    exact ⟨ret_int H2.out.symm, HB1.out⟩
end Go.Proofs.Ytaenpcglaenlaaa
