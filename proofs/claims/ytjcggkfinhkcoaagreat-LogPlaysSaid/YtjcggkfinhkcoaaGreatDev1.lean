/-
  The disk: what one is, where it lies, what an operation may turn; the contracts of its small methods.
-/
import Derived.Test.YtjcggkfinhkcoaaGreatMapS
import Derived.Test.YtjcggkfinhkcoaaGreatShelf
namespace Go.Proofs.YtjcggkfinhkcoaaGreat
open Go.RowKit
set_option linter.unusedVariables false
set_option linter.unusedSimpArgs false

def I64 (t : Int) : Prop := -9223372036854775808 ≤ t ∧ t ≤ 9223372036854775807
structure DV where
  on : Bool
  writes : Int
  armed : Bool
  left : Int
  keep : List Int
  blocks : Int
  now : Int → Option ByteArray
  lasts : Int → Option ByteArray
  waits : List (Int × ByteArray)
def w0 : Int × ByteArray := (0, ByteArray.empty)
def flatW (l : List (Int × ByteArray)) : List Value := l.flatMap fun x => [.int .i64 x.1, .string x.2]
theorem flatW_len : ∀ l : List (Int × ByteArray), (flatW l).length = l.length * 2
  | [] => rfl
  | t :: l => by simp only [flatW, List.flatMap_cons, List.length_append, List.length_cons]; rw [show (l.flatMap fun x : Int × ByteArray => [Value.int .i64 x.1, .string x.2]).length = l.length * 2 from flatW_len l]; simp; omega
theorem flatW_at : ∀ (l : List (Int × ByteArray)) (j : Nat), j < l.length → (flatW l)[j * 2]? = some (.int .i64 (l.getD j w0).1) ∧ (flatW l)[j * 2 + 1]? = some (.string (l.getD j w0).2)
  | [], j, h => absurd h (Nat.not_lt_zero _)
  | t :: l, 0, _ => ⟨rfl, rfl⟩
  | t :: l, j + 1, h => by
    have := flatW_at l j (by simpa using h)
    have e : ∀ k, (flatW (t :: l))[(j + 1) * 2 + k]? = (flatW l)[j * 2 + k]? := fun k => by
      show ([Value.int .i64 t.1, .string t.2] ++ flatW l)[(j + 1) * 2 + k]? = _
      rw [List.getElem?_append_right (by simp; omega)]; congr 1; simp; omega
    have e0 := e 0
    simp only [Nat.add_zero] at e0
    rw [e0, e 1]
    simpa using this
theorem flatW_one {l : List (Int × ByteArray)} : ∀ u ∈ flatW l, u.oneCell' = true := by
  intro u hu
  simp only [flatW, List.mem_flatMap] at hu
  obtain ⟨t, _, hu⟩ := hu
  simp only [List.mem_cons, List.not_mem_nil, or_false] at hu
  rcases hu with rfl | rfl <;> rfl

/-- A list of ints in a block of ints. -/
def KeepAt (w : World) (v : Value) (l : List Int) : Prop := IntsAt w v l ∧ ∀ b o s n c, v = .slice (some ⟨b, o, s⟩) n c → l ≠ [] → ∃ cs fr, w.heap[b]? = some (.cells cs 3 fr)
def DV.ok (d : DV) : Prop := I64 d.writes ∧ I64 d.left ∧ I64 d.blocks ∧ ∀ x ∈ d.waits, inI x.1 ∧ x.2.size ≤ 9223372036854775807
/-- The disk d lies in block p; its own blocks are from B on; c: at least as many as there are entries in its maps. -/
structure DP (w : World) (B p c : Nat) (d : DV) (kv wv : Value) (mb lb : Nat) : Prop where
  blk : w.heap[p]? = some (.cells #[.bool d.on, .int .i64 d.writes, .bool d.armed, .int .i64 d.left, kv, .int .i64 d.blocks, .map (some mb), .map (some lb), wv] 64)
  keep : KeepAt w kv d.keep
  now : MapAt w mb c d.now
  lasts : ∃ n, n + d.waits.length ≤ c ∧ MapAt w lb n d.lasts
  waits : w.ownsRow B 94 2 wv d.waits.length (flatW d.waits)
  ne : mb ≠ lb
  ge : B ≤ p ∧ B ≤ mb ∧ B ≤ lb
  ok : d.ok
def DiskAt (w : World) (B p c : Nat) (d : DV) : Prop := ∃ kv wv mb lb, DP w B p c d kv wv mb lb

/-- The blocks in which a disk lies that it may turn. -/
def Own (w : World) (p k : Nat) : Prop := k = p ∨ w.cell? ⟨p, 6, none⟩ = some (.map (some k)) ∨ w.cell? ⟨p, 7, none⟩ = some (.map (some k)) ∨ ∃ v, w.cell? ⟨p, 8, none⟩ = some v ∧ v.ownBlock = some k
structure DStep (p : Nat) (w w' : World) : Prop where
  os : w'.os = w.os
  tape : w'.tape = w.tape
  output : w'.output = w.output
  size : w.heap.size ≤ w'.heap.size
  block : ∀ k, k < w.heap.size → ¬ Own w p k → w'.heap[k]? = w.heap[k]?
  own : ∀ k, Own w' p k → Own w p k ∨ w.heap.size ≤ k
theorem DStep.refl (p : Nat) (w : World) : DStep p w w := ⟨rfl, rfl, rfl, Nat.le_refl _, fun _ _ _ => rfl, fun _ h => .inl h⟩
theorem DStep.trans {p : Nat} {a b c : World} (h : DStep p a b) (k : DStep p b c) : DStep p a c :=
  ⟨k.os.trans h.os, k.tape.trans h.tape, k.output.trans h.output, Nat.le_trans h.size k.size,
    fun i hi hr => (k.block i (Nat.lt_of_lt_of_le hi h.size) (fun hr' => (h.own i hr').elim hr (fun h' => by omega))).trans (h.block i hi hr),
    fun i hr => (k.own i hr).elim (h.own i) (fun h' => .inr (Nat.le_trans h.size h'))⟩
theorem DStep.of_below {p : Nat} {w w' : World} (h : Below w.heap.size w w') (hp : p < w.heap.size) : DStep p w w' := by
  have hc : ∀ o, w'.cell? ⟨p, o, none⟩ = w.cell? ⟨p, o, none⟩ := fun o => h.cell (p := ⟨p, o, none⟩) hp
  refine ⟨h.os, h.tape, h.output, h.size, fun k hk _ => h.block k hk, fun k hk => .inl ?_⟩
  unfold Own at hk ⊢
  rwa [hc, hc, hc] at hk
theorem DStep.below {p B : Nat} {w w' : World} (h : DStep p w w') (hB : ∀ k, Own w p k → B ≤ k) (hs : B ≤ w.heap.size) : Below B w w' :=
  ⟨h.os, h.tape, h.output, h.size, fun k hk => h.block k (by omega) (fun ho => by have := hB k ho; omega)⟩

theorem row9 {w : World} {b : Nat} {T : TypeId} {x0 x1 x2 x3 x4 x5 x6 x7 x8 : Value} (h : w.heap[b]? = some (.cells #[x0, x1, x2, x3, x4, x5, x6, x7, x8] T)) :
    w.cell? ⟨b, 0, none⟩ = some x0 ∧ w.cell? ⟨b, 1, none⟩ = some x1 ∧ w.cell? ⟨b, 2, none⟩ = some x2 ∧ w.cell? ⟨b, 3, none⟩ = some x3 ∧ w.cell? ⟨b, 4, none⟩ = some x4 ∧ w.cell? ⟨b, 5, none⟩ = some x5 ∧ w.cell? ⟨b, 6, none⟩ = some x6 ∧ w.cell? ⟨b, 7, none⟩ = some x7 ∧ w.cell? ⟨b, 8, none⟩ = some x8 := by
  refine ⟨?_, ?_, ?_, ?_, ?_, ?_, ?_, ?_, ?_⟩ <;> (rw [cell_of_row w b _ _ _ _ h]; rfl)
theorem free9 {w : World} {b : Nat} {T : TypeId} {cs : Array Value} (h : w.heap[b]? = some (.cells cs T)) :
    w.frozen? ⟨b, 0, none⟩ = false ∧ w.frozen? ⟨b, 1, none⟩ = false ∧ w.frozen? ⟨b, 2, none⟩ = false ∧ w.frozen? ⟨b, 3, none⟩ = false ∧ w.frozen? ⟨b, 4, none⟩ = false ∧ w.frozen? ⟨b, 5, none⟩ = false ∧ w.frozen? ⟨b, 6, none⟩ = false ∧ w.frozen? ⟨b, 7, none⟩ = false ∧ w.frozen? ⟨b, 8, none⟩ = false := by
  refine ⟨?_, ?_, ?_, ?_, ?_, ?_, ?_, ?_, ?_⟩ <;> exact frozen_row h

theorem KeepAt.step {w w' : World} {v : Value} {l : List Int} (h : KeepAt w v l) (hs : w.heap.size ≤ w'.heap.size) (hb : ∀ b o s n c, v = .slice (some ⟨b, o, s⟩) n c → l ≠ [] → w'.heap[b]? = w.heap[b]?) : KeepAt w' v l := by
  obtain ⟨⟨a, c, rfl, h2, h3, h4⟩, h5⟩ := h
  refine ⟨⟨a, c, rfl, h2, h3, fun hn => ?_⟩, fun b o s n c' e hn => ?_⟩
  · obtain ⟨b, o, rfl, h6, h7⟩ := h4 hn
    have hB := hb b o none _ _ rfl hn
    have hc : ∀ o', w'.cell? ⟨b, o', none⟩ = w.cell? ⟨b, o', none⟩ := fun o' => by unfold World.cell?; rw [hB]
    exact ⟨b, o, rfl, by omega, fun j hj => by rw [hc]; exact h7 j hj⟩
  · obtain ⟨cs, fr, h6⟩ := h5 b o s n c' e hn
    exact ⟨cs, fr, (hb b o s n c' e hn).trans h6⟩
theorem keep_nil (w : World) : KeepAt w (.slice none 0 0) [] := ⟨ints_nil w, fun _ _ _ _ _ e _ => by cases e⟩
theorem own_frame {w w' : World} {B k n : Nat} {e : TypeId} {v : Value} {xs : List Value} (h : w.ownsRow B e k v n xs) (hb : ∀ g, v.ownBlock = some g → w'.heap[g]? = w.heap[g]?) : w'.ownsRow B e k v n xs := by
  obtain ⟨h1, h2⟩ := h
  refine ⟨h1, ?_⟩
  rcases h2 with h2 | ⟨g, cap, cur, h2, h3, h4, h5⟩
  · exact .inl h2
  · exact .inr ⟨g, cap, cur, h2, h3, by rw [hb g (by rw [h2]; rfl)]; exact h4, h5⟩
theorem own_row {w : World} {B k n g : Nat} {e : TypeId} {v : Value} {xs : List Value} (h : w.ownsRow B e k v n xs) (hg : v.ownBlock = some g) : B ≤ g ∧ g < w.heap.size ∧ ∃ cur, w.heap[g]? = some (.cells cur e (0, 0)) := by
  rcases h.2 with ⟨h2, _⟩ | ⟨g', cap, cur, h2, h3, h4, h5⟩
  · rw [h2] at hg; cases hg
  · rw [h2] at hg
    obtain rfl : g' = g := by simpa [Value.ownBlock] using hg
    exact ⟨h3, heap_lt h4, cur, h4⟩

section
variable {w : World} {B p c : Nat} {d : DV} {kv wv : Value} {mb lb : Nat}
theorem DP.lt (h : DP w B p c d kv wv mb lb) : p < w.heap.size := heap_lt h.blk
theorem DP.apart (h : DP w B p c d kv wv mb lb) : p ≠ mb ∧ p ≠ lb ∧ (∀ g, wv.ownBlock = some g → g ≠ p ∧ g ≠ mb ∧ g ≠ lb) ∧
    (∀ b o s n c', kv = .slice (some ⟨b, o, s⟩) n c' → d.keep ≠ [] → b ≠ p ∧ b ≠ mb ∧ b ≠ lb ∧ wv.ownBlock ≠ some b) := by
  obtain ⟨es, ck, hm⟩ := h.now.map
  obtain ⟨n, _, hl⟩ := h.lasts
  obtain ⟨es2, ck2, hl⟩ := hl.map
  have hp := h.blk
  refine ⟨fun e => (by rw [e, hm] at hp; cases hp), fun e => (by rw [e, hl] at hp; cases hp), fun g hg => ?_, fun b o s n c' e hn => ?_⟩
  · obtain ⟨_, _, cur, hc⟩ := own_row h.waits hg
    refine ⟨fun e => ?_, fun e => (by rw [e, hm] at hc; cases hc), fun e => (by rw [e, hl] at hc; cases hc)⟩
    rw [e, hp] at hc
    injection hc with hc; injection hc with _ hc; exact absurd hc (by decide)
  · obtain ⟨cs, fr, hc⟩ := h.keep.2 b o s n c' e hn
    refine ⟨fun e => ?_, fun e => (by rw [e, hm] at hc; cases hc), fun e => (by rw [e, hl] at hc; cases hc), fun hg => ?_⟩
    · rw [e, hp] at hc
      injection hc with hc; injection hc with _ hc; exact absurd hc (by decide)
    · obtain ⟨_, _, cur, h2⟩ := own_row h.waits hg
      rw [h2] at hc
      injection hc with hc; injection hc with _ hc; exact absurd hc (by decide)
theorem DP.own_iff (h : DP w B p c d kv wv mb lb) (k : Nat) : Own w p k ↔ k = p ∨ k = mb ∨ k = lb ∨ wv.ownBlock = some k := by
  obtain ⟨_, _, _, _, _, _, c6, c7, c8⟩ := row9 h.blk
  unfold Own
  rw [c6, c7, c8]
  constructor
  · rintro (h1 | h1 | h1 | ⟨v, h1, h2⟩)
    · exact .inl h1
    · exact .inr (.inl (by injection h1 with h1; injection h1 with h1; injection h1 with h1; exact h1.symm))
    · exact .inr (.inr (.inl (by injection h1 with h1; injection h1 with h1; injection h1 with h1; exact h1.symm)))
    · injection h1 with h1; subst h1; exact .inr (.inr (.inr h2))
  · rintro (h1 | h1 | h1 | h1)
    · exact .inl h1
    · exact .inr (.inl (by rw [h1]))
    · exact .inr (.inr (.inl (by rw [h1])))
    · exact .inr (.inr (.inr ⟨_, rfl, h1⟩))
theorem DP.ge_own (h : DP w B p c d kv wv mb lb) : ∀ k, Own w p k → B ≤ k := by
  intro k hk
  rcases (h.own_iff k).1 hk with rfl | rfl | rfl | hg
  · exact h.ge.1
  · exact h.ge.2.1
  · exact h.ge.2.2
  · exact (own_row h.waits hg).1
/-- All else of the disk, where its block p alone has turned. -/
theorem DP.rest {w' : World} (h : DP w B p c d kv wv mb lb) (hs : w.heap.size ≤ w'.heap.size) (hb : ∀ k, k ≠ p → k < w.heap.size → w'.heap[k]? = w.heap[k]?) :
    KeepAt w' kv d.keep ∧ MapAt w' mb c d.now ∧ (∃ n, n + d.waits.length ≤ c ∧ MapAt w' lb n d.lasts) ∧ w'.ownsRow B 94 2 wv d.waits.length (flatW d.waits) := by
  obtain ⟨a1, a2, a3, a4⟩ := h.apart
  obtain ⟨n, hn, hl⟩ := h.lasts
  refine ⟨h.keep.step hs (fun b o s m c' e hne => ?_), h.now.step (hb _ a1.symm h.now.lt), ⟨n, hn, hl.step (hb _ a2.symm hl.lt)⟩, own_frame h.waits (fun g hg => hb g (a3 g hg).1 (own_row h.waits hg).2.1)⟩
  obtain ⟨cs, fr, h6⟩ := h.keep.2 b o s m c' e hne
  exact hb b (a4 b o s m c' e hne).1 (heap_lt h6)
theorem DP.step {w' : World} (h : DP w B p c d kv wv mb lb) (hb : Below w.heap.size w w') : DP w' B p c d kv wv mb lb := by
  obtain ⟨r1, r2, r3, r4⟩ := h.rest hb.size (fun k _ hk => hb.block k hk)
  exact ⟨heap_step h.blk hb, r1, r2, r3, r4, h.ne, h.ge, h.ok⟩
/-- The step of an operation that turns the disk's own blocks. -/
theorem DP.dstep {w' : World} {d' : DV} {kv' wv' : Value} {mb' lb' c' : Nat} (h : DP w B p c d kv wv mb lb) (h' : DP w' B p c' d' kv' wv' mb' lb') (h1 : w'.os = w.os) (h2 : w'.tape = w.tape) (h3 : w'.output = w.output) (hs : w.heap.size ≤ w'.heap.size)
    (hb : ∀ k, k < w.heap.size → k ≠ p → k ≠ mb → k ≠ lb → wv.ownBlock ≠ some k → w'.heap[k]? = w.heap[k]?)
    (hm : mb' = mb ∨ w.heap.size ≤ mb') (hl : lb' = lb ∨ w.heap.size ≤ lb') (hw : ∀ g, wv'.ownBlock = some g → wv.ownBlock = some g ∨ w.heap.size ≤ g) : DStep p w w' := by
  refine ⟨h1, h2, h3, hs, fun k hk ho => ?_, fun k ho => ?_⟩
  · rw [h.own_iff] at ho
    exact hb k hk (fun e => ho (.inl e)) (fun e => ho (.inr (.inl e))) (fun e => ho (.inr (.inr (.inl e)))) (fun e => ho (.inr (.inr (.inr e))))
  · rw [h.own_iff]
    rcases (h'.own_iff k).1 ho with e | e | e | e
    · exact .inl (.inl e)
    · rcases hm with hm | hm
      · exact .inl (.inr (.inl (e.trans hm)))
      · exact .inr (by omega)
    · rcases hl with hl | hl
      · exact .inl (.inr (.inr (.inl (e.trans hl))))
      · exact .inr (by omega)
    · rcases hw k e with hw | hw
      · exact .inl (.inr (.inr (.inr hw)))
      · exact .inr hw
end
theorem DiskAt.step {w w' : World} {B p c : Nat} {d : DV} (h : DiskAt w B p c d) (hb : Below w.heap.size w w') : DiskAt w' B p c d := by
  obtain ⟨kv, wv, mb, lb, h⟩ := h; exact ⟨kv, wv, mb, lb, h.step hb⟩
theorem DiskAt.lt {w : World} {B p c : Nat} {d : DV} (h : DiskAt w B p c d) : p < w.heap.size := by obtain ⟨kv, wv, mb, lb, h⟩ := h; exact h.lt
theorem DiskAt.dstep {w w' : World} {B p c : Nat} {d : DV} (h : DiskAt w B p c d) (hb : Below w.heap.size w w') : DStep p w w' := DStep.of_below hb h.lt
theorem DiskAt.below {w w' : World} {B p c : Nat} {d : DV} (h : DiskAt w B p c d) (hs : DStep p w w') : Below B w w' := by
  obtain ⟨kv, wv, mb, lb, h⟩ := h
  exact hs.below h.ge_own (Nat.le_of_lt (Nat.lt_of_le_of_lt h.ge.1 h.lt))
theorem DiskAt.mono {w : World} {B p c c' : Nat} {d : DV} (h : DiskAt w B p c d) (hc : c ≤ c') : DiskAt w B p c' d := by
  obtain ⟨kv, wv, mb, lb, h⟩ := h
  obtain ⟨n, hn, hl⟩ := h.lasts
  exact ⟨kv, wv, mb, lb, h.blk, h.keep, h.now.mono hc, ⟨n, by omega, hl⟩, h.waits, h.ne, h.ge, h.ok⟩
/-- What an operation of a disk leaves. -/
def RetD (w : World) (B p c : Nat) (d : DV) (v : Value) (e : Ending) (w' : World) : Prop := e = .returned v ∧ DiskAt w' B p c d ∧ DStep p w w'

section
variable {w : World} {B p c : Nat} {d : DV}
theorem off_any (h : DiskAt w B p c d) : Calls Tryz.prog 65 #[.pointer (some ⟨p, 0, none⟩)] w (RetB w (.bool (!d.on))) := by
  obtain ⟨kv, wv, mb, lb, h⟩ := h
  obtain ⟨c0, c1, c2, c3, c4, c5, c6, c7, c8⟩ := row9 h.blk
  clear h
  go_enter Tryz.func65, Tryz.ntmps65
  go_wp2
  go_ret
  exact ⟨rfl, Below.refl _ _⟩

def DV.spent (d : DV) : DV := { d with writes := d.writes + 1, left := if d.armed then d.left - 1 else d.left }
set_option maxRecDepth 100000 in
set_option maxHeartbeats 1000000 in
theorem goes_yes (h : DiskAt w B p c d) (ha : d.armed = true) (hl : d.left ≤ 0) : Calls Tryz.prog 66 #[.pointer (some ⟨p, 0, none⟩)] w (RetB w (.bool true)) := by
  obtain ⟨kv, wv, mb, lb, h⟩ := h
  obtain ⟨c0, c1, c2, c3, c4, c5, c6, c7, c8⟩ := row9 h.blk
  rw [ha] at c2
  clear h ha
  go_enter Tryz.func66, Tryz.ntmps66
  go_wp2
  go_ret
  exact ⟨rfl, Below.refl _ _⟩
theorem DP.spent {kv wv : Value} {mb lb : Nat} {w' : World} (h : DP w B p c d kv wv mb lb) (hw : 0 ≤ d.writes ∧ d.writes ≤ 1000000000000) (ha : d.armed = true → 0 < d.left)
    (hp : w'.heap[p]? = some (.cells #[.bool d.on, .int .i64 d.spent.writes, .bool d.armed, .int .i64 d.spent.left, kv, .int .i64 d.blocks, .map (some mb), .map (some lb), wv] 64))
    (h1 : w'.os = w.os) (h2 : w'.tape = w.tape) (h3 : w'.output = w.output) (hs : w.heap.size ≤ w'.heap.size) (hb : ∀ k, k ≠ p → k < w.heap.size → w'.heap[k]? = w.heap[k]?) : DiskAt w' B p c d.spent ∧ DStep p w w' := by
  obtain ⟨r1, r2, r3, r4⟩ := h.rest hs hb
  have hok : d.spent.ok := by
    obtain ⟨o1, o2, o3, o4⟩ := h.ok
    refine ⟨by unfold DV.spent I64; dsimp only; omega, ?_, o3, o4⟩
    unfold DV.spent I64 at *; dsimp only
    split
    · rename_i hh; have := ha hh; omega
    · omega
  have h' : DP w' B p c d.spent kv wv mb lb := ⟨hp, r1, r2, r3, r4, h.ne, h.ge, hok⟩
  exact ⟨⟨_, _, _, _, h'⟩, h.dstep h' h1 h2 h3 hs (fun k hk hkp _ _ _ => hb k hkp hk) (.inl rfl) (.inl rfl) (fun g hg => .inl hg)⟩
set_option maxRecDepth 100000 in
set_option maxHeartbeats 1000000 in
theorem goes_no (h : DiskAt w B p c d) (hw : 0 ≤ d.writes ∧ d.writes ≤ 1000000000000) (ha : d.armed = true → 0 < d.left) : Calls Tryz.prog 66 #[.pointer (some ⟨p, 0, none⟩)] w (RetD w B p c d.spent (.bool false)) := by
  obtain ⟨kv, wv, mb, lb, h⟩ := h
  have H := Lib.hid h
  have hlI := h.ok.2.1
  unfold I64 at hlI
  obtain ⟨c0, c1, c2, c3, c4, c5, c6, c7, c8⟩ := row9 h.blk
  obtain ⟨f0, f1, f2, f3, f4, f5, f6, f7, f8⟩ := free9 h.blk
  have HA := Lib.hid ha
  clear h ha
  by_cases hq : d.armed = true
  · have hl := HA.out hq
    have HQ := Lib.hid hq
    rw [hq] at c2
    clear hq
    go_enter Tryz.func66, Tryz.ntmps66
    go_wp2
    go_ret
    refine ⟨rfl, ?_⟩
    refine H.out.spent hw HA.out ?_ rfl rfl rfl (by simp) (fun k hkp _ => by rw [set_heap_other _ (by simpa using hkp), set_heap_other _ (by simpa using hkp)])
    rw [set_heap (set_heap H.out.blk _)]
    unfold DV.spent; rw [HQ.out]; rfl
  · have hq' : d.armed = false := by simpa using hq
    have HQ := Lib.hid hq'
    rw [hq'] at c2
    clear hq hq'
    go_enter Tryz.func66, Tryz.ntmps66
    go_wp2
    go_ret
    refine ⟨rfl, ?_⟩
    refine H.out.spent hw HA.out ?_ rfl rfl rfl (by simp) (fun k hkp _ => by rw [set_heap_other _ (by simpa using hkp)])
    rw [set_heap H.out.blk]
    unfold DV.spent; rw [HQ.out]; rfl
end
end Go.Proofs.YtjcggkfinhkcoaaGreat
