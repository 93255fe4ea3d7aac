/-
  A book of ints and of tiers beside other blocks: what keeping one more list leaves of them.
-/
import Derived.Test.YtaenpcglaenlaaaBookApartIR
import Derived.Test.YtaenpcglaenlaaaReachRef2
import Derived.Test.YtaenpcglaenlaaaReachOwn
import Derived.Test.YtaenpcglaenlaaaBookRLent
import Derived.Test.YtaenpcglaenlaaaReachAlive
namespace Go.Proofs.Ytaenpcglaenlaaa
open Go.RowKit
set_option linter.unusedVariables false
set_option linter.unusedSimpArgs false

/-- A block that a book of ints and of tiers does not turn. -/
def Aside (T : TypeId) : Prop := T ≠ 58 ∧ T ≠ 25 ∧ T ≠ 22
def KStep (w w' : World) : Prop := w.heap.size ≤ w'.heap.size ∧ ∀ k, k < w.heap.size → (∀ (cs : Array Value) (T : TypeId) (fr : Nat × Nat), w.heap[k]? = some (.cells cs T fr) → Aside T) → w'.heap[k]? = w.heap[k]?
section
variable {w w' : World} {B k n s : Nat} {T : TypeId} {v : Value} {xs : List Value}
theorem KStep.of_i (h : BStep_i w w') : KStep w w' := ⟨h.1, fun k hk hn => h.2 k hk (fun cs fr e => (hn _ _ _ e).1 rfl) (fun cs fr e => (hn _ _ _ e).2.1 rfl)⟩
theorem KStep.of_r (h : BStep_r w w') : KStep w w' := ⟨h.1, fun k hk hn => h.2 k hk (fun cs fr e => (hn _ _ _ e).1 rfl) (fun cs fr e => (hn _ _ _ e).2.2 rfl)⟩
theorem KStep.keep {cs : Array Value} {fr : Nat × Nat} (h : KStep w w') (hk : w.heap[k]? = some (.cells cs T fr)) (hT : Aside T) : w'.heap[k]? = w.heap[k]? :=
  h.2 k (heap_lt hk) (fun cs2 T2 fr2 e => by rw [hk] at e; injection e with e; injection e with _ e; rw [← e]; exact hT)
theorem KStep.blk {cs : Array Value} {fr : Nat × Nat} (h : KStep w w') (hk : w.heap[k]? = some (.cells cs T fr)) (hT : Aside T) : w'.heap[k]? = some (.cells cs T fr) := (h.keep hk hT).trans hk
theorem KStep.own (h : KStep w w') (ho : OwnL w B T s v n xs) (hT : Aside T) : OwnL w' B T s v n xs := ho.frame fun g hg => by
  obtain ⟨_, _, cur, hc⟩ := ho.lt hg
  exact h.keep hc hT
end
theorem aside_int : Aside 3 := by unfold Aside; decide
theorem aside_tier : Aside 32 := by unfold Aside; decide

/-- A list of ints that was lent, and the block in which it lies. -/
def LentB (w : World) (v : Value) (l : List Int) (g : Nat) : Prop := ∃ cap cur, v = .slice (some ⟨g, 0, none⟩) l.length cap ∧ Lent w v l ∧ w.heap[g]? = some (.cells cur 3 (0, 0))
theorem LentB.frame {w w' : World} {v : Value} {l : List Int} {g : Nat} (h : LentB w v l g) (hs : w.heap.size ≤ w'.heap.size) (hg : w'.heap[g]? = w.heap[g]?) : LentB w' v l g := by
  obtain ⟨cap, cur, rfl, ⟨g2, c2, e, h2, h3, h4, h5, h6⟩, h7⟩ := h
  injection e with e _ e2
  injection e with e; injection e with e
  subst e
  refine ⟨cap, cur, rfl, ⟨_, c2, by rw [e2], Nat.lt_of_lt_of_le h2 hs, h3, h4, fun j hj => ?_, ?_⟩, hg.trans h7⟩
  · exact (World.cell?_of_block hg).trans (h5 j hj)
  · exact (World.cell?_of_block hg).trans h6
theorem LentB.below {w w' : World} {v : Value} {l : List Int} {g : Nat} (h : LentB w v l g) (hb : Below w.heap.size w w') : LentB w' v l g :=
  h.frame hb.size (hb.block g (by obtain ⟨_, _, _, _, h7⟩ := h; exact heap_lt h7))
theorem LentB.kstep {w w' : World} {v : Value} {l : List Int} {g : Nat} (h : LentB w v l g) (hs : KStep w w') : LentB w' v l g :=
  h.frame hs.1 (by obtain ⟨_, _, _, _, h7⟩ := h; exact hs.keep h7 aside_int)
def LentT (w : World) (v : Value) (l : List TierV) (g : Nat) : Prop := ∃ cap cur, v = .slice (some ⟨g, 0, none⟩) l.length cap ∧ LentR w v l ∧ w.heap[g]? = some (.cells cur 32 (0, 0))
theorem LentT.frame {w w' : World} {v : Value} {l : List TierV} {g : Nat} (h : LentT w v l g) (hs : w.heap.size ≤ w'.heap.size) (hg : w'.heap[g]? = w.heap[g]?) : LentT w' v l g := by
  obtain ⟨cap, cur, rfl, ⟨g2, c2, e, h2, h3, h4, h5, h6⟩, h7⟩ := h
  injection e with e _ e2
  injection e with e; injection e with e
  subst e
  refine ⟨cap, cur, rfl, ⟨_, c2, by rw [e2], Nat.lt_of_lt_of_le h2 hs, h3, h4, fun j hj => ?_, ?_⟩, hg.trans h7⟩
  · exact (World.cell?_of_block hg).trans (h5 j hj)
  · exact (World.cell?_of_block hg).trans h6
theorem LentT.below {w w' : World} {v : Value} {l : List TierV} {g : Nat} (h : LentT w v l g) (hb : Below w.heap.size w w') : LentT w' v l g :=
  h.frame hb.size (hb.block g (by obtain ⟨_, _, _, _, h7⟩ := h; exact heap_lt h7))
theorem LentT.kstep {w w' : World} {v : Value} {l : List TierV} {g : Nat} (h : LentT w v l g) (hs : KStep w w') : LentT w' v l g :=
  h.frame hs.1 (by obtain ⟨_, _, _, _, h7⟩ := h; exact hs.keep h7 aside_tier)

theorem BB_r.over {w w' : World} {B p n : Nat} {cs cs' : Array Value} {vs us : Nat → Value} {ls : Nat → List TierV} (h : BB_r w B p cs n vs us ls) (hs : BStep_i w w') (hp : w'.heap[p]? = some (.cells cs' 58)) (hz : cs'.size = 16) (h8 : cs'[8]? = cs[8]?) (h9 : cs'[9]? = cs[9]?) : BB_r w' B p cs' n vs us ls := by
  have ho : ∀ {T : TypeId} {s m : Nat} {v : Value} {xs : List Value}, OwnL w B T s v m xs → T ≠ 58 → T ≠ 25 → OwnL w' B T s v m xs := fun ho h1 h2 => ho.frame fun g hg => by
    obtain ⟨_, hlt, cur, hc⟩ := ho.lt hg
    exact hs.2 g hlt (fun c f e => by rw [hc] at e; injection e with e; injection e with _ e; exact h1 e) (fun c f e => by rw [hc] at e; injection e with e; injection e with _ e; exact h2 e)
  obtain ⟨lv, e1, e2⟩ := h.bk.row
  obtain ⟨uv, u1, u2, u3, u4⟩ := h.was
  exact ⟨⟨hp, ⟨lv, h8.trans e1, ho e2 (by decide) (by decide)⟩, ⟨fun i hi => ho (h.bk.fam.own i hi) (by decide) (by decide), h.bk.fam.apart⟩, h.bk.few, h.bk.short, h.bk.ok, Nat.le_trans h.bk.base hs.1⟩, hz, uv, h9.trans u1, ho u2 (by decide) (by decide), fun i hi => ho (u3 i hi) (by decide) (by decide), fun lv g e => u4 lv g (h8.symm.trans e)⟩
theorem BB_i.over {w w' : World} {B p n : Nat} {cs cs' : Array Value} {vs us : Nat → Value} {ls : Nat → List Int} (h : BB_i w B p cs n vs us ls) (hs : BStep_r w w') (hp : w'.heap[p]? = some (.cells cs' 58)) (hz : cs'.size = 16) (h8 : cs'[2]? = cs[2]?) (h9 : cs'[3]? = cs[3]?) : BB_i w' B p cs' n vs us ls := by
  have ho : ∀ {T : TypeId} {s m : Nat} {v : Value} {xs : List Value}, OwnL w B T s v m xs → T ≠ 58 → T ≠ 22 → OwnL w' B T s v m xs := fun ho h1 h2 => ho.frame fun g hg => by
    obtain ⟨_, hlt, cur, hc⟩ := ho.lt hg
    exact hs.2 g hlt (fun c f e => by rw [hc] at e; injection e with e; injection e with _ e; exact h1 e) (fun c f e => by rw [hc] at e; injection e with e; injection e with _ e; exact h2 e)
  obtain ⟨lv, e1, e2⟩ := h.bk.row
  obtain ⟨uv, u1, u2, u3, u4⟩ := h.was
  exact ⟨⟨hp, ⟨lv, h8.trans e1, ho e2 (by decide) (by decide)⟩, ⟨fun i hi => ho (h.bk.fam.own i hi) (by decide) (by decide), h.bk.fam.apart⟩, h.bk.few, h.bk.short, h.bk.ok, Nat.le_trans h.bk.base hs.1⟩, hz, uv, h9.trans u1, ho u2 (by decide) (by decide), fun i hi => ho (u3 i hi) (by decide) (by decide), fun lv g e => u4 lv g (h8.symm.trans e)⟩

/-- The book of the law: ints and tiers in it, and what was there ahead of it is as it was. -/
structure Env (w0 w : World) (p : Nat) (cs : Array Value) (ni nr : Nat) (vi ui : Nat → Value) (li : Nat → List Int) (vr ur : Nat → Value) (lr : Nat → List TierV) : Prop where
  bi : BB_i w w0.heap.size p cs ni vi ui li
  br : BB_r w w0.heap.size p cs nr vr ur lr
  nil : ∀ j, (j < 16 ∧ j ≠ 2 ∧ j ≠ 3 ∧ j ≠ 8 ∧ j ≠ 9) → cs[j]? = some (.slice none 0 0)
  bel : Below w0.heap.size w0 w
  ge : w0.heap.size ≤ p
section
variable {w0 w w' : World} {p ni nr : Nat} {cs : Array Value} {vi ui vr ur : Nat → Value} {li : Nat → List Int} {lr : Nat → List TierV}
theorem Env.below (h : Env w0 w p cs ni nr vi ui li vr ur lr) (hb : Below w.heap.size w w') : Env w0 w' p cs ni nr vi ui li vr ur lr :=
  ⟨h.bi.below hb, h.br.below hb, h.nil, chain h.bel hb, h.ge⟩
theorem Env.rowi (h : Env w0 w p cs ni nr vi ui li vr ur lr) {i g : Nat} (hi : i < ni) (hg : rowOf (vi i) = some g) : g < w.heap.size := ((h.bi.bk.fam.own i hi).lt hg).2.1
theorem Env.rowr (h : Env w0 w p cs ni nr vi ui li vr ur lr) {i g : Nat} (hi : i < nr) (hg : rowOf (vr i) = some g) : g < w.heap.size := ((h.br.bk.fam.own i hi).lt hg).2.1
theorem env_i {v : Value} {l : List Int} (h : Env w0 w p cs ni nr vi ui li vr ur lr) (hn : ni < 250) (hv : OwnL w w0.heap.size 3 1 v l.length (l.map (Value.int .i64))) (hva : ∀ i g, i < ni → rowOf (vi i) = some g → rowOf v ≠ some g) (hl : l.length ≤ 100000) (hok : ∀ x ∈ l, -9223372036854775808 ≤ x ∧ x ≤ 9223372036854775807) :
    Calls Try.prog 22 #[.pointer (some ⟨p, 0, none⟩), v] w (fun x w' => x = .returned (.tuple #[]) ∧ ∃ cs' u, Env w0 w' p cs' (ni + 1) nr (snocF vi ni v) (snocF ui ni u) (snocF li ni l) vr ur lr ∧ KStep w w') := by
  refine (add_i h.bi hn hv hva h.ge hl hok).mono ?_
  rintro x w1 ⟨rfl, lv, uv, u, hb, _, hb1, hs⟩
  refine ⟨rfl, _, u, ⟨hb, h.br.over hs hb.bk.blk hb.size ?_ ?_, fun j hj => ?_, h.bel.trans hb1, h.ge⟩, KStep.of_i hs⟩
  · rw [Array.getElem?_setIfInBounds_ne (by omega), Array.getElem?_setIfInBounds_ne (by omega)]
  · rw [Array.getElem?_setIfInBounds_ne (by omega), Array.getElem?_setIfInBounds_ne (by omega)]
  · rw [Array.getElem?_setIfInBounds_ne (by omega), Array.getElem?_setIfInBounds_ne (by omega)]; exact h.nil j hj
theorem env_r {v : Value} {l : List TierV} (h : Env w0 w p cs ni nr vi ui li vr ur lr) (hn : nr < 250) (hv : OwnL w w0.heap.size 32 4 v l.length (flatT l)) (hva : ∀ i g, i < nr → rowOf (vr i) = some g → rowOf v ≠ some g) (hl : l.length ≤ 100000) (hok : ∀ x ∈ l, x.ok) :
    Calls Try.prog 23 #[.pointer (some ⟨p, 0, none⟩), v] w (fun x w' => x = .returned (.tuple #[]) ∧ ∃ cs' u, Env w0 w' p cs' ni (nr + 1) vi ui li (snocF vr nr v) (snocF ur nr u) (snocF lr nr l) ∧ KStep w w') := by
  refine (add_r h.br hn hv hva h.ge hl hok).mono ?_
  rintro x w1 ⟨rfl, lv, uv, u, hb, _, hb1, hs⟩
  refine ⟨rfl, _, u, ⟨h.bi.over hs hb.bk.blk hb.size ?_ ?_, hb, fun j hj => ?_, h.bel.trans hb1, h.ge⟩, KStep.of_r hs⟩
  · rw [Array.getElem?_setIfInBounds_ne (by omega), Array.getElem?_setIfInBounds_ne (by omega)]
  · rw [Array.getElem?_setIfInBounds_ne (by omega), Array.getElem?_setIfInBounds_ne (by omega)]
  · rw [Array.getElem?_setIfInBounds_ne (by omega), Array.getElem?_setIfInBounds_ne (by omega)]; exact h.nil j hj
theorem env_apart (h : Env w0 w p cs ni nr vi ui li vr ur lr) :
    Calls Try.prog 31 #[.pointer (some ⟨p, 0, none⟩)] w (fun x w' => x = .returned (.bool true) ∧ Below w0.heap.size w w') := apart_any h.bi h.br h.nil h.ge
end
def book0 : Array Value := #[.slice none 0 0, .slice none 0 0, .slice none 0 0, .slice none 0 0, .slice none 0 0, .slice none 0 0, .slice none 0 0, .slice none 0 0, .slice none 0 0, .slice none 0 0, .slice none 0 0, .slice none 0 0, .slice none 0 0, .slice none 0 0, .slice none 0 0, .slice none 0 0]
theorem book0_nil (j : Nat) (h : j < 16) : book0[j]? = some (.slice none 0 0) := by
  have : j = 0 ∨ j = 1 ∨ j = 2 ∨ j = 3 ∨ j = 4 ∨ j = 5 ∨ j = 6 ∨ j = 7 ∨ j = 8 ∨ j = 9 ∨ j = 10 ∨ j = 11 ∨ j = 12 ∨ j = 13 ∨ j = 14 ∨ j = 15 := by omega
  rcases this with rfl | rfl | rfl | rfl | rfl | rfl | rfl | rfl | rfl | rfl | rfl | rfl | rfl | rfl | rfl | rfl <;> rfl
theorem Env.new {w0 w : World} (hb : Below w0.heap.size w0 w) : Env w0 (w.alloc (.cells book0 58)) w.heap.size book0 0 0 (fun _ => undef) (fun _ => undef) (fun _ => []) (fun _ => undef) (fun _ => undef) (fun _ => []) := by
  have hB := hb.size
  refine ⟨⟨⟨heap_alloc_new _ _, ⟨_, book0_nil 2 (by decide), OwnL.nil _ _ _ _ _⟩, Fam.none _ _ _ _ _ _ _, by decide, fun i hi => absurd hi (Nat.not_lt_zero _), fun i hi => absurd hi (Nat.not_lt_zero _), by simp; omega⟩, rfl, _, book0_nil 3 (by decide), OwnL.nil _ _ _ _ _, fun i hi => absurd hi (Nat.not_lt_zero _), fun lv g e1 e2 => ?_⟩,
    ⟨⟨heap_alloc_new _ _, ⟨_, book0_nil 8 (by decide), OwnL.nil _ _ _ _ _⟩, Fam.none _ _ _ _ _ _ _, by decide, fun i hi => absurd hi (Nat.not_lt_zero _), fun i hi => absurd hi (Nat.not_lt_zero _), by simp; omega⟩, rfl, _, book0_nil 9 (by decide), OwnL.nil _ _ _ _ _, fun i hi => absurd hi (Nat.not_lt_zero _), fun lv g e1 e2 => ?_⟩,
    fun j h => book0_nil j h.1, bel_alloc hb hB, hB⟩
  · rw [book0_nil 2 (by decide)] at e1
    injection e1 with e1
    rw [← e1] at e2
    cases e2
  · rw [book0_nil 8 (by decide)] at e1
    injection e1 with e1
    rw [← e1] at e2
    cases e2

/-- The law's boxes: the policy, the sample, the document's Reach. -/
structure Boxes (w : World) (b s x : Nat) (n : ByteArray) (pa : Option Addr) (ln pc : Nat) (sn : ByteArray) (st sx now : Int) (fa : Option Addr) (fn fc : Nat) : Prop where
  pol : w.heap[b]? = some (.cells #[.string n, .slice pa ln pc] 24)
  sam : w.heap[s]? = some (.cells #[.string sn, .int .i64 st, .int .i64 sx] 41)
  ref : w.heap[x]? = some (.cells #[.int .i64 now, .string n, .slice pa ln pc, .slice fa fn fc] 60)
section
variable {w w' : World} {b s x ln pc fn fc : Nat} {n sn : ByteArray} {pa fa : Option Addr} {st sx now : Int}
theorem Boxes.below (h : Boxes w b s x n pa ln pc sn st sx now fa fn fc) (hb : Below w.heap.size w w') : Boxes w' b s x n pa ln pc sn st sx now fa fn fc := ⟨heap_step h.pol hb, heap_step h.sam hb, heap_step h.ref hb⟩
theorem Boxes.kstep (h : Boxes w b s x n pa ln pc sn st sx now fa fn fc) (hs : KStep w w') : Boxes w' b s x n pa ln pc sn st sx now fa fn fc :=
  ⟨hs.blk h.pol (by unfold Aside; decide), hs.blk h.sam (by unfold Aside; decide), hs.blk h.ref (by unfold Aside; decide)⟩
end
end Go.Proofs.Ytaenpcglaenlaaa
