/-
  Lists of steps of a disk: what one is, where it lies; the argument opened.
-/
import Derived.Test.YtppfgjjebfgcaaaOpens
import Derived.Test.YtppfgjjebfgcaaaDev1
namespace Go.Proofs.Ytppfgjjebfgcaaa
open Go.RowKit Go.ChangeShapes Go.WideShapes Go.ChangeAt Go.Deep Go.Joins
set_option linter.unusedVariables false
set_option linter.unusedSimpArgs false

structure OpV where
  kind : Int
  at_ : Int
  n : Int
  data : ByteArray
  keep : List Int
def OpV.zero : OpV := ⟨0, 0, 0, ByteArray.empty, []⟩
structure OpAt (w : World) (b i : Nat) (X : OpV) (kv : Value) : Prop where
  c0 : w.cell? ⟨b, i, none⟩ = some (.int .i64 X.kind)
  c1 : w.cell? ⟨b, i + 1, none⟩ = some (.int .i64 X.at_)
  c2 : w.cell? ⟨b, i + 2, none⟩ = some (.int .i64 X.n)
  c3 : w.cell? ⟨b, i + 3, none⟩ = some (.string X.data)
  c4 : w.cell? ⟨b, i + 4, none⟩ = some kv
  keep : IntsAt w kv X.keep
  ok : I64 X.kind ∧ I64 X.at_ ∧ I64 X.n ∧ X.data.size ≤ 9223372036854775807
def OpsAt (w : World) (v : Value) (l : List OpV) : Prop :=
  ∃ a c, v = .slice a l.length c ∧ (l.length ≤ c ∧ c ≤ 9223372036854775807) ∧ (l ≠ [] → ∃ b o, a = some ⟨b, o, none⟩ ∧ ∀ j, j < l.length → ∃ kv, OpAt w b (o + j * 5) (l.getD j OpV.zero) kv)
theorem OpAt.below {w w' : World} {b i : Nat} {X : OpV} {kv : Value} (h : OpAt w b i X kv) (hb : Below w.heap.size w w') : OpAt w' b i X kv :=
  ⟨cell_step h.c0 hb, cell_step h.c1 hb, cell_step h.c2 hb, cell_step h.c3 hb, cell_step h.c4 hb, h.keep.below hb, h.ok⟩
theorem OpsAt.below {w w' : World} {v : Value} {l : List OpV} (h : OpsAt w v l) (hb : Below w.heap.size w w') : OpsAt w' v l := by
  obtain ⟨a, c, h1, h2, h3⟩ := h
  refine ⟨a, c, h1, h2, fun hn => ?_⟩
  obtain ⟨b, o, h4, h5⟩ := h3 hn
  exact ⟨b, o, h4, fun j hj => by obtain ⟨kv, h⟩ := h5 j hj; exact ⟨kv, h.below hb⟩⟩
theorem OpsAt.nth {w : World} {a : Option Addr} {n c : Nat} {l : List OpV} (h : OpsAt w (.slice a n c) l) {k : Nat} (hk : k < l.length) : ∃ b o kv, a = some ⟨b, o, none⟩ ∧ OpAt w b (o + k * 5) (l.getD k OpV.zero) kv := by
  obtain ⟨a', c', e, h2, h3⟩ := h
  injection e with e1 e2 e3
  obtain ⟨b, o, h4, h5⟩ := h3 (by intro h; simp [h] at hk)
  obtain ⟨kv, h6⟩ := h5 k hk
  exact ⟨b, o, kv, e1.trans h4, h6⟩

section
variable {H : Type} {enc : TypeId × Value → H} {W : World} {v : Value} {d : DataW H} {p : List MemPlace} {r : Reach} {b0 : Nat}
set_option maxRecDepth 100000 in
theorem ints_trod {n : Nat} {v : Value} {y : DataW H × List MemPlace} (hf : DataW.trod enc Try.prog W 0 (fun _ => true) true n 22 [v] = some y) : ∃ l, IntsAt W v l := by
  rcases open_ints Try.underlying22 Try.underlying3 (by kernel_rfl) hf with ⟨hcs, _⟩ | ⟨x, l, c, zs, hcs, _, hl, hm, hz, _, hcell, hwz⟩
  · simp at hcs
    subst hcs
    exact ⟨[], ints_nil W⟩
  · simp at hcs
    subst hcs
    have hz' : zs.length = c := by simpa using hz
    have hm' : c ≤ 9223372036854775807 := by unfold maxLen at hm; omega
    have hlen : (zs.take l).length = l := by simp; omega
    refine ⟨zs.take l, some x, c, by rw [hlen], fun y hy => wf64 (hwz y (List.mem_of_mem_take hy)), ⟨by omega, by omega⟩, fun hne => ?_⟩
    obtain ⟨b, o, s⟩ := x
    have h0 := hcell 0 (by rw [hz']; cases l with | zero => simp at hne | succ n => omega)
    have hs : s = none := by simpa [Addr.add] using World.cell?_spot h0
    subst hs
    refine ⟨b, o, rfl, World.block_lt_of_cell? W _ h0, fun j hj => ?_⟩
    have := hcell j (by omega)
    rw [add_at] at this
    rw [this]
    simp [List.getElem?_take, show j < l by omega]
set_option maxRecDepth 100000 in
theorem ops_open (hv : Value.okWide Try.prog W r b0 46 v) (h : DataW.Trod enc Try.prog W 0 (fun _ => true) true 46 v d p) : ∃ l, OpsAt W v l := by
  obtain ⟨a, len, cap, rfl⟩ := okWide_slice Try.underlying46 hv
  obtain ⟨fuel, hf⟩ := h
  rcases open_slice_fields Try.underlying46 Try.underlying65 (by kernel_rfl) (by kernel_rfl) hf with hcs | ⟨x, l, c, m, hcs, hl, hm, hmm, hi⟩
  · simp [Value.cells] at hcs
    obtain ⟨rfl, rfl, rfl⟩ := hcs
    exact ⟨[], none, 0, rfl, by simp, fun h => absurd rfl h⟩
  · simp [Value.cells] at hcs
    obtain ⟨rfl, rfl, rfl⟩ := hcs
    have hm' : cap ≤ 9223372036854775807 := by unfold maxLen at hm; omega
    have hmc : m = cap := by simpa using hmm
    subst hmc
    have each : ∀ i, i < len → ∃ X : OpV, ∃ kv, (I64 X.kind ∧ I64 X.at_ ∧ I64 X.n ∧ X.data.size ≤ 9223372036854775807) ∧ W.cell? (x.add (i * 5)) = some (.int .i64 X.kind) ∧ W.cell? (x.add (i * 5 + 1)) = some (.int .i64 X.at_) ∧ W.cell? (x.add (i * 5 + 2)) = some (.int .i64 X.n) ∧ W.cell? (x.add (i * 5 + 3)) = some (.string X.data) ∧ W.cell? (x.add (i * 5 + 4)) = some kv ∧ IntsAt W kv X.keep := by
      intro i him
      obtain ⟨n, hf⟩ := hi i (by omega)
      obtain ⟨u0, z0, c0, t0⟩ := hf 0 _ rfl
      obtain ⟨u1, z1, c1, t1⟩ := hf 1 _ rfl
      obtain ⟨u2, z2, c2, t2⟩ := hf 2 _ rfl
      obtain ⟨u3, z3, c3, t3⟩ := hf 3 _ rfl
      obtain ⟨u4, z4, c4, t4⟩ := hf 4 _ rfl
      obtain ⟨x0, e0, _, g0⟩ := DataW.trod_int Try.underlying3 t0
      obtain ⟨x1, e1, _, g1⟩ := DataW.trod_int Try.underlying3 t1
      obtain ⟨x2, e2, _, g2⟩ := DataW.trod_int Try.underlying3 t2
      obtain ⟨x3, e3, _, g3⟩ := DataW.trod_string Try.underlying9 t3
      obtain ⟨ks, hks⟩ := ints_trod t4
      simp only [List.cons.injEq, and_true] at e0 e1 e2 e3
      subst e0 e1 e2 e3
      exact ⟨⟨x0, x1, x2, x3, ks⟩, u4, ⟨wf64 g0, wf64 g1, wf64 g2, by unfold maxLen at g3; dsimp only; omega⟩, c0, c1, c2, c3, c4, hks⟩
    obtain ⟨L, hL, hP⟩ := list_of OpV.zero len each
    subst hL
    refine ⟨L, some x, m, rfl, by omega, fun hne => ?_⟩
    obtain ⟨b, o, s⟩ := x
    obtain ⟨_, _, h0, _⟩ := hP 0 (List.length_pos_iff.2 hne)
    rw [Nat.zero_mul] at h0
    have hs : s = none := by simpa [Addr.add] using World.cell?_spot h0
    subst hs
    refine ⟨b, o, rfl, fun j hj => ?_⟩
    obtain ⟨kv, h1, h2, h3, h4, h5, h6, h7⟩ := hP j hj
    simp only [add_at] at h2 h3 h4 h5 h6
    exact ⟨kv, h2, h3, h4, h5, h6, h7, h1⟩
end
end Go.Proofs.Ytppfgjjebfgcaaa
