/-
  Lists of steps of a log: what one is, where it lies; the argument opened, its texts no longer than a process's memory.
-/
import Derived.Test.YtjcggkfinhkcoaaGreatOpens
import Derived.Test.YtjcggkfinhkcoaaGreatOpenT
import Derived.Test.YtjcggkfinhkcoaaGreatDev1
import Derived.SizedLaws
namespace Go.Proofs.YtjcggkfinhkcoaaGreat
open Go.RowKit Go.ChangeShapes Go.WideShapes Go.ChangeAt Go.Deep Go.Joins
set_option linter.unusedVariables false
set_option linter.unusedSimpArgs false

structure OpV where
  kind : Int
  n : Int
  texts : List ByteArray
  keep : List Int
def OpV.zero : OpV := ⟨0, 0, [], []⟩
structure OpAt (w : World) (b i : Nat) (X : OpV) (tv kv : Value) : Prop where
  lt : b < w.heap.size
  c0 : w.cell? ⟨b, i, none⟩ = some (.int .i64 X.kind)
  c1 : w.cell? ⟨b, i + 1, none⟩ = some (.int .i64 X.n)
  c2 : w.cell? ⟨b, i + 2, none⟩ = some tv
  c3 : w.cell? ⟨b, i + 3, none⟩ = some kv
  texts : TextsAt w tv X.texts
  keep : IntsAt w kv X.keep
  ok : I64 X.kind ∧ I64 X.n
def OpsAt (w : World) (v : Value) (l : List OpV) : Prop :=
  ∃ a c, v = .slice a l.length c ∧ (l.length ≤ c ∧ c ≤ 9223372036854775807) ∧ (l ≠ [] → ∃ b o, a = some ⟨b, o, none⟩ ∧ ∀ j, j < l.length → ∃ tv kv, OpAt w b (o + j * 4) (l.getD j OpV.zero) tv kv)
theorem OpAt.below {w w' : World} {b i : Nat} {X : OpV} {tv kv : Value} (h : OpAt w b i X tv kv) (hb : Below w.heap.size w w') : OpAt w' b i X tv kv :=
  ⟨Nat.lt_of_lt_of_le h.lt hb.size, cell_step h.c0 hb, cell_step h.c1 hb, cell_step h.c2 hb, cell_step h.c3 hb, h.texts.below hb, h.keep.below hb, h.ok⟩
theorem OpsAt.below {w w' : World} {v : Value} {l : List OpV} (h : OpsAt w v l) (hb : Below w.heap.size w w') : OpsAt w' v l := by
  obtain ⟨a, c, h1, h2, h3⟩ := h
  refine ⟨a, c, h1, h2, fun hn => ?_⟩
  obtain ⟨b, o, h4, h5⟩ := h3 hn
  exact ⟨b, o, h4, fun j hj => by obtain ⟨tv, kv, h⟩ := h5 j hj; exact ⟨tv, kv, h.below hb⟩⟩
theorem OpsAt.nth {w : World} {a : Option Addr} {n c : Nat} {l : List OpV} (h : OpsAt w (.slice a n c) l) {k : Nat} (hk : k < l.length) : ∃ b o tv kv, a = some ⟨b, o, none⟩ ∧ OpAt w b (o + k * 4) (l.getD k OpV.zero) tv kv := by
  obtain ⟨a', c', e, h2, h3⟩ := h
  injection e with e1 e2 e3
  obtain ⟨b, o, h4, h5⟩ := h3 (by intro h; simp [h] at hk)
  obtain ⟨tv, kv, h6⟩ := h5 k hk
  exact ⟨b, o, tv, kv, e1.trans h4, h6⟩

section
variable {H : Type} {enc : TypeId × Value → H} {W : World} {v : Value} {d : DataW H} {p : List MemPlace} {r : Reach} {b0 : Nat}
theorem weights_all {P : Program} {e : TypeId} {d : DataW H} {n : Nat} : ∀ {l : List (DataW H)}, d ∈ l → n ∈ d.weights P e → n ∈ DataW.weightsAll P e l
  | x :: l, hd, hn => by
    simp only [DataW.weightsAll, List.mem_append]
    rcases List.mem_cons.1 hd with rfl | hd
    · exact .inl hn
    · exact .inr (weights_all hd hn)
theorem weights_elem {P : Program} {t e : TypeId} {d : DataW H} {n : Nat} {elems spare : List (DataW H)} (ht : P.underlying t = some (.slice e)) (hd : d ∈ elems) (hn : n ∈ d.weights P e) : n ∈ (DataW.slice elems spare).weights P t := by
  simp only [DataW.weights, ht, List.mem_cons, List.mem_append]
  exact .inr (.inl (weights_all hd hn))
theorem open_slice_parts {P : Program} {w : World} {base : Nat} {spare : Nat → Bool} {held : Bool} {t e : TypeId} {fs : Array Field} {fuel : Nat} {cs : List Value} {x : DataW H × List MemPlace} (ht : P.underlying t = some (.slice e)) (he : P.underlying e = some (.struct fs))
    (hone : oneCellFields P fs = true) (hC : P.cellsOf e = fs.size) (h : DataW.trod enc P w base spare held fuel t cs = some x) :
    (cs = [.slice none 0 0]) ∨
    ∃ (a : Addr) (len cap : Nat), cs = [.slice (some a) len cap] ∧ len ≤ cap ∧ cap ≤ maxLen ∧
      ∀ i, i < len → ∃ (n : Nat), ∀ (j : Nat) (f : Field), fs[j]? = some f → ∃ (v : Value) (y : DataW H × List MemPlace), w.cell? (a.add (i * fs.size + j)) = some v ∧ DataW.trod enc P w base spare held n f.type [v] = some y ∧ ∀ m ∈ y.1.weights P f.type, m ∈ x.1.weights P t := by
  rcases open_slice ht h with h0 | ⟨a, len, cap, m, n, D, Pl, hcs, hb, hl, hm, hmm, hx, hi⟩
  · exact .inl h0.1
  · refine .inr ⟨a, len, cap, hcs, hl, hm, fun i hil => ?_⟩
    have him : i < m := by rw [hmm]; split <;> omega
    obtain ⟨cs', hc, ht'⟩ := hi i him
    rw [hC] at hc
    obtain ⟨ys, n', hn', hy, hlen, hyl, hf⟩ := DataW.trod_struct he ht'
    obtain ⟨_, hcl, hat⟩ := World.cells?_some hc
    have hDi : D i = .agg (ys.map (·.1)) := by injection hy
    refine ⟨n', fun j f hj => ?_⟩
    obtain ⟨ho, hk⟩ := hone_of hone j f hj
    have hjl : j < fs.size := (Array.getElem?_eq_some_iff.1 hj).1
    have hcell := hat j hjl
    have hv : cs'[j]? = some (cs'[j]'(by omega)) := List.getElem?_eq_getElem (by omega)
    have h1 := hf j f hj
    rw [ho, hk] at h1
    have hone' : (cs'.drop j).take 1 = [cs'[j]'(by omega)] := by
      rw [List.drop_eq_getElem_cons (by omega)]
      rfl
    rw [hone'] at h1
    have hys : ys[j]? = some (ys[j]'(by omega)) := List.getElem?_eq_getElem (by omega)
    refine ⟨_, _, ?_, h1.trans hys, fun q hq => ?_⟩
    · rw [← Go.Deep.add_add, hcell, hv]
    · rw [hx]
      refine weights_elem ht (List.mem_map.2 ⟨i, List.mem_range.2 hil, rfl⟩) ?_
      rw [hDi]
      simp only [DataW.weights, he]
      refine DataW.weights_mem_each (j := j) (t := f.type) (d := (ys[j]'(by omega)).1) ?_ ?_ q hq
      · rw [List.getElem?_map, Array.getElem?_toList, hj]; rfl
      · rw [List.getElem?_map, hys]; rfl
set_option maxRecDepth 100000 in
theorem texts_trod2 {n : Nat} {a : Option Addr} {len cap : Nat} {y : DataW H × List MemPlace} (hf : DataW.trod enc Tryz.prog W 0 (fun _ => true) true n 32 [.slice a len cap] = some y) : ∃ l, TextsAt W (.slice a len cap) l ∧ ∀ s ∈ l, s.size ∈ y.1.weights Tryz.prog 32 := by
  rcases open_strs Tryz.underlying32 Tryz.underlying9 (by kernel_rfl) hf with ⟨hcs, _⟩ | ⟨x, l, c, m, Sx, hcs, _, hl, hm, hmm, hy, hx⟩
  · simp at hcs
    obtain ⟨rfl, rfl, rfl⟩ := hcs
    exact ⟨[], texts_nil W, fun s hs => nomatch hs⟩
  · simp at hcs
    obtain ⟨rfl, rfl, rfl⟩ := hcs
    have hmc : m = cap := by simpa using hmm
    subst hmc
    have hm' : m ≤ 9223372036854775807 := by unfold maxLen at hm; omega
    have hlen : ((List.range len).map Sx).length = len := by simp
    refine ⟨(List.range len).map Sx, ⟨some x, m, by rw [hlen], fun s hs => ?_, ⟨by omega, hm'⟩, fun hne => ?_⟩, fun s hs => ?_⟩
    · simp only [List.mem_map, List.mem_range] at hs
      obtain ⟨i, hi, rfl⟩ := hs
      have := (hx i (by omega)).2
      unfold maxLen at this; omega
    · obtain ⟨b, o, s⟩ := x
      have h0 := (hx 0 (by cases len with | zero => simp at hne | succ n => omega)).1
      have hs : s = none := by simpa [Addr.add] using World.cell?_spot h0
      subst hs
      refine ⟨b, o, rfl, World.block_lt_of_cell? W _ h0, fun j hj => ?_⟩
      have := (hx j (by omega)).1
      rw [add_at] at this
      rw [this]
      simp [show j < len by omega]
    · simp only [List.mem_map, List.mem_range] at hs
      obtain ⟨i, hi, rfl⟩ := hs
      rw [hy]
      refine weights_elem Tryz.underlying32 (List.mem_map.2 ⟨i, List.mem_range.2 hi, rfl⟩) ?_
      simp only [DataW.weights, List.mem_singleton]
      rw [Array.length_toList]; rfl
set_option maxRecDepth 100000 in
theorem ints_trod {n : Nat} {v : Value} {y : DataW H × List MemPlace} (hf : DataW.trod enc Tryz.prog W 0 (fun _ => true) true n 44 [v] = some y) : ∃ l, IntsAt W v l := by
  rcases open_ints Tryz.underlying44 Tryz.underlying3 (by kernel_rfl) hf with ⟨hcs, _⟩ | ⟨x, l, c, zs, hcs, _, hl, hm, hz, _, hcell, hwz⟩
  · simp at hcs
    subst hcs
    exact ⟨[], ints_nil W⟩
  · simp at hcs
    subst hcs
    have hz' : zs.length = c := by simpa using hz
    have hm' : c ≤ 9223372036854775807 := by unfold maxLen at hm; omega
    have hlen : (zs.take l).length = l := by simp; omega
    refine ⟨zs.take l, some x, c, by rw [hlen], fun y hy => wf64 (hwz y (List.mem_of_mem_take hy)), ⟨by omega, by omega⟩, fun hne => ?_⟩
    obtain ⟨b, o, s⟩ := x
    have h0 := hcell 0 (by rw [hz']; cases l with | zero => simp at hne | succ n => omega)
    have hs : s = none := by simpa [Addr.add] using World.cell?_spot h0
    subst hs
    refine ⟨b, o, rfl, World.block_lt_of_cell? W _ h0, fun j hj => ?_⟩
    have := hcell j (by omega)
    rw [add_at] at this
    rw [this]
    simp [List.getElem?_take, show j < l by omega]
theorem strs_form {n : Nat} {v : Value} {y : DataW H × List MemPlace} (hf : DataW.trod enc Tryz.prog W 0 (fun _ => true) true n 32 [v] = some y) : ∃ a len cap, v = .slice a len cap := by
  rcases open_strs Tryz.underlying32 Tryz.underlying9 (by kernel_rfl) hf with ⟨hcs, _⟩ | ⟨x, l, c, m, Sx, hcs, _⟩
  · simp at hcs; exact ⟨_, _, _, hcs⟩
  · simp at hcs; exact ⟨_, _, _, hcs⟩
set_option maxRecDepth 100000 in
theorem ops_open (hv : Value.okWide Tryz.prog W r b0 23 v) (h : DataW.Trod enc Tryz.prog W 0 (fun _ => true) true 23 v d p) : ∃ l, OpsAt W v l ∧ ∀ X ∈ l, ∀ s ∈ X.texts, s.size ∈ d.weights Tryz.prog 23 := by
  obtain ⟨a, len, cap, rfl⟩ := okWide_slice Tryz.underlying23 hv
  obtain ⟨fuel, hf⟩ := h
  rcases open_slice_parts Tryz.underlying23 Tryz.underlying46 (by kernel_rfl) (by kernel_rfl) hf with hcs | ⟨x, l, c, hcs, hl, hm, hi⟩
  · simp [Value.cells] at hcs
    obtain ⟨rfl, rfl, rfl⟩ := hcs
    exact ⟨[], ⟨none, 0, rfl, by simp, fun h => absurd rfl h⟩, fun s hs => nomatch hs⟩
  · simp [Value.cells] at hcs
    obtain ⟨rfl, rfl, rfl⟩ := hcs
    have hm' : cap ≤ 9223372036854775807 := by unfold maxLen at hm; omega
    have each : ∀ i, i < len → ∃ X : OpV, ∃ tv kv, (I64 X.kind ∧ I64 X.n) ∧ W.cell? (x.add (i * 4)) = some (.int .i64 X.kind) ∧ W.cell? (x.add (i * 4 + 1)) = some (.int .i64 X.n) ∧ W.cell? (x.add (i * 4 + 2)) = some tv ∧ W.cell? (x.add (i * 4 + 3)) = some kv ∧ TextsAt W tv X.texts ∧ IntsAt W kv X.keep ∧ ∀ s ∈ X.texts, s.size ∈ d.weights Tryz.prog 23 := by
      intro i him
      obtain ⟨n, hf⟩ := hi i (by omega)
      obtain ⟨u0, z0, c0, t0, _⟩ := hf 0 _ rfl
      obtain ⟨u1, z1, c1, t1, _⟩ := hf 1 _ rfl
      obtain ⟨u2, z2, c2, t2, q2⟩ := hf 2 _ rfl
      obtain ⟨u3, z3, c3, t3, _⟩ := hf 3 _ rfl
      obtain ⟨x0, e0, _, g0⟩ := DataW.trod_int Tryz.underlying3 t0
      obtain ⟨x1, e1, _, g1⟩ := DataW.trod_int Tryz.underlying3 t1
      obtain ⟨a2, l2, m2, rfl⟩ := strs_form t2
      obtain ⟨ts, hts, hw2⟩ := texts_trod2 t2
      obtain ⟨ks, hks⟩ := ints_trod t3
      simp only [List.cons.injEq, and_true] at e0 e1
      subst e0 e1
      exact ⟨⟨x0, x1, ts, ks⟩, _, u3, ⟨wf64 g0, wf64 g1⟩, c0, c1, c2, c3, hts, hks, fun s hs => q2 _ (hw2 s hs)⟩
    obtain ⟨L, hL, hP⟩ := list_of OpV.zero len each
    subst hL
    refine ⟨L, ⟨some x, cap, rfl, by omega, fun hne => ?_⟩, ?_⟩
    · obtain ⟨b, o, s⟩ := x
      obtain ⟨_, _, _, h0, _⟩ := hP 0 (List.length_pos_iff.2 hne)
      rw [Nat.zero_mul] at h0
      have hs : s = none := by simpa [Addr.add] using World.cell?_spot h0
      subst hs
      refine ⟨b, o, rfl, fun j hj => ?_⟩
      obtain ⟨tv, kv, h1, h2, h3, h4, h5, h6, h7, _⟩ := hP j hj
      have hlt := World.block_lt_of_cell? W _ h2
      simp only [add_at] at h2 h3 h4 h5
      exact ⟨tv, kv, World.block_lt_of_cell? W _ h0, h2, h3, h4, h5, h6, h7, h1⟩
    · refine list_of_mem (d := OpV.zero) (fun i hi => ?_)
      obtain ⟨_, _, _, _, _, _, _, _, _, h⟩ := hP i hi
      exact h
end
end Go.Proofs.YtjcggkfinhkcoaaGreat
