/-
  Maps from ints to texts: made, looked up, written, cloned.
-/
import Derived.Test.YtjcggkfinhkcoaaGreatInv
import Derived.Maps.OwnSet
import Derived.Maps.StringElems
import Derived.Shelf.SlMaps.Clone
namespace Go.Proofs.YtjcggkfinhkcoaaGreat
open Go.RowKit
set_option linter.unusedVariables false
set_option linter.unusedSimpArgs false

theorem int_law : Maps.Keyed Tryz.prog 3 := Maps.int_keyed Tryz.underlying3
def kL (k : Int) : Lit := .int .i64 k
def inI (k : Int) : Prop := (Lit.int .i64 k).wf = true
theorem inI_of {k : Int} (h : -9223372036854775808 ≤ k ∧ k ≤ 9223372036854775807) : inI k := by
  simp [inI, Lit.wf, IntKind.bits, IntKind.signed, IntKind.min, IntKind.max]; omega
theorem inI_bd {k : Int} (h : inI k) : -9223372036854775808 ≤ k ∧ k ≤ 9223372036854775807 := wf64' h
/-- What stands at a key. -/
def reads (D : DataW Unit) (f : Int → Option ByteArray) : Prop :=
  ∀ k, inI k → (∀ s, f k = some s → Maps.has D (kL k) = true ∧ ∀ z, D.atKey (kL k) z = .lit (.string s.data.toList)) ∧ (f k = none → Maps.has D (kL k) = false)
/-- Block b is a map of at most n entries; at k stands f k. -/
def MapAt (w : World) (b n : Nat) (f : Int → Option ByteArray) : Prop :=
  ∃ D : DataW Unit, w.ownsMap Tryz.prog 3 (plainElem Tryz.prog 9) b n D ∧ reads D f
def updF (f : Int → Option ByteArray) (k : Int) (s : ByteArray) : Int → Option ByteArray := fun j => if j = k then some s else f j
theorem MapAt.step {w w' : World} {b n : Nat} {f : Int → Option ByteArray} (h : MapAt w b n f) (hb : w'.heap[b]? = w.heap[b]?) : MapAt w' b n f := by
  obtain ⟨D, ⟨es, clock, h1, h2⟩, h3⟩ := h
  exact ⟨D, ⟨es, clock, hb.trans h1, h2⟩, h3⟩
theorem MapAt.lt {w : World} {b n : Nat} {f : Int → Option ByteArray} (h : MapAt w b n f) : b < w.heap.size := by
  obtain ⟨D, h, _⟩ := h; exact h.lt
theorem MapAt.mono {w : World} {b n m : Nat} {f : Int → Option ByteArray} (h : MapAt w b n f) (hn : n ≤ m) : MapAt w b m f := by
  obtain ⟨D, h, h2⟩ := h; exact ⟨D, h.mono hn, h2⟩
theorem MapAt.map {w : World} {b n : Nat} {f : Int → Option ByteArray} (h : MapAt w b n f) : ∃ es clock, w.heap[b]? = some (.map es clock) := by
  obtain ⟨D, ⟨es, clock, h1, _⟩, _⟩ := h; exact ⟨es, clock, h1⟩
theorem map_new (w : World) : MapAt (w.alloc (.map #[] 0)) w.heap.size 0 (fun _ => none) :=
  ⟨_, World.ownsMap_made w _ _ _, fun k _ => ⟨fun s h => (by cases h), fun _ => rfl⟩⟩

theorem key_of {k : Int} (h : inI k) : keyOf Tryz.prog 3 (.int .i64 k) = some (kL k) := Maps.keyOf_int_mk Tryz.underlying3 h
theorem text_inj {s t : ByteArray} (h : s.data.toList = t.data.toList) : s = t := by
  cases s; cases t; congr; exact Array.toList_inj.1 h
def lookV : Option ByteArray → Value
  | some s => .tuple #[.string s, .bool true]
  | none => .tuple #[.string ByteArray.empty, .bool false]
set_option maxRecDepth 100000 in
theorem MapAt.look {w : World} {b n : Nat} {f : Int → Option ByteArray} (h : MapAt w b n f) {k : Int} (hk : inI k) :
    (Instr.lookup 61 (.map (some b)) (.int .i64 k) true).run Tryz.prog w = .ok (lookV (f k)) w := by
  obtain ⟨D, h, hr⟩ := h
  obtain ⟨r1, r2⟩ := hr k hk
  have hz : (zeroValue 9).run Tryz.prog w = .ok (.string ByteArray.empty) w := by kernel_rfl
  obtain ⟨v, ps, hrun, hv⟩ := h.look_ok int_law Tryz.underlying61 hz (plainElem_string Tryz.underlying9 (by decide)) (key_of hk)
  obtain ⟨s, rfl, hs, _⟩ := plainElem_string_inv Tryz.underlying9 hv
  rw [hrun]
  have hs' : D.atKey (kL k) (.lit (.string ByteArray.empty.data.toList)) = .lit (.string s.data.toList) := congrArg Prod.fst hs
  cases hf : f k with
  | none =>
    have h0 := r2 hf
    rw [h0]
    rw [Maps.atKey_of_not_has h0] at hs'
    have : ByteArray.empty = s := text_inj (by injection hs' with hs'; injection hs')
    rw [← this]; rfl
  | some t =>
    obtain ⟨h1, h2⟩ := r1 t hf
    rw [h1]
    rw [h2] at hs'
    have : t = s := text_inj (by injection hs' with hs'; injection hs')
    rw [← this]; rfl
theorem reads_put {D : DataW Unit} {f : Int → Option ByteArray} (h : reads D f) (hD : Maps.IsMap D) (k : Int) (s : ByteArray) : reads (D.put (kL k) (.lit (.string s.data.toList))) (updF f k s) := by
  intro j hj
  by_cases hjk : j = k
  · subst hjk
    refine ⟨fun t ht => ?_, fun h0 => ?_⟩
    · have : s = t := by unfold updF at ht; rw [if_pos rfl] at ht; exact Option.some.inj ht
      subst this
      exact ⟨Maps.has_put_same hD (by simp [WideAt.IsKeyLit, kL]) _, fun z => Maps.atKey_put_same hD (by simp [WideAt.IsKeyLit, kL]) _ z⟩
    · unfold updF at h0; rw [if_pos rfl] at h0; cases h0
  · have hne : kL j ≠ kL k := fun h => hjk (by unfold kL at h; injection h)
    have e : updF f k s j = f j := by unfold updF; rw [if_neg hjk]
    rw [e]
    obtain ⟨h1, h2⟩ := h j hj
    exact ⟨fun t ht => ⟨by rw [Maps.has_put_other hne]; exact (h1 t ht).1, fun z => by rw [Maps.atKey_put_other hne]; exact (h1 t ht).2 z⟩, fun h0 => by rw [Maps.has_put_other hne]; exact h2 h0⟩
set_option maxRecDepth 100000 in
/-- One store, at the operation. -/
theorem wpList_put {w : World} {ops : Array Oper} {rest : List Oper} {o : Oper} {a : Act} {Q : Exit → Act → World → Prop}
    (hg : o.guard = none) (m x v : Operand) (hop : o.op = Op.mapUpdate 61 m x v) (b n : Nat) (f : Int → Option ByteArray) (k : Int) (s : ByteArray)
    (hm : a.eval m = .map (some b)) (hx : a.eval x = .int .i64 k) (hv : a.eval v = .string s) (h : MapAt w b n f) (hn : n ≤ 1000000) (hk : inI k) (hs : s.size ≤ 9223372036854775807)
    (hK : ∀ w', Hid (MapAt w' b (n + 1) (updF f k s)) → Hid (w.grownBy w' (some b)) → wpList Tryz.prog ops Q rest (a.put o.dst undef) w') :
    wpList Tryz.prog ops Q (o :: rest) a w := by
  obtain ⟨D, h, hr⟩ := h
  refine wpList_mapUpdate_in w hg m x v 61 hop 3 9 int_law Tryz.underlying61 (plainElem Tryz.prog 9) b n D hm h (by unfold maxLen; omega) (.int .i64 k) (.string s) (kL k) hx hv (key_of hk)
    (.lit (.string s.data.toList)) [] (plainElem_string Tryz.underlying9 (by unfold maxLen; omega)) (fun w' h1 h2 => hK w' (Lib.hid ⟨_, h1, reads_put hr h.isMap k s⟩) (Lib.hid h2.grown))

set_option maxRecDepth 100000 in
set_option maxHeartbeats 2000000 in
theorem mclone_any (b n : Nat) (f : Int → Option ByteArray) (w : World) (h : MapAt w b n f) :
    Calls Tryz.prog 90 #[.map (some b)] w (fun e w' => ∃ c, e = .returned (.map (some c)) ∧ w.heap.size ≤ c ∧ MapAt w' c n f ∧ Below w.heap.size w w') := by
  obtain ⟨D, ⟨es, clock, hb, h2⟩, hr⟩ := h
  have hq := fun w => run_eql_map_nil_sl (P := Tryz.prog) w 61 _ _ (some b) Tryz.underlying61
  go_enter Tryz.func90, Tryz.ntmps90
  go_wp2_with fail
  rw [run_callFunc_extern Tryz.func107 (by kernel_rfl) (by kernel_rfl) (by kernel_rfl) (e := Extern.MapsClone.clone) (by kernel_rfl), run_maps_clone_sl w 61 hb]
  simp only [Result.andThen]
  rw [Oper.upon_value]
  go_wp2_with fail
  rw [run_typeAssert_map_sl _ 61 20 _ _ _ Tryz.underlying61]
  simp only [Result.andThen]
  rw [Oper.upon_value]
  go_wp2
  go_ret
  exact ⟨_, rfl, Nat.le_refl _, ⟨D, ⟨es, clock, heap_new_at rfl, h2⟩, hr⟩, bel_new _ _⟩
end Go.Proofs.YtjcggkfinhkcoaaGreat
