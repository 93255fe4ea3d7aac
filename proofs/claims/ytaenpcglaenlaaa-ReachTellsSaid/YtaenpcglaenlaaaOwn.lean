/-
  Lists of the call's own, some of them beside each other: where an append lays the new list, and what it leaves of the old one.
-/
import Derived.Test.YtaenpcglaenlaaaKit
import Derived.Maps.AppendAt
namespace Go.Proofs.Ytaenpcglaenlaaa
open Go.RowKit
set_option linter.unusedVariables false
set_option linter.unusedSimpArgs false

/-- The block that a list has for itself: a list without any room has none. -/
def rowOf : Value → Option Nat
  | .slice (some a) _ (_ + 1) => some a.block
  | _ => none
/-- A list of the call's own: empty and without room, or in a block of its own. -/
def OwnL (w : World) (B : Nat) (e : TypeId) (k : Nat) (v : Value) (n : Nat) (xs : List Value) : Prop :=
  xs.length = n * k ∧ ((∃ a, v = .slice a 0 0 ∧ n = 0) ∨
    ∃ g cap cur, v = .slice (some ⟨g, 0, none⟩) n cap ∧ 0 < cap ∧ B ≤ g ∧ w.heap[g]? = some (.cells cur e (0, 0)) ∧ n ≤ cap ∧ cap ≤ maxLen ∧ cur.size = cap * k ∧ cur.toList.take (n * k) = xs)
section
variable {w w' : World} {B k n : Nat} {e : TypeId} {v : Value} {xs : List Value}
theorem rowOf_pos {g n cap : Nat} (h : 0 < cap) : rowOf (.slice (some ⟨g, 0, none⟩) n cap) = some g := by
  cases cap with
  | zero => omega
  | succ c => rfl
theorem OwnL.nil (w : World) (B : Nat) (e : TypeId) (k : Nat) (a : Option Addr) : OwnL w B e k (.slice a 0 0) 0 [] := ⟨by simp, .inl ⟨a, rfl, rfl⟩⟩
theorem OwnL.of_row (h : w.ownsRow B e k v n xs) : OwnL w B e k v n xs := by
  refine ⟨h.1, ?_⟩
  rcases h.2 with ⟨rfl, rfl⟩ | ⟨g, cap, cur, rfl, h1, h2, h3, h4, h5, h6⟩
  · exact .inl ⟨none, rfl, rfl⟩
  · cases cap with
    | zero => obtain rfl : n = 0 := by omega
              exact .inl ⟨_, rfl, rfl⟩
    | succ c => exact .inr ⟨g, c + 1, cur, rfl, by omega, h1, h2, h3, h4, h5, h6⟩
theorem OwnL.form (h : OwnL w B e k v n xs) : ∃ a c, v = .slice a n c := by
  rcases h.2 with ⟨a, rfl, rfl⟩ | ⟨g, cap, cur, rfl, _⟩
  · exact ⟨_, _, rfl⟩
  · exact ⟨_, _, rfl⟩
theorem OwnL.cap {a : Option Addr} {c m : Nat} (h : OwnL w B e k (.slice a n c) m xs) : m = n ∧ n ≤ c ∧ c ≤ 9223372036854775807 := by
  rcases h.2 with ⟨a, h1, rfl⟩ | ⟨g, cap, cur, h1, _, _, _, h2, h3, _⟩
  · injection h1 with _ h1 h2; omega
  · injection h1 with _ h1 h4; unfold maxLen at h3; omega
theorem OwnL.lt (h : OwnL w B e k v n xs) {g : Nat} (hg : rowOf v = some g) : B ≤ g ∧ g < w.heap.size ∧ ∃ cur, w.heap[g]? = some (.cells cur e (0, 0)) := by
  rcases h.2 with ⟨a, rfl, rfl⟩ | ⟨g', cap, cur, rfl, h0, h1, h2, _⟩
  · cases a <;> cases hg
  · rw [rowOf_pos h0] at hg
    injection hg with hg
    subst hg
    exact ⟨h1, heap_lt h2, cur, h2⟩
theorem OwnL.frame (h : OwnL w B e k v n xs) (hh : ∀ g, rowOf v = some g → w'.heap[g]? = w.heap[g]?) : OwnL w' B e k v n xs := by
  refine ⟨h.1, ?_⟩
  rcases h.2 with ⟨a, rfl, rfl⟩ | ⟨g, cap, cur, rfl, h0, h1, h2, h3⟩
  · exact .inl ⟨a, rfl, rfl⟩
  · exact .inr ⟨g, cap, cur, rfl, h0, h1, (hh g (rowOf_pos h0)).trans h2, h3⟩
theorem OwnL.below (h : OwnL w B e k v n xs) (hb : Below w.heap.size w w') : OwnL w' B e k v n xs := h.frame fun g hg => hb.block g (h.lt hg).2.1
theorem OwnL.mono {C : Nat} (h : OwnL w B e k v n xs) (hC : C ≤ B) : OwnL w C e k v n xs := by
  refine ⟨h.1, ?_⟩
  rcases h.2 with ⟨a, rfl, rfl⟩ | ⟨g, cap, cur, rfl, h0, h1, h2, h3⟩
  · exact .inl ⟨a, rfl, rfl⟩
  · exact .inr ⟨g, cap, cur, rfl, h0, by omega, h2, h3⟩
/-- The cells of a list that is not empty. -/
theorem OwnL.cells (h : OwnL w B e k v n xs) (hn : 0 < n) : ∃ g c, v = .slice (some ⟨g, 0, none⟩) n c ∧ 0 < c ∧ n ≤ c ∧ c ≤ 9223372036854775807 ∧ B ≤ g ∧ g < w.heap.size ∧ rowOf v = some g ∧ (∃ cur, w.heap[g]? = some (.cells cur e (0, 0))) ∧ ∀ j, j < n * k → w.cell? ⟨g, j, none⟩ = xs[j]? := by
  rcases h.2 with ⟨a, rfl, rfl⟩ | ⟨g, cap, cur, rfl, h0, h1, h2, h3, h4, h5, h6⟩
  · omega
  · refine ⟨g, cap, rfl, h0, h3, by unfold maxLen at h4; omega, h1, heap_lt h2, rowOf_pos h0, ⟨cur, h2⟩, fun j hj => ?_⟩
    rw [cell_of_row w g _ _ _ _ h2, ← h6, List.getElem?_take, if_pos hj]
    simp
/-- What a list's first elements are is seen by a shorter list in the same block. -/
theorem OwnL.front {l : Value} {n' n2 g cap : Nat} {ys zs : List Value} (hv : OwnL w B e k v n xs) (hl : OwnL w B e k l n' ys) (hn : n ≤ n') (hl' : OwnL w' B e k (.slice (some ⟨g, 0, none⟩) n2 cap) n2 (ys ++ zs)) (hle : ys.length ≤ n2 * k) (hcap : 0 < cap)
    (hcase : (l = .slice (some ⟨g, 0, none⟩) n' cap ∧ w.grownBy w' (some g)) ∨ (g = w.heap.size ∧ w.grownBy w' none)) : OwnL w' B e k v n xs := by
  rcases hcase with ⟨rfl, hg⟩ | ⟨rfl, hg⟩
  · by_cases hr : rowOf v = some g
    · refine ⟨hv.1, ?_⟩
      rcases hv.2 with ⟨a, rfl, rfl⟩ | ⟨g', cap', cur, rfl, h0, h1, h2, h3, h4, h5, h6⟩
      · cases a <;> cases hr
      · rw [rowOf_pos h0] at hr
        injection hr with hr
        subst hr
        rcases hl.2 with ⟨a, q1, q2⟩ | ⟨g2, cap2, cur2, q1, _, _, q2, q3, q4, q5, q6⟩
        · injection q1 with q1 q3 q4
          omega
        · injection q1 with q1 q7 q8
          injection q1 with q1; injection q1 with q1
          subst q1
          subst q8
          rw [h2] at q2
          injection q2 with q2; injection q2 with q2
          subst q2
          rcases hl'.2 with ⟨a', r1, r2⟩ | ⟨g3, cap3, cur3, r1, r0, r9, r2, r3, r4, r5, r6⟩
          · injection r1 with _ _ r1; omega
          · injection r1 with r1 _ r7
            injection r1 with r1; injection r1 with r1
            subst r1
            subst r7
            have hk : cap' * k = cap * k := by rw [← h5, q5]
            refine .inr ⟨_, cap', cur3, rfl, h0, h1, r2, h3, h4, by rw [r5, hk], ?_⟩
            have hnk : n * k ≤ n' * k := Nat.mul_le_mul_right _ hn
            have hx : xs = ys.take (n * k) := by rw [← h6, ← q6, List.take_take, Nat.min_eq_left hnk]
            have hyl := hl.1
            rw [hx]
            have e1 : cur3.toList.take (n * k) = (cur3.toList.take (n2 * k)).take (n * k) := by rw [List.take_take, Nat.min_eq_left (by omega)]
            rw [e1, r6, List.take_append_of_le_length (by omega)]
    · exact hv.frame fun j hj => hg.block j (hv.lt hj).2.1 (fun e => hr (by rw [hj, e]))
  · exact hv.frame fun j hj => hg.block j (hv.lt hj).2.1 (by simp)
end

/-- An append onto a list of the call's own: in the same block, or in a new one. -/
theorem run_append_two {P : Program} (w : World) (t ty : TypeId) (B : Nat) (e : TypeId) (i : TypeInfo) (z : Value) (size bytes : Nat) (ht : P.underlying t = some (.slice e)) (hi : P.info? e = some i) (hz : i.zero = some z)
    (hsize : i.size = size) (hby : i.bytes = bytes) (hzs : z.cells.size = size) (hsz : 0 < size)
    (v : Value) (n : Nat) (xs : List Value) (hown : OwnL w B e size v n xs)
    (ad : Addr) (m c : Nat) (news : List Value) (hl : news.length = m * size) (hnews : ∀ j u, news[j]? = some u → w.cell? (ad.add j) = some u) (h1 : ∀ u ∈ news, u.oneCell' = true)
    (hm : 0 < m) (h63 : n + m ≤ maxLen) (hbytes : (n + m) * bytes ≤ 140737488355328) (hbase : B ≤ w.heap.size) :
    ∃ g cap w', (Builtin.append_ #[t, t] ty #[v, .slice (some ad) m c]).run P w = .ok (.slice (some ⟨g, 0, none⟩) (n + m) cap) w' ∧ OwnL w' B e size (.slice (some ⟨g, 0, none⟩) (n + m) cap) (n + m) (xs ++ news) ∧
      ((v = .slice (some ⟨g, 0, none⟩) n cap ∧ w.grownBy w' (some g)) ∨ (g = w.heap.size ∧ w.grownBy w' none)) ∧ 0 < cap := by
  subst hsize
  subst hby
  have hsmall : n + m ≤ 9223372036854775807 := by simp only [maxLen] at h63; omega
  have hlen : (xs ++ news).length = (n + m) * i.size := by rw [List.length_append, hown.1, hl, Nat.add_mul]
  have grown : ∀ (old : Nat), old < n + m →
      OwnL (w.drew.alloc (.cells (xs.toArray ++ news.toArray ++ Builtin.zeroCells z.cells (grownCap w (n + m) old e - (n + m))) e)) B e i.size (.slice (some ⟨w.heap.size, 0, none⟩) (n + m) (grownCap w (n + m) old e)) (n + m) (xs ++ news) ∧
      w.grownBy (w.drew.alloc (.cells (xs.toArray ++ news.toArray ++ Builtin.zeroCells z.cells (grownCap w (n + m) old e - (n + m))) e)) none ∧ 0 < grownCap w (n + m) old e := by
    intro old ho
    have hge := grownCap_ge w (n + m) old e
    have hcm : grownCap w (n + m) old e ≤ maxLen := grownCap_le_maxLen w (n + m) old e h63
    refine ⟨⟨hlen, .inr ⟨w.heap.size, _, _, rfl, by omega, hbase, heap_alloc_new w.drew _, hge, hcm, ?_, ?_⟩⟩, ⟨rfl, rfl, rfl, by simp, fun k hk _ => heap_alloc_old w.drew _ hk⟩, by omega⟩
    · simp only [Array.size_append, List.size_toArray, size_zeroCells, hzs, hown.1, hl, ← Nat.add_mul]
      congr 1
      omega
    · simp only [Array.toList_append, List.append_assoc]
      rw [← List.append_assoc, ← hlen]
      exact List.take_left
  rcases hown.2 with ⟨a, rfl, rfl⟩ | ⟨g, cap, cur, rfl, hc0, hbg, hg, hnc, hcm, hcs, htake⟩
  · have hx : xs = [] := List.eq_nil_of_length_eq_zero (by simpa using hown.1)
    subst hx
    have hgr := grown 0 (by omega)
    simp only [Nat.zero_add, List.nil_append, Array.empty_append] at hgr ⊢
    cases a with
    | none =>
      have hr := run_append_nil (P := P) w t ty e i z ht hi hz ad m c news hl hnews (by omega) (by omega) (by have hb := hbytes; simp only [Nat.zero_add] at hb; omega)
      exact ⟨_, _, _, hr, hgr.1, .inr ⟨rfl, hgr.2.1⟩, hgr.2.2⟩
    | some a =>
      have hr := run_append_grow (P := P) w t ty e i z ht hi hz a 0 0 [] (by simp) (by intro j u hu; simp at hu) ad m c news hl hnews (by omega) (by omega) (growslice_fits (by omega) (by simpa using hbytes))
      simp only [Nat.zero_add, Array.empty_append] at hr
      exact ⟨_, _, _, hr, hgr.1, .inr ⟨rfl, hgr.2.1⟩, hgr.2.2⟩
  · by_cases hroom : n + m ≤ cap
    · have hfit : n * i.size + news.length ≤ cur.size := by rw [hl, hcs, ← Nat.add_mul]; exact Nat.mul_le_mul_right _ hroom
      have hr := run_append_room (P := P) w t ty e i ht hi g n cap cur hg ad m c news hl hnews h1 hroom hfit
      refine ⟨_, _, _, hr, ⟨hlen, .inr ⟨g, cap, _, rfl, hc0, hbg, setRow_heap w g cur _ e _ hg, hroom, hcm, ?_, ?_⟩⟩, .inl ⟨rfl, ⟨rfl, rfl, rfl, by simp, fun k _ hk => setRow_other w g k _ (fun e => hk (by rw [e]))⟩⟩, hc0⟩
      · simp only [List.size_toArray, List.length_append, List.length_take, List.length_drop, Array.length_toList]
        omega
      · rw [htake, ← hlen]
        exact List.take_left
    · have holds : ∀ j u, xs[j]? = some u → w.cell? ((⟨g, 0, none⟩ : Addr).add j) = some u := by
        intro j u hu
        have hj : j < n * i.size := by rw [← hown.1]; exact (List.getElem?_eq_some_iff.1 hu).1
        rw [add_at, Nat.zero_add, cell_of_row w g _ _ _ _ hg, ← hu, ← htake, List.getElem?_take, if_pos hj]
        simp
      have hr := run_append_grow (P := P) w t ty e i z ht hi hz ⟨g, 0, none⟩ n cap xs hown.1 holds ad m c news hl hnews (by omega) (by omega) (growslice_fits (by omega) hbytes)
      have hgr := grown cap (by omega)
      exact ⟨_, _, _, hr, hgr.1, .inr ⟨rfl, hgr.2.1⟩, hgr.2.2⟩
theorem wp_append_two {P : Program} {w : World} {o : Oper} {a : Act} {K : Act → World → Prop} {Q : Exit → Act → World → Prop} (s x : Operand) (t : TypeId)
    (ho : o.op = .call { callee := .builtin .append, args := #[s, x], argTypes := #[t, t] }) (B : Nat) (e : TypeId) (i : TypeInfo) (z : Value) (size bytes : Nat) (ht : P.underlying t = some (.slice e)) (hi : P.info? e = some i) (hz : i.zero = some z)
    (hsize : i.size = size) (hby : i.bytes = bytes) (hzs : z.cells.size = size) (hsz : 0 < size)
    (v : Value) (n : Nat) (xs : List Value) (hs : a.eval s = v) (hown : OwnL w B e size v n xs)
    (ad : Addr) (m c : Nat) (news : List Value) (hx : a.eval x = .slice (some ad) m c) (hl : news.length = m * size) (hnews : ∀ j u, news[j]? = some u → w.cell? (ad.add j) = some u) (h1 : ∀ u ∈ news, u.oneCell' = true)
    (hm : 0 < m) (h63 : n + m ≤ maxLen) (hbytes : (n + m) * bytes ≤ 140737488355328) (hbase : B ≤ w.heap.size)
    (h : ∀ g cap w', OwnL w' B e size (.slice (some ⟨g, 0, none⟩) (n + m) cap) (n + m) (xs ++ news) → ((v = .slice (some ⟨g, 0, none⟩) n cap ∧ w.grownBy w' (some g)) ∨ (g = w.heap.size ∧ w.grownBy w' none)) → 0 < cap → K (a.put o.dst (.slice (some ⟨g, 0, none⟩) (n + m) cap)) w') : o.wp P a w K Q := by
  obtain ⟨g, cap, w', hr, h2, h3, h4⟩ := run_append_two (P := P) w t o.type B e i z size bytes ht hi hz hsize hby hzs hsz v n xs hown ad m c news hl hnews h1 hm h63 hbytes hbase
  unfold Oper.wp execOp
  simp only [ho, resolve, invoke, builtin, Sem.run_bind, Sem.run_pure, Result.andThen_ok, List.map_toArray, List.map_cons, List.map_nil, hs, hx, hr]
  exact h g cap w' h2 h3 h4
/-- Where an append onto v laid the new list. -/
def Grew (w w' : World) (v : Value) (n g cap : Nat) : Prop := (v = .slice (some ⟨g, 0, none⟩) n cap ∧ w.grownBy w' (some g)) ∨ (g = w.heap.size ∧ w.grownBy w' none)
theorem Grew.out {w w' : World} {v : Value} {n g cap : Nat} (h : Grew w w' v n g cap) : (v = .slice (some ⟨g, 0, none⟩) n cap ∧ w.grownBy w' (some g)) ∨ (g = w.heap.size ∧ w.grownBy w' none) := h
theorem wpList_append_two {P : Program} {w : World} {ops : Array Oper} {rest : List Oper} {o : Oper} {a : Act} {Q : Exit → Act → World → Prop} (hgd : o.guard = none) (s x : Operand) (t : TypeId)
    (ho : o.op = .call { callee := .builtin .append, args := #[s, x], argTypes := #[t, t] }) (B : Nat) (e : TypeId) (i : TypeInfo) (z : Value) (size bytes : Nat) (ht : P.underlying t = some (.slice e)) (hi : P.info? e = some i) (hz : i.zero = some z)
    (hsize : i.size = size) (hby : i.bytes = bytes) (hzs : z.cells.size = size) (hsz : 0 < size)
    (v : Value) (n : Nat) (xs : List Value) (hs : a.eval s = v) (hown : OwnL w B e size v n xs)
    (ad : Addr) (m c : Nat) (news : List Value) (hx : a.eval x = .slice (some ad) m c) (hl : news.length = m * size) (hnews : ∀ j u, news[j]? = some u → w.cell? (ad.add j) = some u) (h1 : ∀ u ∈ news, u.oneCell' = true)
    (hm : 0 < m) (h63 : n + m ≤ maxLen) (hbytes : (n + m) * bytes ≤ 140737488355328) (hbase : B ≤ w.heap.size)
    (h : ∀ g cap w', OwnL w' B e size (.slice (some ⟨g, 0, none⟩) (n + m) cap) (n + m) (xs ++ news) → Grew w w' v n g cap → 0 < cap → wpList P ops Q rest (a.put o.dst (.slice (some ⟨g, 0, none⟩) (n + m) cap)) w') :
    wpList P ops Q (o :: rest) a w :=
  wpList_plain hgd fun _ hK => wp_append_two s x t ho B e i z size bytes ht hi hz hsize hby hzs hsz v n xs hs hown ad m c news hx hl hnews h1 hm h63 hbytes hbase fun g cap w' h2 h3 h4 => hK _ _ (h g cap w' h2 h3 h4)
end Go.Proofs.Ytaenpcglaenlaaa
