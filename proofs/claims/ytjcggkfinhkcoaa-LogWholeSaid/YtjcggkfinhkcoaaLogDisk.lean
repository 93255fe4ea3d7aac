/-
  A log on an armed disk, over what an elder log left: while there is power, where it goes, and what is read then.
-/
import Derived.Test.YtjcggkfinhkcoaaLogCrash
import Derived.Test.YtjcggkfinhkcoaaLogOver
namespace Go.Proofs.Ytjcggkfinhkcoaa
open Go.RowKit
set_option linter.unusedVariables false
set_option linter.unusedSimpArgs false

theorem flushL_app (W M : List (Int × ByteArray)) (f : Int → Option ByteArray) : ∀ k, k ≤ W.length → flushL (W ++ M) f k = flushL W f k
  | 0, _ => rfl
  | k + 1, h => by
    unfold flushL
    rw [flushL_app W M f k (by omega)]
    have : (W ++ M).getD k w0 = W.getD k w0 := by rw [List.getD_eq_getElem?_getD, List.getD_eq_getElem?_getD, List.getElem?_append_left (by omega)]
    rw [this]
theorem flushL_snoc (W : List (Int × ByteArray)) (x : Int × ByteArray) (f : Int → Option ByteArray) : flushL (W ++ [x]) f (W ++ [x]).length = updF (flushL W f W.length) x.1 x.2 := by
  rw [List.length_append, List.length_singleton]
  show updF (flushL (W ++ [x]) f W.length) ((W ++ [x]).getD W.length w0).1 ((W ++ [x]).getD W.length w0).2 = _
  rw [flushL_app W [x] f _ (Nat.le_refl _)]
  have : (W ++ [x]).getD W.length w0 = x := by rw [List.getD_eq_getElem?_getD, List.getElem?_append_right (Nat.le_refl _), Nat.sub_self]; rfl
  rw [this]
theorem cutL_or (keep : List Int) (W : List (Int × ByteArray)) (f : Int → Option ByteArray) (i : Int) : ∀ k, k ≤ W.length → cutL keep W f k i = f i ∨ ∃ x ∈ W, x.1 = i ∧ cutL keep W f k i = some x.2
  | 0, _ => .inl rfl
  | k + 1, h => by
    have ih := cutL_or keep W f i k (by omega)
    have hm : W.getD k w0 ∈ W := by rw [List.getD_eq_getElem?_getD, List.getElem?_eq_getElem (by omega)]; exact List.getElem_mem _
    show cutStep keep W (cutL keep W f k) k i = _ ∨ ∃ x ∈ W, x.1 = i ∧ cutStep keep W (cutL keep W f k) k i = some x.2
    unfold cutStep
    split
    · unfold updF
      split
      · rename_i e; exact .inr ⟨_, hm, e.symm, rfl⟩
      · exact ih
    · exact ih
/-- What any disk has on which none wrote block 0. -/
structure OkD (d : DV) : Prop where
  tr : ∀ k, flushL d.waits d.lasts d.waits.length k = d.now k
  z1 : d.now 0 = none
  z2 : d.lasts 0 = none
  z3 : ∀ x ∈ d.waits, x.1 ≠ 0
  s1 : ∀ k b, d.now k = some b → b.size = 256
  s2 : ∀ k b, d.lasts k = some b → b.size = 256
  s3 : ∀ x ∈ d.waits, x.2.size = 256
theorem OkD.fresh (b : Int) : OkD (DV.fresh b) := ⟨fun _ => rfl, rfl, rfl, (fun _ h => nomatch h), (fun _ _ h => nomatch (show (none : Option ByteArray) = some _ from h)), (fun _ _ h => nomatch (show (none : Option ByteArray) = some _ from h)), (fun _ h => nomatch h)⟩
section
variable {d : DV}
theorem OkD.same {e : DV} (h : OkD d) (h1 : e.now = d.now) (h2 : e.lasts = d.lasts) (h3 : e.waits = d.waits) : OkD e :=
  ⟨by rw [h1, h2, h3]; exact h.tr, by rw [h1]; exact h.z1, by rw [h2]; exact h.z2, by rw [h3]; exact h.z3, by rw [h1]; exact h.s1, by rw [h2]; exact h.s2, by rw [h3]; exact h.s3⟩
theorem OkD.put {k : Int} {s : ByteArray} (h : OkD d) (hk : k ≠ 0) (hs : s.size = 256) : OkD (d.put k s) := by
  refine ⟨fun i => ?_, ?_, h.z2, ?_, ?_, h.s2, ?_⟩
  · show flushL (d.waits ++ [(k, s)]) d.lasts (d.waits ++ [(k, s)]).length i = updF d.now k s i
    rw [flushL_snoc]
    show updF _ k s i = _
    unfold updF
    split
    · rfl
    · exact h.tr i
  · show updF d.now k s 0 = none
    rw [updF_ne _ _ (fun e => hk e.symm)]; exact h.z1
  · intro x hx
    rcases List.mem_append.1 hx with hx | hx
    · exact h.z3 x hx
    · rw [List.mem_singleton.1 hx]; exact hk
  · intro j b e
    have e : updF d.now k s j = some b := e
    unfold updF at e
    split at e
    · injection e with e; rw [← e]; exact hs
    · exact h.s1 _ _ e
  · intro x hx
    rcases List.mem_append.1 hx with hx | hx
    · exact h.s3 x hx
    · rw [List.mem_singleton.1 hx]; exact hs
theorem OkD.cut (h : OkD d) (keep : List Int) : OkD (d.cut keep) := by
  unfold DV.cut
  split
  · have hc := fun i => cutL_or keep d.waits d.lasts i d.waits.length (Nat.le_refl _)
    have hz : cutL keep d.waits d.lasts d.waits.length 0 = none := by
      rcases hc 0 with e | ⟨x, hx, e, _⟩
      · rw [e]; exact h.z2
      · exact absurd e (h.z3 x hx)
    have hsz : ∀ k b, cutL keep d.waits d.lasts d.waits.length k = some b → b.size = 256 := by
      intro k b e
      rcases hc k with e2 | ⟨x, hx, _, e2⟩
      · rw [e2] at e; exact h.s2 _ _ e
      · rw [e2] at e; injection e with e; rw [← e]; exact h.s3 x hx
    exact ⟨fun _ => rfl, hz, hz, (fun _ h => nomatch h), hsz, hsz, (fun _ h => nomatch h)⟩
  · exact h.same rfl rfl rfl
theorem OkD.flushed (h : OkD d) : OkD d.spent.flushed := by
  have hl : d.spent.flushed.lasts = d.now := funext h.tr
  exact ⟨fun k => h.tr k, h.z1, by rw [hl]; exact h.z1, (fun _ h => nomatch h), h.s1, by rw [hl]; exact h.s1, (fun _ h => nomatch h)⟩
theorem OkD.write {k : Int} {s : ByteArray} (h : OkD d) (hk : k ≠ 0) : OkD (d.write k s).1 := by
  unfold DV.write
  split
  · exact h
  · split
    · exact h
    · split
      · exact h
      · split
        · exact h.cut _
        · rename_i h2 _ _
          exact OkD.put (d := d.spent) (h.same rfl rfl rfl) hk (by simpa using h2)
theorem OkD.flush (h : OkD d) : OkD d.flush.1 := by
  unfold DV.flush
  split
  · exact h
  · split
    · exact h.cut _
    · exact h.flushed
theorem OkD.apN {G : LV} {L : List ByteArray} (h : OkD d) (h0 : 0 < G.frm ∧ 0 ≤ G.used) : ∀ k : Nat, OkD (apN G L d k).1
  | 0 => h
  | k + 1 => by
    have ih := OkD.apN (L := L) h h0 k
    unfold Go.Proofs.Ytjcggkfinhkcoaa.apN
    dsimp only
    split
    · exact ih
    · exact ih.write (by omega)
theorem OkD.app {G : LV} (h : OkD d) (h0 : 0 < G.frm ∧ 0 ≤ G.used) (s : ByteArray) : OkD (G.app d s).1 := by
  unfold LV.app
  split
  · exact h
  · split
    · exact h
    · dsimp only
      split <;> exact h.apN h0 _
theorem app_used (G : LV) (d : DV) (s : ByteArray) (h : 0 ≤ G.used) : 0 ≤ (G.app d s).2.1.used := by
  unfold LV.app
  split
  · exact h
  · split
    · exact h
    · dsimp only
      split <;> (show 0 ≤ G.used + _; omega)
theorem OkD.appN {G : LV} (h : OkD d) (h0 : 0 < G.frm ∧ 0 ≤ G.used) (l : List ByteArray) : ∀ k : Nat, OkD (appN G d l k).1 ∧ 0 ≤ (appN G d l k).2.1.used
  | 0 => ⟨h, h0.2⟩
  | k + 1 => by
    obtain ⟨p, q⟩ := OkD.appN h h0 l k
    have hf := (appN_same G d l k).2.1
    unfold Go.Proofs.Ytjcggkfinhkcoaa.appN
    dsimp only
    split
    · exact ⟨p, q⟩
    · exact ⟨p.app ⟨by rw [hf]; exact h0.1, q⟩ _, app_used _ _ _ q⟩
theorem OkD.App {G : LV} (h : OkD d) (h0 : 0 < G.frm ∧ 0 ≤ G.used) (l : List ByteArray) : OkD (G.App d l).1 := by
  unfold LV.App
  split
  · exact h
  · exact (h.appN h0 l _).1
end

/-- A disk with power: the blocks of a log up to U are written over the elder ones, up to F they last. -/
structure WS (d : DV) (L old : List ByteArray) (U F : Nat) : Prop where
  on : d.on = true
  bl : d.blocks = 24
  ok : OkD d
  len : old.length = 16
  now : ∀ i : Nat, i < 16 → (d.now (2 + i)).getD zeroB = if i < U then L.getD i ByteArray.empty else old.getD i ByteArray.empty
  las : ∀ i : Nat, i < 16 → (d.lasts (2 + i)).getD zeroB = if i < F then L.getD i ByteArray.empty else old.getD i ByteArray.empty
  wts : ∀ x ∈ d.waits, ∃ i : Nat, i < U ∧ x = (2 + (i : Int), L.getD i ByteArray.empty)
  fu : F ≤ U ∧ U ≤ L.length
/-- A disk whose power went. -/
structure CS (d : DV) (L old : List ByteArray) (F : Nat) : Prop where
  on : d.on = false
  bl : d.blocks = 24
  ok : OkD d
  wts : d.waits = []
  len : old.length = 16
  las : ∀ i : Nat, i < 16 → ((d.lasts (2 + i)).getD zeroB = L.getD i ByteArray.empty ∧ i < L.length) ∨ (F ≤ i ∧ (d.lasts (2 + i)).getD zeroB = old.getD i ByteArray.empty)
section
variable {d : DV} {L old : List ByteArray} {U F : Nat}
theorem WS.cut (h : WS d L old U F) (keep : List Int) : CS (d.cut keep) L old F := by
  have ho := h.ok.cut keep
  have he : d.cut keep = { d with on := false, armed := false, left := -1, keep := [], now := cutL keep d.waits d.lasts d.waits.length, lasts := cutL keep d.waits d.lasts d.waits.length, waits := [] } := if_pos h.on
  rw [he] at ho ⊢
  refine ⟨rfl, h.bl, ho, rfl, h.len, fun i hi => ?_⟩
  dsimp only
  have hf := h.fu
  rcases cutL_or keep d.waits d.lasts (2 + (i : Int)) d.waits.length (Nat.le_refl _) with e | ⟨x, hx, e1, e2⟩
  · rw [e, h.las i hi]
    by_cases hif : i < F
    · rw [if_pos hif]; exact .inl ⟨rfl, by omega⟩
    · rw [if_neg hif]; exact .inr ⟨by omega, rfl⟩
  · obtain ⟨j, hj, rfl⟩ := h.wts x hx
    have hij : j = i := by dsimp only at e1; omega
    subst hij
    rw [e2]
    exact .inl ⟨rfl, by omega⟩
theorem WS.put (h : WS d L old U F) (hU : U < 16 ∧ U < L.length) (hs : (L.getD U ByteArray.empty).size = 256) : WS (d.spent.put (2 + (U : Int)) (L.getD U ByteArray.empty)) L old (U + 1) F := by
  have hf := h.fu
  refine ⟨h.on, h.bl, OkD.put (d := d.spent) (h.ok.same rfl rfl rfl) (by omega) hs, h.len, fun i hi => ?_, h.las, ?_, by omega⟩
  · show (updF d.now (2 + (U : Int)) (L.getD U ByteArray.empty) (2 + i)).getD zeroB = _
    by_cases e : i = U
    · subst e; rw [updF_same, if_pos (by omega)]; rfl
    · rw [updF_ne _ _ (by omega), h.now i hi]
      by_cases e2 : i < U
      · rw [if_pos e2, if_pos (by omega)]
      · rw [if_neg e2, if_neg (by omega)]
  · intro x hx
    rcases List.mem_append.1 hx with hx | hx
    · obtain ⟨i, hi, e⟩ := h.wts x hx; exact ⟨i, by omega, e⟩
    · exact ⟨U, by omega, List.mem_singleton.1 hx⟩
theorem WS.flushed (h : WS d L old U F) : WS d.spent.flushed L old U U := by
  have hl : d.spent.flushed.lasts = d.now := funext h.ok.tr
  exact ⟨h.on, h.bl, h.ok.flushed, h.len, h.now, fun i hi => by rw [hl]; exact h.now i hi, (fun _ hx => nomatch hx), ⟨Nat.le_refl _, h.fu.2⟩⟩
theorem WS.more (h : WS d L old U F) {L' : List ByteArray} (h1 : ∀ i, i < U → L'.getD i ByteArray.empty = L.getD i ByteArray.empty) (h2 : U ≤ L'.length) : WS d L' old U F := by
  have hf := h.fu
  refine ⟨h.on, h.bl, h.ok, h.len, fun i hi => ?_, fun i hi => ?_, fun x hx => ?_, ⟨hf.1, h2⟩⟩
  · rw [h.now i hi]
    by_cases e : i < U
    · rw [if_pos e, if_pos e, h1 i e]
    · rw [if_neg e, if_neg e]
  · rw [h.las i hi]
    by_cases e : i < F
    · rw [if_pos e, if_pos e, h1 i (by omega)]
    · rw [if_neg e, if_neg e]
  · obtain ⟨i, hi, e⟩ := h.wts x hx
    exact ⟨i, hi, by rw [h1 i hi]; exact e⟩
theorem WS.apN {G : LV} {M : List ByteArray} (hf : G.frm = 2) (hu : G.used = (U : Int)) (hM : ∀ k, k < M.length → M.getD k ByteArray.empty = L.getD (U + k) ByteArray.empty) (hl : L.length = U + M.length) (h16 : L.length ≤ 16) (hz : ∀ b ∈ M, b.size = 256) (h : WS d L old U F) :
    ∀ k : Nat, k ≤ M.length → ((apN G M d k).2.2 = 0 ∧ (apN G M d k).2.1 = k ∧ WS (apN G M d k).1 L old (U + k) F) ∨ ((apN G M d k).2.2 = 14 ∧ CS (apN G M d k).1 L old F)
  | 0, _ => .inl ⟨rfl, rfl, h⟩
  | k + 1, hk => by
    have ih := WS.apN hf hu hM hl h16 hz h k (by omega)
    unfold Go.Proofs.Ytjcggkfinhkcoaa.apN
    dsimp only
    rcases ih with ⟨i1, i2, i3⟩ | ⟨i1, i2⟩
    · rw [if_neg (by simpa using i1)]
      have hs : (M.getD k ByteArray.empty).size = 256 := hz _ (getD_mem (by omega))
      have hk2 : G.frm + (G.used + (k : Int)) = 2 + ((U + k : Nat) : Int) := by omega
      rw [hk2]
      unfold DV.write
      rw [if_neg (by rw [i3.on]; simp), if_neg (by simpa using hs), if_neg (by rw [i3.bl]; omega)]
      split
      · exact .inr ⟨rfl, i3.cut _⟩
      · refine .inl ⟨rfl, rfl, ?_⟩
        rw [hM k (by omega)]
        exact i3.put ⟨by omega, by omega⟩ (by rw [← hM k (by omega)]; exact hs)
    · rw [if_pos (by rw [i1]; decide)]
      exact .inr ⟨i1, i2⟩
end
/-- A log on such a disk: R records, F blocks of them last. -/
structure WI (d : DV) (G : LV) (R old : List ByteArray) (F : Nat) : Prop where
  ws : WS d (flatR 8 0 R) old (flatR 8 0 R).length F
  frm : G.frm = 2
  n : G.n = 16
  gen : G.gen = 8
  bad : G.bad = 0
  recs : G.recs = R.length
  used : G.used = (flatR 8 0 R).length
  le : (flatR 8 0 R).length ≤ 16
  hz : ∀ s ∈ R, s.size ≤ 3000
structure CR (d : DV) (G : LV) (R old : List ByteArray) (F : Nat) : Prop where
  cs : CS d (flatR 8 0 R) old F
  bad : G.bad = 14
  le : (flatR 8 0 R).length ≤ 16
  hz : ∀ s ∈ R, s.size ≤ 3000
theorem WI.app {d : DV} {G : LV} {R old : List ByteArray} {F : Nat} (h : WI d G R old F) (s : ByteArray) :
    ((G.app d s).2.2 ≠ 0 ∧ (G.app d s).2.2 ≠ 14 ∧ WI (G.app d s).1 (G.app d s).2.1 R old F) ∨ ((G.app d s).2.2 = 0 ∧ WI (G.app d s).1 (G.app d s).2.1 (R ++ [s]) old F) ∨ ((G.app d s).2.2 = 14 ∧ CR (G.app d s).1 (G.app d s).2.1 (R ++ [s]) old F) := by
  unfold LV.app
  split
  · exact .inl ⟨show ¬ (2 : Int) = 0 by decide, show ¬ (2 : Int) = 14 by decide, h⟩
  · rename_i hs
    split
    · exact .inl ⟨show ¬ (20 : Int) = 0 by decide, show ¬ (20 : Int) = 14 by decide, h⟩
    · rename_i hl
      have hll := layL_len G.gen G.recs s
      have hfl : flatR 8 0 (R ++ [s]) = flatR 8 0 R ++ layL G.gen G.recs s := by rw [flatR_snoc, h.gen, h.recs, Nat.zero_add]
      have hlen : (flatR 8 0 (R ++ [s])).length = (flatR 8 0 R).length + blks s.size := by rw [hfl, List.length_append, hll]
      have hfit : (flatR 8 0 (R ++ [s])).length ≤ 16 := by
        unfold LV.left at hl
        rw [h.n, h.used] at hl
        rw [hlen]; omega
      have hz2 : ∀ x ∈ R ++ [s], x.size ≤ 3000 := by
        intro x hx
        rcases List.mem_append.1 hx with hx | hx
        · exact h.hz x hx
        · rw [List.mem_singleton.1 hx]; omega
      have hws : WS d (flatR 8 0 (R ++ [s])) old (flatR 8 0 R).length F := h.ws.more (fun i hi => by rw [hfl, getD_app _ _ hi]) (by rw [hlen]; omega)
      have hap := hws.apN (G := G) (M := layL G.gen G.recs s) h.frm h.used (fun k hk => by rw [hfl, getD_app2 _ _ (by omega), Nat.add_sub_cancel_left]) (by rw [hlen, hll]) hfit (layL_size _ _ _) (blks s.size) (by rw [hll]; exact Nat.le_refl _)
      dsimp only
      rcases hap with ⟨e1, e2, e3⟩ | ⟨e1, e2⟩
      · rw [if_neg (by simpa using e1)]
        refine .inr (.inl ⟨rfl, ⟨by rw [hlen]; exact e3, h.frm, h.n, h.gen, h.bad, ?_, ?_, hfit, hz2⟩⟩)
        · show G.recs + 1 = _; rw [h.recs, List.length_append]; simp
        · show G.used + _ = _
          rw [e2, h.used, hlen]; omega
      · rw [if_pos (by rw [e1]; decide)]
        exact .inr (.inr ⟨e1, ⟨e2, e1, hfit, hz2⟩⟩)
theorem WI.flush {d : DV} {G : LV} {R old : List ByteArray} {F : Nat} (h : WI d G R old F) :
    ((G.flush d).2.2 = 0 ∧ WI (G.flush d).1 (G.flush d).2.1 R old (flatR 8 0 R).length) ∨ ((G.flush d).2.2 = 14 ∧ CR (G.flush d).1 (G.flush d).2.1 R old F) := by
  unfold LV.flush
  rw [if_neg (by rw [h.bad]; decide)]
  unfold DV.flush
  rw [if_neg (by rw [h.ws.on]; simp)]
  split
  · exact .inr ⟨rfl, ⟨h.ws.cut _, rfl, h.le, h.hz⟩⟩
  · exact .inl ⟨rfl, ⟨h.ws.flushed, h.frm, h.n, h.gen, rfl, h.recs, h.used, h.le, h.hz⟩⟩
/-- With power, or without. -/
def ST (d : DV) (G : LV) (R old : List ByteArray) (F : Nat) : Prop := WI d G R old F ∨ CR d G R old F
theorem ST.on {d : DV} {G : LV} {R old : List ByteArray} {F : Nat} (h : ST d G R old F) (ho : d.on = true) : WI d G R old F := by
  rcases h with h | h
  · exact h
  · rw [h.cs.on] at ho; cases ho
theorem ST.off {d : DV} {G : LV} {R old : List ByteArray} {F : Nat} (h : ST d G R old F) (ho : d.on = false) : CR d G R old F := by
  rcases h with h | h
  · rw [h.ws.on] at ho; cases ho
  · exact h
theorem WS.arm {d : DV} {L old : List ByteArray} {U F : Nat} (h : WS d L old U F) (n : Int) (k : List Int) : WS (d.arm n k) L old U F :=
  ⟨h.on, h.bl, h.ok.same rfl rfl rfl, h.len, h.now, h.las, h.wts, h.fu⟩
theorem CS.arm {d : DV} {L old : List ByteArray} {F : Nat} (h : CS d L old F) (n : Int) (k : List Int) : CS (d.arm n k) L old F :=
  ⟨h.on, h.bl, h.ok.same rfl rfl rfl, h.wts, h.len, h.las⟩
theorem CS.cut {d : DV} {L old : List ByteArray} {F : Nat} (h : CS d L old F) (k : List Int) : CS (d.cut k) L old F := by
  have he : d.cut k = { d with armed := false, left := -1, keep := [] } := if_neg (by rw [h.on]; decide)
  rw [he]
  exact ⟨h.on, h.bl, h.ok.same rfl rfl rfl, h.wts, h.len, h.las⟩
/-- The disk behind the power's coming back. -/
def DV.back (d : DV) (keep : List Int) : DV := ((d.arm (-1) []).cut keep).restore
theorem ST.back {d : DV} {G : LV} {R old : List ByteArray} {F m : Nat} (h : ST d G R old F) (keep : List Int) (hF : F = (flatR 8 0 (R.take m)).length) (hm : m ≤ R.length) (ho : ∀ b ∈ old, ∀ nb, b.data.toList.take 16 ≠ sigL 8 nb) :
    (d.back keep).small ∧ (d.back keep).read 0 = (zeroB, 0) ∧ errN (d.back keep) 2 16 = 0 ∧ ∃ j, m ≤ j ∧ j ≤ R.length ∧ rdL (d.back keep) 2 16 8 = R.take j := by
  have hC : CS ((d.arm (-1) []).cut keep) (flatR 8 0 R) old F := by
    rcases h with h | h
    · exact (h.ws.arm _ _).cut _
    · exact (h.cs.arm _ _).cut _
  have hle : (flatR 8 0 R).length ≤ 16 := by rcases h with h | h <;> exact h.le
  have hz : ∀ s ∈ R, s.size ≤ 3000 := by rcases h with h | h <;> exact h.hz
  obtain ⟨e, he⟩ : ∃ e, e = (d.arm (-1) []).cut keep := ⟨_, rfl⟩
  have hb : d.back keep = { e with on := true } := by
    unfold DV.back
    rw [← he]
    exact if_pos (by rw [he, hC.bl]; decide)
  rw [← he] at hC
  rw [hb]
  have hnow : e.now = e.lasts := by
    funext k
    have := hC.ok.tr k
    rw [hC.wts] at this
    exact this.symm
  have hrd : ∀ i : Nat, i < 16 → ({ e with on := true } : DV).read (2 + (i : Int)) = ((e.lasts (2 + i)).getD zeroB, 0) := fun i hi => by
    rw [read_now rfl ⟨by omega, by show (2 + (i : Int)) < e.blocks; rw [hC.bl]; omega⟩]
    show ((e.now (2 + i)).getD zeroB, (0 : Int)) = _
    rw [hnow]
  have hrd0 : ({ e with on := true } : DV).read 0 = (zeroB, 0) := by
    rw [read_now rfl ⟨by omega, by show (0 : Int) < e.blocks; rw [hC.bl]; decide⟩]
    show ((e.now 0).getD zeroB, (0 : Int)) = _
    rw [hC.ok.z1]; rfl
  have herr : ∀ k : Nat, k ≤ 16 → errN ({ e with on := true } : DV) 2 k = 0 := by
    intro k
    induction k with
    | zero => intro _; rfl
    | succ k ih =>
      intro hk
      show (if errN ({ e with on := true } : DV) 2 k ≠ 0 then _ else (({ e with on := true } : DV).read (2 + k)).2) = 0
      rw [if_neg (by simpa using ih (by omega)), hrd k (by omega)]
  refine ⟨hC.ok.s1, hrd0, herr 16 (Nat.le_refl _), ?_⟩
  have hbl : (blkN ({ e with on := true } : DV) 2 16).length = 16 := blkN_len _ _ _
  have hget : ∀ i : Nat, i < 16 → (blkN ({ e with on := true } : DV) 2 16).getD i ByteArray.empty = (e.lasts (2 + i)).getD zeroB := fun i hi => by
    unfold blkN
    rw [List.getD_eq_getElem?_getD, List.getElem?_map, List.getElem?_range hi]
    show (({ e with on := true } : DV).read (2 + i)).1 = _
    rw [hrd i hi]
  obtain ⟨j, j1, j2, j3⟩ := play_mixed 8 R [] (blkN ({ e with on := true } : DV) 2 16) old hz ⟨by rw [hbl, hC.len], fun i hi => by
      rw [hbl] at hi
      rw [hget i hi]
      rcases hC.las i hi with ⟨a, b⟩ | ⟨_, a⟩
      · exact .inr ⟨b, a⟩
      · exact .inl a⟩ (by rw [hbl]; exact hle) ho m hm (fun i hi => by
      have hi' : i < F := by rw [hF]; exact hi
      have h16 : i < 16 := by
        have h1 : (flatR 8 0 (R.take m)).length ≤ (flatR 8 0 R).length := by
          have h2 : ∀ (A B : List ByteArray) (nb : Nat), (flatR 8 nb A).length ≤ (flatR 8 nb (A ++ B)).length := by
            intro A
            induction A with
            | nil => intro B nb; exact Nat.zero_le _
            | cons x A ih =>
              intro B nb
              show (layL 8 nb x ++ flatR 8 (nb + 1) A).length ≤ (layL 8 nb x ++ flatR 8 (nb + 1) (A ++ B)).length
              rw [List.length_append, List.length_append]
              have := ih B (nb + 1); omega
          have := h2 (R.take m) (R.drop m) 0
          rwa [List.take_append_drop] at this
        omega
      rw [hget i h16]
      rcases hC.las i h16 with ⟨a, b⟩ | ⟨a, _⟩
      · exact a
      · omega)
  refine ⟨j, j1, j2, ?_⟩
  unfold rdL
  rw [if_neg (by simpa using herr 16 (Nat.le_refl _)), j3]
  rfl
end Go.Proofs.Ytjcggkfinhkcoaa
