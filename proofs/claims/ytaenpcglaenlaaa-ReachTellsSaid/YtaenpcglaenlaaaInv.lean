/-
  A region that draws its order, by specifications: each operation is run in any world in which the condition S and the facts on what it depends on hold; the order does not matter. A tail that goes in its order may stand behind.
-/
import Derived.Test.YtaenpcglaenlaaaKit
import Derived.OrdersHeld
import Derived.StillTail
import Derived.Deep.RegionHeld
namespace Go.Proofs.Ytaenpcglaenlaaa
open Go.RowKit
set_option linter.unusedVariables false
set_option linter.unusedSimpArgs false

def Blw (w w' : World) : Prop := Below w.heap.size w w'
/-- What an operation leaves in its slot: this value; one that meets p, in the world at hand and in all later ones (by R); or one that meets q and whose own blocks are new. -/
inductive Spec (R : World → World → Prop) where
  | val (c : Value)
  | rel (p : Value → World → Prop) (hp : ∀ v w w', p v w → R w w' → p v w')
  | new (own : Value → Nat → Prop) (q : Value → World → Prop) (hq : ∀ v w w', q v w → R w w' → q v w') (hlt : ∀ v w b, q v w → own v b → b < w.heap.size)
section
variable {R : World → World → Prop}
def Spec.ok : Spec R → Value → World → Prop
  | .val c, v, _ => v = c
  | .rel p _, v, w => p v w
  | .new _ q _ _, v, w => q v w
def Spec.fresh : Spec R → World → Value → Prop
  | .new own _ _ _, w, v => ∀ b, own v b → w.heap.size ≤ b
  | _, _, _ => True
theorem Spec.ok_below {s : Spec R} {v : Value} {w w' : World} (h : s.ok v w) (hb : R w w') : s.ok v w' := by
  cases s with
  | val c => exact h
  | rel p hp => exact hp _ _ _ h hb
  | new own q hq hlt => exact hq _ _ _ h hb

def depB (o : Oper) (j : Nat) : Bool := o.after.toList.any fun e => decide (e.on = j) && Region.binds .any e
def nthOf {α : Type} : List α → Nat → Option α
  | [], _ => none
  | x :: _, 0 => some x
  | _ :: l, k + 1 => nthOf l k
theorem nthOf_eq {α : Type} : ∀ (l : List α) (i : Nat), nthOf l i = l[i]?
  | [], _ => by simp [nthOf]
  | _ :: _, 0 => rfl
  | _ :: l, k + 1 => by rw [nthOf, nthOf_eq l k]; rfl
def factOf (w : World) : Option (Spec R) → Option Value → Prop
  | some s, some v => s.ok v w
  | _, _ => True
def relAt (specs : List (Spec R)) (vs : List Value) (w : World) (j : Nat) : Prop := factOf w (nthOf specs j) (nthOf vs j)
theorem relAt_mk {specs : List (Spec R)} {vs : List Value} {w : World} {j : Nat} (h : ∀ (s : Spec R) (v : Value), specs[j]? = some s → vs[j]? = some v → s.ok v w) : relAt specs vs w j := by
  unfold relAt
  rw [nthOf_eq, nthOf_eq]
  cases h1 : specs[j]? with
  | none => exact trivial
  | some s => cases h2 : vs[j]? with
    | none => exact trivial
    | some v => exact h s v h1 h2

/-- Two blocks that are new are not one. -/
def apartOf : Option (Spec R) → Option (Spec R) → Option Value → Option Value → Prop
  | some (.new own _ _ _), some (.new own2 _ _ _), some u, some v => ∀ b, own u b → own2 v b → False
  | _, _, _, _ => True
def apartAt (specs : List (Spec R)) (vs : List Value) (i j : Nat) : Prop := apartOf (nthOf specs i) (nthOf specs j) (nthOf vs i) (nthOf vs j)
theorem apartOf_mk {s t : Spec R} {u v : Value} {w : World} (hs : s.ok u w) (ht : t.fresh w v) : apartOf (some s) (some t) (some u) (some v) := by
  cases s with
  | new own q hq hlt => cases t with
    | new own2 r hr hlt2 =>
      intro b h1 h2
      have e1 := hlt _ _ _ hs h1
      have e2 := ht b h2
      omega
    | _ => exact trivial
  | _ => cases t <;> exact trivial
theorem apartOf_none_left {t : Option (Spec R)} {u v : Option Value} : apartOf none t u v := by
  cases t with
  | none => exact trivial
  | some t => cases t <;> exact trivial
theorem apartOf_none_right {s : Spec R} {u v : Option Value} : apartOf (some s) none u v := by cases s <;> exact trivial
theorem apartOf_none_u {s t : Spec R} {v : Option Value} : apartOf (some s) (some t) none v := by cases s <;> cases t <;> exact trivial
theorem apartOf_none_v {s t : Spec R} {u : Value} : apartOf (some s) (some t) (some u) none := by cases s <;> cases t <;> exact trivial
theorem apartOf_symm {s t : Spec R} {u v : Value} (h : apartOf (some s) (some t) (some u) (some v)) : apartOf (some t) (some s) (some v) (some u) := by
  cases s <;> cases t <;> first | exact trivial | exact fun b h1 h2 => h b h2 h1

/-- One operation, in any world in which S and the facts on what it depends on hold. -/
def Obl (P : Program) (ops : Array Oper) (S : World → Prop) (specs : List (Spec R)) (o : Oper) (s : Spec R) (vs : List Value) (F : Act) : Prop :=
  ∀ w, S w → Shut (∀ j, depB o j = true → relAt specs vs w j) → ∀ K : Act → World → Prop, Shut (∀ b v w', b = F.put o.dst v → s.ok v w' → s.fresh w v → R w w' → K b w') →
    if Region.wanted o (yielded ops F.tmps) = true then Oper.wp P o F w K (fun _ _ _ => False) else K (F.put o.dst undef) w

def OblV (P : Program) (ops : Array Oper) (S : World → Prop) (specs : List (Spec R)) (o : Oper) (c : Value) (vs : List Value) (F : Act) : Prop :=
  ∀ w, S w → Shut (∀ j, depB o j = true → relAt specs vs w j) → ∀ K : Act → World → Prop, Shut (∀ b w', b = F.put o.dst c → R w w' → K b w') →
    if Region.wanted o (yielded ops F.tmps) = true then Oper.wp P o F w K (fun _ _ _ => False) else K (F.put o.dst undef) w
def OblR (P : Program) (ops : Array Oper) (S : World → Prop) (specs : List (Spec R)) (o : Oper) (p : Value → World → Prop) (vs : List Value) (F : Act) : Prop :=
  ∀ w, S w → Shut (∀ j, depB o j = true → relAt specs vs w j) → ∀ K : Act → World → Prop, Shut (∀ b v w', b = F.put o.dst v → p v w' → R w w' → K b w') →
    if Region.wanted o (yielded ops F.tmps) = true then Oper.wp P o F w K (fun _ _ _ => False) else K (F.put o.dst undef) w

def OblN (P : Program) (ops : Array Oper) (S : World → Prop) (specs : List (Spec R)) (o : Oper) (own : Value → Nat → Prop) (q : Value → World → Prop) (vs : List Value) (F : Act) : Prop :=
  ∀ w, S w → Shut (∀ j, depB o j = true → relAt specs vs w j) → ∀ K : Act → World → Prop, Shut (∀ A v w', A = F.put o.dst v → q v w' → (∀ b, own v b → w.heap.size ≤ b) → R w w' → K A w') →
    if Region.wanted o (yielded ops F.tmps) = true then Oper.wp P o F w K (fun _ _ _ => False) else K (F.put o.dst undef) w

def wpInv (P : Program) (ops : Array Oper) (Q : Exit → Act → World → Prop) (S : World → Prop) (specs : List (Spec R)) (tail : List Oper) : List Oper → List (Spec R) → List Value → Act → Prop
  | [], _, vs, a => ∀ w, S w → (∀ j, relAt specs vs w j) → (∀ i j, i ≠ j → apartAt specs vs i j) → wpList P ops Q tail a w
  | o :: os, s :: ss, vs, a => Obl P ops S specs o s vs a ∧
      match s with
      | .val c => wpInv P ops Q S specs tail os ss (vs ++ [c]) (a.put o.dst c)
      | _ => ∀ v, wpInv P ops Q S specs tail os ss (vs ++ [v]) (a.put o.dst v)
  | _ :: _, [], _, _ => False

/-- a with the values of these operations put in. -/
def putAll : List Oper → List Value → Act → Act
  | o :: os, v :: vs, a => putAll os vs (a.put o.dst v)
  | _, _, a => a

variable {P : Program} {ops : Array Oper} {Q : Exit → Act → World → Prop} {S : World → Prop} {specs : List (Spec R)} {tail : List Oper}

/-- The same, from operation number i on. -/
def wpInvI (P : Program) (ops : Array Oper) (Q : Exit → Act → World → Prop) (S : World → Prop) (specs : List (Spec R)) (n i : Nat) (vs : List Value) (a : Act) : Prop :=
  wpInv P ops Q S specs (ops.toList.drop n) ((ops.toList.take n).drop i) (specs.drop i) vs a

theorem heads_drop {l : List Oper} {n i : Nat} {o : Oper} (hi : decide (i < n) = true) (ho : nthOf l i = some o) : (l.take n).drop i = o :: (l.take n).drop (i + 1) := by
  have hi' : i < n := of_decide_eq_true hi
  rw [nthOf_eq] at ho
  have h1 : i < l.length := (List.getElem?_eq_some_iff.1 ho).1
  have h2 : i < (l.take n).length := by simp; omega
  rw [List.drop_eq_getElem_cons h2]
  congr 1
  rw [List.getElem_take]
  exact (List.getElem?_eq_some_iff.1 ho).2
theorem specs_drop {l : List (Spec R)} {i : Nat} {s : Spec R} (ho : nthOf l i = some s) : l.drop i = s :: l.drop (i + 1) := by
  rw [nthOf_eq] at ho
  have h1 : i < l.length := (List.getElem?_eq_some_iff.1 ho).1
  rw [List.drop_eq_getElem_cons h1]
  congr 1
  exact (List.getElem?_eq_some_iff.1 ho).2

theorem inv_val {n i : Nat} {o : Oper} {c : Value} {vs : List Value} {a : Act} (hi : decide (i < n) = true) (ho : nthOf ops.toList i = some o) (hs : nthOf specs i = some (.val c)) (h : OblV P ops S specs o c vs a)
    (h2 : wpInvI P ops Q S specs n (i + 1) (vs ++ [c]) (a.put o.dst c)) : wpInvI P ops Q S specs n i vs a := by
  unfold wpInvI
  rw [heads_drop hi ho, specs_drop hs]
  exact ⟨fun w hS hd K hK => h w hS hd K (fun b w' hb hbel => hK b c w' hb rfl trivial hbel), h2⟩
theorem inv_rel {n i : Nat} {o : Oper} {p : Value → World → Prop} {hp : ∀ v w w', p v w → R w w' → p v w'} {vs : List Value} {a : Act} (hi : decide (i < n) = true) (ho : nthOf ops.toList i = some o) (hs : nthOf specs i = some (.rel p hp))
    (h : OblR P ops S specs o p vs a) (h2 : ∀ v, wpInvI P ops Q S specs n (i + 1) (vs ++ [v]) (a.put o.dst v)) : wpInvI P ops Q S specs n i vs a := by
  unfold wpInvI
  rw [heads_drop hi ho, specs_drop hs]
  exact ⟨fun w hS hd K hK => h w hS hd K (fun b v w' hb hp hbel => hK b v w' hb hp trivial hbel), h2⟩
theorem inv_new {n i : Nat} {o : Oper} {own : Value → Nat → Prop} {q : Value → World → Prop} {hq : ∀ v w w', q v w → R w w' → q v w'} {hlt : ∀ v w b, q v w → own v b → b < w.heap.size} {vs : List Value} {a : Act} (hi : decide (i < n) = true) (ho : nthOf ops.toList i = some o) (hs : nthOf specs i = some (.new own q hq hlt))
    (h : OblN P ops S specs o own q vs a) (h2 : ∀ v, wpInvI P ops Q S specs n (i + 1) (vs ++ [v]) (a.put o.dst v)) : wpInvI P ops Q S specs n i vs a := by
  unfold wpInvI
  rw [heads_drop hi ho, specs_drop hs]
  exact ⟨fun w hS hd K hK => h w hS hd K (fun A v w' hb h1 h2 hbel => hK A v w' hb h1 h2 hbel), h2⟩
theorem inv_nil2 {n : Nat} {vs : List Value} {a : Act} (h : ∀ w, S w → Shut (∀ j, relAt specs vs w j) → Shut (∀ i j, i ≠ j → apartAt specs vs i j) → wpList P ops Q (ops.toList.drop n) a w) : wpInvI P ops Q S specs n n vs a := by
  unfold wpInvI
  rw [List.drop_of_length_le (show (ops.toList.take n).length ≤ n by simp; omega)]
  exact h
theorem inv_nil {n : Nat} {vs : List Value} {a : Act} (h : ∀ w, S w → Shut (∀ j, relAt specs vs w j) → wpList P ops Q (ops.toList.drop n) a w) : wpInvI P ops Q S specs n n vs a := inv_nil2 fun w h1 h2 _ => h w h1 h2
theorem inv_done {n : Nat} {vs : List Value} {a : Act} (hn : decide (ops.size ≤ n) = true) (h : ∀ w, S w → Shut (∀ j, relAt specs vs w j) → Q .normal a w) : wpInvI P ops Q S specs n n vs a := by
  refine inv_nil fun w hS hd => ?_
  rw [List.drop_of_length_le (by have := of_decide_eq_true hn; simpa using this)]
  exact h w hS hd
theorem drop_at {n : Nat} {o1 : Oper} (h1 : nthOf ops.toList n = some o1) : ops.toList.drop n = o1 :: ops.toList.drop (n + 1) := by
  rw [nthOf_eq] at h1
  have h2 : n < ops.toList.length := (List.getElem?_eq_some_iff.1 h1).1
  rw [List.drop_eq_getElem_cons h2, (List.getElem?_eq_some_iff.1 h1).2]
theorem drop_all {n : Nat} (hn : ops.size = n) : ops.toList.drop n = [] := List.drop_of_length_le (by simp; omega)
theorem inv_tail1 {n : Nat} {o1 : Oper} {vs : List Value} {a : Act} (hn : decide (ops.size = n + 1) = true) (h1 : nthOf ops.toList n = some o1) (h : ∀ w, S w → Shut (∀ j, relAt specs vs w j) → wpList P ops Q [o1] a w) : wpInvI P ops Q S specs n n vs a := by
  refine inv_nil fun w hS hd => ?_
  rw [drop_at h1, drop_all (of_decide_eq_true hn)]
  exact h w hS hd
theorem inv_tail2 {n : Nat} {o1 o2 : Oper} {vs : List Value} {a : Act} (hn : decide (ops.size = n + 1 + 1) = true) (h1 : nthOf ops.toList n = some o1) (h2 : nthOf ops.toList (n + 1) = some o2) (h : ∀ w, S w → Shut (∀ j, relAt specs vs w j) → Shut (∀ i j, i ≠ j → apartAt specs vs i j) → wpList P ops Q [o1, o2] a w) : wpInvI P ops Q S specs n n vs a := by
  refine inv_nil2 fun w hS hd ha => ?_
  rw [drop_at h1, drop_at h2, drop_all (of_decide_eq_true hn)]
  exact h w hS hd ha
/-- What the walk says, operation by operation, for every choice of the values. -/
theorem wpInv_all : ∀ (os : List Oper) (ss : List (Spec R)) (vs0 : List Value) (a : Act), wpInv P ops Q S specs tail os ss vs0 a →
    ∀ us : List Value, us.length = os.length → (∀ (j : Nat) (c : Value), ss[j]? = some (Spec.val c) → j < os.length → us[j]? = some c) →
      (∀ i o s, os[i]? = some o → ss[i]? = some s → Obl P ops S specs o s (vs0 ++ us.take i) (putAll (os.take i) (us.take i) a)) ∧
      os.length ≤ ss.length ∧
      (∀ w, S w → (∀ j, relAt specs (vs0 ++ us) w j) → (∀ i j, i ≠ j → apartAt specs (vs0 ++ us) i j) → wpList P ops Q tail (putAll os us a) w)
  | [], ss, vs0, a, h, us, hl, _ => by
    obtain rfl : us = [] := List.eq_nil_of_length_eq_zero hl
    refine ⟨fun i o s ho => by simp at ho, by simp, ?_⟩
    intro w hS hh ha
    rw [List.append_nil] at hh ha
    exact h w hS hh ha
  | o :: os, [], vs0, a, h, us, hl, _ => h.elim
  | o :: os, s :: ss, vs0, a, h, us, hl, hv => by
    match us, hl with
    | u :: us, hl =>
      obtain ⟨h1, h2⟩ := h
      have hl' : us.length = os.length := by simpa using hl
      have hv' : ∀ (j : Nat) (c : Value), ss[j]? = some (Spec.val c) → j < os.length → us[j]? = some c := fun j c hj hjl => by have := hv (j + 1) c (by simpa using hj) (by simpa using hjl); simpa using this
      have h3 : wpInv P ops Q S specs tail os ss (vs0 ++ [u]) (a.put o.dst u) := by
        cases s with
        | val c =>
          have : u = c := by have := hv 0 c rfl (by simp); simpa using this
          subst this; exact h2
        | rel p => exact h2 u
        | new own => exact h2 u
      obtain ⟨r1, r2, r3⟩ := wpInv_all os ss (vs0 ++ [u]) (a.put o.dst u) h3 us hl' hv'
      refine ⟨?_, by simp; omega, ?_⟩
      · intro i o' s' ho hs
        cases i with
        | zero =>
          simp only [List.getElem?_cons_zero, Option.some.injEq] at ho hs
          subst ho hs
          simpa [putAll] using h1
        | succ i =>
          have := r1 i o' s' (by simpa using ho) (by simpa using hs)
          simpa [putAll, List.append_assoc] using this
      · intro w hS hh ha
        have := r3 w hS (by simpa [List.append_assoc] using hh) (by simpa [List.append_assoc] using ha)
        simpa [putAll] using this

/-- Whether these have come up: the start's frame with their values put in. -/
def putIf : List Oper → List Value → List Bool → Act → Act
  | o :: os, v :: vs, b :: bs, a => putIf os vs bs (if b = true then a.put o.dst v else a)
  | _, _, _, a => a

def Agree (t : Tmp) (a b : Act) : Prop := a.tmps[t]? = b.tmps[t]? ∧ a.tmps.size = b.tmps.size

theorem put_size (a : Act) (d : Option Tmp) (v : Value) : (a.put d v).tmps.size = a.tmps.size := by cases d <;> simp [Act.put]
theorem put_defers_same (a : Act) (d : Option Tmp) (v : Value) : (a.put d v).defers = a.defers := by cases d <;> simp [Act.put]

theorem Agree.put {t : Tmp} {a b : Act} (h : Agree t a b) (d : Option Tmp) (v : Value) : Agree t (a.put d v) (b.put d v) := by
  refine ⟨?_, by rw [put_size, put_size]; exact h.2⟩
  cases d with
  | none => exact h.1
  | some d => simp only [Act.put, Array.getElem?_setIfInBounds]; rw [h.1, h.2]
theorem Agree.left {t : Tmp} {a b : Act} (h : Agree t a b) {d : Option Tmp} (hd : d ≠ some t) (v : Value) : Agree t (a.put d v) b := by
  refine ⟨?_, by rw [put_size]; exact h.2⟩
  cases d with
  | none => exact h.1
  | some d =>
    have hne : d ≠ t := fun e => hd (by rw [e])
    simp only [Act.put, Array.getElem?_setIfInBounds_ne hne]; exact h.1
theorem Agree.symm {t : Tmp} {a b : Act} (h : Agree t a b) : Agree t b a := ⟨h.1.symm, h.2.symm⟩
theorem Agree.right {t : Tmp} {a b : Act} (h : Agree t a b) {d : Option Tmp} (hd : d ≠ some t) (v : Value) : Agree t a (b.put d v) := (h.symm.left hd v).symm

theorem agree_main (t : Tmp) : ∀ (os : List Oper) (us : List Value) (bs : List Bool) (i : Nat) (a b : Act), Agree t a b → us.length = os.length → bs.length = os.length →
    (∀ (j : Nat) (o : Oper), os[j]? = some o → o.dst = some t → j < i ∧ bs[j]? = some true) → Agree t (putIf os us bs a) (putAll (os.take i) (us.take i) b) := by
  intro os
  induction os with
  | nil => intro us bs i a b h _ _ _; simpa [putIf, putAll] using h
  | cons o os ih =>
    intro us bs i a b h hu hb hh
    cases us with
    | nil => simp at hu
    | cons u us =>
    cases bs with
    | nil => simp at hb
    | cons c bs =>
    have hu' : us.length = os.length := by simpa using hu
    have hb' : bs.length = os.length := by simpa using hb
    cases i with
    | zero =>
      have hd : o.dst ≠ some t := fun e => absurd (hh 0 o rfl e).1 (by omega)
      have h1 : Agree t (if c = true then a.put o.dst u else a) b := by
        split
        · exact h.left hd u
        · exact h
      have := ih us bs 0 _ b h1 hu' hb' (fun j o' ho hd' => absurd (hh (j + 1) o' (by simpa using ho) hd').1 (by omega))
      simpa [putIf, putAll] using this
    | succ i =>
      have h1 : Agree t (if c = true then a.put o.dst u else a) (b.put o.dst u) := by
        split
        · exact h.put _ _
        · rename_i hc
          have hd : o.dst ≠ some t := fun e => hc (by simpa using (hh 0 o rfl e).2)
          exact h.right hd u
      have := ih us bs i _ _ h1 hu' hb' (fun j o' ho hd' => by
        have := hh (j + 1) o' (by simpa using ho) hd'
        exact ⟨by omega, by simpa using this.2⟩)
      simpa [putIf, putAll] using this

theorem putIf_put (d : Option Tmp) (v : Value) : ∀ (os : List Oper) (us : List Value) (bs : List Bool) (a : Act),
    (∀ o ∈ os, ∀ t, d = some t → o.dst ≠ some t) → (putIf os us bs a).put d v = putIf os us bs (a.put d v)
  | [], _, _, _, _ => by simp [putIf]
  | _ :: _, [], _, _, _ => by simp [putIf]
  | _ :: _, _ :: _, [], _, _ => by simp [putIf]
  | o :: os, u :: us, c :: bs, a, h => by
    simp only [putIf]
    rw [putIf_put d v os us bs _ (fun o ho => h o (List.mem_cons_of_mem _ ho))]
    congr 1
    split
    · exact (Act.put_comm a v u (h o (List.mem_cons_self ..))).symm
    · rfl

theorem putIf_set (v : Value) : ∀ (os : List Oper) (us : List Value) (bs : List Bool) (i : Nat) (o : Oper) (a : Act), us.length = os.length → bs.length = os.length →
    os[i]? = some o → bs[i]? = some false → (∀ (j : Nat) (o' : Oper), os[j]? = some o' → j ≠ i → ∀ t, o.dst = some t → o'.dst ≠ some t) →
    (putIf os us bs a).put o.dst v = putIf os (us.set i v) (bs.set i true) a := by
  intro os
  induction os with
  | nil => intro us bs i o a _ _ ho; simp at ho
  | cons o' os ih =>
    intro us bs i o a hu hb ho hc hd
    cases us with
    | nil => simp at hu
    | cons u us =>
    cases bs with
    | nil => simp at hb
    | cons c bs =>
    have hu' : us.length = os.length := by simpa using hu
    have hb' : bs.length = os.length := by simpa using hb
    cases i with
    | zero =>
      obtain rfl : o' = o := by simpa using ho
      obtain rfl : c = false := by simpa using hc
      simp only [putIf, List.set_cons_zero, if_true]
      rw [putIf_put _ _ _ _ _ _ (fun o ho t ht => ?_)]
      · simp
      · obtain ⟨j, hj, rfl⟩ := List.mem_iff_getElem.1 ho
        exact hd (j + 1) _ (by simp [hj]) (by omega) t ht
    | succ i =>
      simp only [putIf, List.set_cons_succ]
      exact ih us bs i o _ hu' hb' (by simpa using ho) (by simpa using hc) (fun j o'' hj hne => hd (j + 1) o'' (by simpa using hj) (by omega))

theorem putIf_all : ∀ (os : List Oper) (us : List Value) (bs : List Bool) (a : Act), us.length = os.length → bs.length = os.length → (∀ b ∈ bs, b = true) → putIf os us bs a = putAll os us a
  | [], _, _, _, _, _, _ => by simp [putIf, putAll]
  | o :: os, u :: us, c :: bs, a, hu, hb, h => by
    simp only [putIf, putAll]
    rw [if_pos (h c (List.mem_cons_self ..))]
    exact putIf_all os us bs _ (by simpa using hu) (by simpa using hb) (fun b hb => h b (List.mem_cons_of_mem _ hb))

theorem putIf_size : ∀ (os : List Oper) (us : List Value) (bs : List Bool) (a : Act), (putIf os us bs a).tmps.size = a.tmps.size ∧ (putIf os us bs a).defers = a.defers
  | [], _, _, _ => by simp [putIf]
  | _ :: _, [], _, _ => by simp [putIf]
  | _ :: _, _ :: _, [], _ => by simp [putIf]
  | o :: os, u :: us, c :: bs, a => by
    simp only [putIf]
    obtain ⟨h1, h2⟩ := putIf_size os us bs (if c = true then a.put o.dst u else a)
    rw [h1, h2]
    split
    · exact ⟨put_size .., put_defers_same ..⟩
    · exact ⟨rfl, rfl⟩
theorem putAll_size : ∀ (os : List Oper) (us : List Value) (a : Act), (putAll os us a).tmps.size = a.tmps.size ∧ (putAll os us a).defers = a.defers
  | [], _, _ => by simp [putAll]
  | _ :: _, [], _ => by simp [putAll]
  | o :: os, u :: us, a => by
    simp only [putAll]
    obtain ⟨h1, h2⟩ := putAll_size os us (a.put o.dst u)
    rw [h1, h2]
    exact ⟨put_size .., put_defers_same ..⟩

theorem put_inj {a b : Act} {d : Option Tmp} {u v : Value} (hs : a.tmps.size = b.tmps.size) (h : b.put d u = b.put d v) : a.put d u = a.put d v := by
  cases d with
  | none => rfl
  | some d =>
    rcases Nat.lt_or_ge d b.tmps.size with hd | hd
    · have h1 : (b.put (some d) u).tmps[d]? = (b.put (some d) v).tmps[d]? := by rw [h]
      simp [Act.put, hd] at h1
      rw [h1]
    · have : ∀ x, a.put (some d) x = a := fun x => by
        simp only [Act.put]
        rw [Array.setIfInBounds_eq_of_size_le (by omega)]
      rw [this, this]

theorem wanted_congr {o : Oper} {a b : Act} (h : ∀ t ∈ o.looksAt ops, a.tmps[t]? = b.tmps[t]?) :
    Region.wanted o (yielded ops a.tmps) = Region.wanted o (yielded ops b.tmps) := by
  unfold Region.wanted
  cases hg : o.guard with
  | none => rfl
  | some gw =>
    obtain ⟨g, want⟩ := gw
    have hy : yielded ops a.tmps g = yielded ops b.tmps g := by
      unfold yielded
      cases ht : (ops[g]?).bind (·.dst) with
      | none => rfl
      | some t =>
        have := h t (by simp [Oper.looksAt, hg, ht])
        simp only [Option.bind_some, this]
    simp only [hy]

theorem execOp_looks {o : Oper} (hs : ∀ cs b, o.op ≠ .select cs b) {a b : Act} (h : ∀ t ∈ o.looksAt ops, a.tmps[t]? = b.tmps[t]?) : execOp a.eval o = execOp b.eval o :=
  execOp_congr o hs fun x hx => by
    cases x with
    | tmp t =>
      have := h t (List.mem_append_left _ (List.mem_filterMap.2 ⟨.tmp t, by simpa using hx, rfl⟩))
      simp only [Act.eval, Array.getD_eq_getD_getElem?, this]
    | _ => rfl

theorem putIf_none : ∀ (n : Nat) (os : List Oper) (us : List Value) (a : Act), putIf os us (List.replicate n false) a = a
  | 0, os, us, a => by cases os <;> cases us <;> simp [putIf]
  | n + 1, [], us, a => by simp [putIf]
  | n + 1, o :: os, [], a => by simp [putIf]
  | n + 1, o :: os, u :: us, a => by
    rw [List.replicate_succ]
    simp only [putIf]
    rw [putIf_none n os us]
    simp

/-- What the kernel checks of the region: of the operations ahead of number n, and of the tail behind them. -/
def invOk (ops : Array Oper) (n : Nat) : Bool :=
  Region.noSelect ops && decide (n ≤ ops.size) &&
  (decide (n = ops.size) || (Region.sinkB .any ops n && Region.chainB .any ops n && decide (n < ops.size))) &&
  Region.seqB .any ops (ops.size - n) n (Array.replicate n true ++ Array.replicate (ops.size - n) false) &&
  (List.range n).all fun i => match ops[i]? with
    | some o => (o.after.all fun e => !Region.binds .any e || decide (e.on < i)) && (List.range n).all fun j => match (ops[j]?).bind (·.dst) with
      | some d => (decide (j = i) || o.dst != some d) && (!(o.looksAt ops).contains d || (decide (j < i) && depB o j))
      | none => true
    | none => true

theorem invOk_spec {n : Nat} (h : invOk ops n = true) :
    Region.noSelect ops = true ∧ n ≤ ops.size ∧ (decide (n = ops.size) || (Region.sinkB .any ops n && Region.chainB .any ops n && decide (n < ops.size))) = true ∧
    Region.seqB .any ops (ops.size - n) n (Array.replicate n true ++ Array.replicate (ops.size - n) false) = true ∧
    ∀ (i : Nat) (o : Oper), i < n → ops[i]? = some o →
      (∀ e ∈ o.after, Region.binds .any e = true → e.on < i) ∧
      ∀ (j : Nat) (o' : Oper) (d : Tmp), j < n → ops[j]? = some o' → o'.dst = some d → (j ≠ i → o.dst ≠ some d) ∧
        (d ∈ o.looksAt ops → j < i ∧ depB o j = true) := by
  simp only [invOk, Bool.and_eq_true] at h
  obtain ⟨⟨⟨⟨hs, hn⟩, ht⟩, hq⟩, h⟩ := h
  refine ⟨hs, by simpa using hn, by simpa using ht, hq, fun i o hin ho => ?_⟩
  have hi := List.all_eq_true.1 h i (List.mem_range.2 hin)
  rw [ho] at hi
  simp only [Bool.and_eq_true] at hi
  obtain ⟨he, hj⟩ := hi
  refine ⟨fun e hm hb => ?_, fun j o' d hjn hj' hd => ?_⟩
  · have := Array.all_eq_true_iff_forall_mem.1 he e hm
    rw [hb] at this
    simpa using this
  · have := List.all_eq_true.1 hj j (List.mem_range.2 hjn)
    rw [hj'] at this
    simp only [Option.bind_some, hd, Bool.and_eq_true, Bool.or_eq_true, decide_eq_true_eq, bne_iff_ne, Bool.not_eq_true', ne_eq] at this
    obtain ⟨h1, h2⟩ := this
    refine ⟨fun hne => h1.resolve_left hne, fun hm => ?_⟩
    rcases h2 with h2 | h2
    · have : (o.looksAt ops).contains d = true := by simpa using hm
      rw [h2] at this; cases this
    · exact h2

theorem wp_transfer {o : Oper} {F a : Act} {w : World} {s : Spec R} {K : Act → World → Prop} (he : execOp F.eval o = execOp a.eval o) (hsz : a.tmps.size = F.tmps.size)
    (hK : ∀ v w', s.ok v w' → s.fresh w v → R w w' → K (a.put o.dst v) w')
    (h : Oper.wp P o F w (fun b w' => ∃ v, b = F.put o.dst v ∧ s.ok v w' ∧ s.fresh w v ∧ R w w') (fun _ _ _ => False)) : Oper.wp P o a w K Q := by
  have go : ∀ v w', (∃ v', F.put o.dst v = F.put o.dst v' ∧ s.ok v' w' ∧ s.fresh w v' ∧ R w w') → K (a.put o.dst v) w' := fun v w' ⟨v', h1, h2, h3, h4⟩ => by
    rw [put_inj hsz h1]; exact hK v' w' h2 h3 h4
  unfold Oper.wp at *
  rw [he] at h
  generalize (execOp a.eval o).run P w = r at *
  cases r with
  | ok n w' =>
    cases n with
    | value v => exact go _ _ h
    | skip => exact go _ _ h
    | defer d =>
      obtain ⟨v, h1, _⟩ := h
      have h2 := congrArg Act.defers h1
      rw [put_defers_same, put_defers_same] at h2
      have := congrArg List.length h2
      simp at this
    | enter f args =>
      refine Calls.mono h (fun e w'' he => ?_)
      cases e with
      | returned v => exact go _ _ he
      | panicked c => exact he.elim
      | outgrown => obtain ⟨_, _, he⟩ := he; exact he.elim
    | row r args => exact Rows.mono h (fun v w'' he => go _ _ he)
    | _ => exact h.elim
  | halt x w' => cases x <;> first | exact h.elim | exact False.elim h

/-- Where the run stands: which of the first n have come up, with which values. -/
structure At (ops : Array Oper) (S : World → Prop) (specs : List (Spec R)) (n : Nat) (a0 : Act) (us : List Value) (bs : List Bool) (listed : Array Bool) (a : Act) (w : World) : Prop where
  ulen : us.length = n
  blen : bs.length = n
  act : a = putIf (ops.toList.take n) us bs a0
  listed_eq : listed = bs.toArray ++ Array.replicate (ops.size - n) false
  world : S w
  facts : ∀ (j : Nat) (s : Spec R) (v : Value), specs[j]? = some s → us[j]? = some v → bs[j]? = some true → s.ok v w
  vals : ∀ (j : Nat) (c : Value), specs[j]? = some (Spec.val c) → j < n → us[j]? = some c
  head : HeadInv .any ops n listed
  apart : ∀ (i j : Nat) (s t : Spec R) (u v : Value), i ≠ j → specs[i]? = some s → specs[j]? = some t → us[i]? = some u → us[j]? = some v → bs[i]? = some true → bs[j]? = some true → apartOf (some s) (some t) (some u) (some v)

theorem first_false : ∀ (bs : List Bool), (∀ b ∈ bs, b = true) ∨ ∃ i : Nat, bs[i]? = some false ∧ ∀ j : Nat, j < i → bs[j]? = some true
  | [] => .inl (by simp)
  | false :: bs => .inr ⟨0, rfl, fun j hj => absurd hj (by omega)⟩
  | true :: bs => by
    rcases first_false bs with h | ⟨i, h1, h2⟩
    · exact .inl (by simpa using h)
    · refine .inr ⟨i + 1, by simpa using h1, fun j hj => ?_⟩
      cases j with
      | zero => rfl
      | succ j => simpa using h2 j (by omega)

theorem listed_get {bs : List Bool} {m j : Nat} (d : Bool) (hj : j < bs.length) : (bs.toArray ++ Array.replicate m false).getD j d = bs[j] := by
  rw [Array.getD_eq_getD_getElem?, Array.getElem?_append_left (by simpa using hj)]; simp [hj]

theorem count_false_set : ∀ (bs : List Bool) (i : Nat), bs[i]? = some false → (bs.set i true).count false + 1 = bs.count false
  | [], i, h => by simp at h
  | b :: bs, 0, h => by
    obtain rfl : b = false := by simpa using h
    simp
  | b :: bs, i + 1, h => by
    have := count_false_set bs i (by simpa using h)
    simp only [List.set_cons_succ, List.count_cons]
    omega

theorem replicate_of_all {bs : List Bool} {n : Nat} (hl : bs.length = n) (h : ∀ b ∈ bs, b = true) : bs.toArray = Array.replicate n true := by
  have : bs = List.replicate n true := List.eq_replicate_iff.2 ⟨hl, h⟩
  rw [this]; simp

theorem inv_run {n : Nat} {a0 : Act} (hok : invOk ops n = true) (hSt : ∀ w w', S w → R w w' → S w')
    (h : wpInv P ops Q S specs (ops.toList.drop n) (ops.toList.take n) specs [] a0) :
    ∀ (k : Nat) (us : List Value) (bs : List Bool) (listed : Array Bool) (a : Act) (w : World), At ops S specs n a0 us bs listed a w → bs.count false = k →
      wpAny P .any ops Q (k + (ops.size - n)) listed a w := by
  obtain ⟨hsel, hn, ht, hseq, hops⟩ := invOk_spec hok
  have hlen : (ops.toList.take n).length = n := by simp; omega
  intro k
  induction k with
  | zero =>
    intro us bs listed a w hAt hc
    obtain ⟨hu, hb, rfl, rfl, hS, hf, hv, hH, hap⟩ := hAt
    have hall : ∀ b ∈ bs, b = true := fun b hb => by
      cases b with
      | true => rfl
      | false => exact absurd (List.count_pos_iff.2 hb) (by omega)
    rw [putIf_all _ _ _ _ (by rw [hu, hlen]) (by rw [hb, hlen]) hall, replicate_of_all hb hall, Nat.zero_add]
    obtain ⟨_, _, h3⟩ := wpInv_all _ _ _ _ h us (by rw [hu, hlen]) (fun j c hj hjl => hv j c hj (by rw [hlen] at hjl; exact hjl))
    have hW := h3 w hS (fun j => relAt_mk fun s v hs hv' => hf j s v hs (by simpa using hv') (by
      have hj : j < us.length := by have := (List.getElem?_eq_some_iff.1 hv').1; simpa using this
      have hjb : j < bs.length := by omega
      rw [List.getElem?_eq_getElem hjb, hall _ (List.getElem_mem hjb)])) (fun i j hij => by
      have hdone : ∀ k v, us[k]? = some v → bs[k]? = some true := fun k v hk => by
        have hj : k < us.length := (List.getElem?_eq_some_iff.1 hk).1
        have hjb : k < bs.length := by omega
        rw [List.getElem?_eq_getElem hjb, hall _ (List.getElem_mem hjb)]
      unfold apartAt
      rw [nthOf_eq, nthOf_eq, nthOf_eq, nthOf_eq, List.nil_append]
      cases h1 : specs[i]? with
      | none => exact apartOf_none_left
      | some s1 => cases h2 : specs[j]? with
        | none => exact apartOf_none_right
        | some s2 => cases h3 : us[i]? with
          | none => exact apartOf_none_u
          | some u1 => cases h4 : us[j]? with
            | none => exact apartOf_none_v
            | some u2 => exact hap i j s1 s2 u1 u2 hij h1 h2 h3 h4 (hdone _ _ h3) (hdone _ _ h4))
    have hdl : (ops.toList.drop n).length = ops.size - n := by simp
    rw [← hdl]
    rw [← hdl] at hseq
    exact wpAny_of_seq (ops.toList.drop n) n _ _ w (fun j => by simp [List.getElem?_drop]) hseq hW
  | succ k ih =>
    intro us bs listed a w hAt hc
    obtain ⟨hu, hb, rfl, rfl, hS, hf, hv, hH, hap⟩ := hAt
    rw [show k + 1 + (ops.size - n) = (k + (ops.size - n)) + 1 by omega]
    rcases first_false bs with hall | ⟨i0, hi0, hbef⟩
    · exfalso
      have : bs.count false = 0 := List.count_eq_zero.2 (fun hm => by have := hall _ hm; cases this)
      omega
    have hi0n : i0 < n := by have := (List.getElem?_eq_some_iff.1 hi0).1; omega
    have hun0 : (bs.toArray ++ Array.replicate (ops.size - n) false).getD i0 true = false := by
      rw [listed_get _ (by omega)]; have := (List.getElem?_eq_some_iff.1 hi0).2; exact this
    obtain ⟨o0, ho0⟩ : ∃ o, ops[i0]? = some o := ⟨_, Array.getElem?_eq_getElem (by omega)⟩
    have hr0 : i0 ∈ Region.ready .any ops (bs.toArray ++ Array.replicate (ops.size - n) false) := by
      refine mem_ready.2 ⟨hun0, o0, ho0, fun e he hbd => ?_⟩
      have hlt := (hops i0 o0 hi0n ho0).1 e he hbd
      rw [listed_get _ (by omega)]
      exact (List.getElem?_eq_some_iff.1 (hbef _ hlt)).2
    refine ⟨fun h0 => (by rw [h0] at hr0; cases hr0), fun i hi => ?_⟩
    have hin : i < n := by
      simp only [Bool.or_eq_true, Bool.and_eq_true, decide_eq_true_eq] at ht
      rcases ht with ht | ⟨⟨hs, hch⟩, hlt⟩
      · obtain ⟨_, oj, hoj, _⟩ := mem_ready.1 hi
        have := (Array.getElem?_eq_some_iff.1 hoj).1
        omega
      · rcases Nat.lt_or_ge i n with h' | h'
        · exact h'
        · exact absurd hi (tail_waits hs hch hlt hH _ i0 rfl hi0n hun0 i h')
    obtain ⟨hun, o, ho, hdeps⟩ := mem_ready.1 hi
    have hbi : bs[i]? = some false := by
      rw [listed_get _ (by omega)] at hun
      rw [List.getElem?_eq_getElem (by omega), hun]
    have hoT : (ops.toList.take n)[i]? = some o := by rw [List.getElem?_take_of_lt hin]; simpa using ho
    obtain ⟨h1, h2, _⟩ := wpInv_all _ _ _ _ h us (by rw [hu, hlen]) (fun j c hj hjl => hv j c hj (by rw [hlen] at hjl; exact hjl))
    obtain ⟨s, hs⟩ : ∃ s, specs[i]? = some s := ⟨_, List.getElem?_eq_getElem (by rw [hlen] at h2; omega)⟩
    have hobl := h1 i o s hoT hs
    obtain ⟨hback, hdst⟩ := hops i o hin ho
    have hagree : ∀ t ∈ o.looksAt ops, Agree t (putIf (ops.toList.take n) us bs a0) (putAll ((ops.toList.take n).take i) (us.take i) a0) := fun t htl => by
      refine agree_main t _ us bs i a0 a0 ⟨rfl, rfl⟩ (by rw [hu, hlen]) (by rw [hb, hlen]) (fun j o' ho' hd' => ?_)
      have hjn : j < n := by have := (List.getElem?_eq_some_iff.1 ho').1; omega
      have ho'' : ops[j]? = some o' := by rw [List.getElem?_take_of_lt hjn] at ho'; simpa using ho'
      obtain ⟨hlt, hd⟩ := (hdst j o' t hjn ho'' hd').2 htl
      refine ⟨hlt, ?_⟩
      obtain ⟨e, hmem, hq2⟩ := List.any_eq_true.1 hd
      replace hmem : e ∈ o.after := by simpa using hmem
      simp only [Bool.and_eq_true, decide_eq_true_eq] at hq2
      have := hdeps e hmem hq2.2
      rw [hq2.1, listed_get _ (by omega)] at this
      rw [List.getElem?_eq_getElem (by omega), this]
    have hnos := Region.noSelect_spec hsel i o
    have hex : execOp (putAll ((ops.toList.take n).take i) (us.take i) a0).eval o = execOp (putIf (ops.toList.take n) us bs a0).eval o :=
      execOp_looks (ops := ops) (fun cs b => hnos cs b ho) (fun t htl => (hagree t htl).1.symm)
    have hwant : Region.wanted o (yielded ops (putIf (ops.toList.take n) us bs a0).tmps) = Region.wanted o (yielded ops (putAll ((ops.toList.take n).take i) (us.take i) a0).tmps) :=
      wanted_congr (fun t htl => (hagree t htl).1)
    have hrel : ∀ j, depB o j = true → relAt specs ([] ++ us.take i) w j := fun j hj => relAt_mk fun s' v hs' hv' => by
      obtain ⟨e, hmem, hq2⟩ := List.any_eq_true.1 hj
      replace hmem : e ∈ o.after := by simpa using hmem
      simp only [Bool.and_eq_true, decide_eq_true_eq] at hq2
      have hlt := hback e hmem hq2.2
      have hl := hdeps e hmem hq2.2
      rw [hq2.1] at hlt hl
      rw [listed_get _ (by omega)] at hl
      refine hf j s' v hs' ?_ (by rw [List.getElem?_eq_getElem (by omega), hl])
      rw [List.nil_append, List.getElem?_take_of_lt hlt] at hv'
      exact hv'
    have hsize : (putIf (ops.toList.take n) us bs a0).tmps.size = (putAll ((ops.toList.take n).take i) (us.take i) a0).tmps.size := by
      rw [(putIf_size _ _ _ _).1, (putAll_size _ _ _).1]
    have hgo : ∀ v w', s.ok v w' → s.fresh w v → R w w' → wpAny P .any ops Q (k + (ops.size - n)) ((bs.toArray ++ Array.replicate (ops.size - n) false).setIfInBounds i true) ((putIf (ops.toList.take n) us bs a0).put o.dst v) w' := fun v w' hsv hfr hbel => by
      refine ih (us.set i v) (bs.set i true) _ _ w' ⟨by simpa using hu, by simpa using hb, ?_, ?_, hSt w w' hS hbel, ?_, ?_, hH.set hi hin, ?_⟩ (by have := count_false_set bs i hbi; omega)
      · refine putIf_set v _ us bs i o a0 (by rw [hu, hlen]) (by rw [hb, hlen]) hoT hbi (fun j o' ho' hne t hto hto' => ?_)
        have hjn : j < n := by have := (List.getElem?_eq_some_iff.1 ho').1; omega
        have ho'' : ops[j]? = some o' := by rw [List.getElem?_take_of_lt hjn] at ho'; simpa using ho'
        exact (hdst j o' t hjn ho'' hto').1 hne hto
      · rw [Array.setIfInBounds_append_left (by simp; omega)]; simp
      · intro j s' v' hs' hv' hb'
        by_cases hij : i = j
        · subst hij
          obtain rfl : s = s' := by rw [hs] at hs'; exact Option.some.inj hs'
          obtain rfl : v = v' := by
            rw [List.getElem?_set_self (by omega)] at hv'; exact Option.some.inj hv'
          exact hsv
        · rw [List.getElem?_set_ne hij] at hv' hb'
          exact Spec.ok_below (hf j s' v' hs' hv' hb') hbel
      · intro j c hj hjn
        by_cases hij : i = j
        · subst hij
          obtain rfl : s = .val c := by rw [hs] at hj; exact Option.some.inj hj
          rw [List.getElem?_set_self (by omega), show v = c from hsv]
        · rw [List.getElem?_set_ne hij]; exact hv j c hj hjn
      · intro j k s1 s2 u1 u2 hjk h1 h2 h3 h4 h5 h6
        by_cases hij : i = j
        · subst hij
          obtain rfl : s = s1 := by rw [hs] at h1; exact Option.some.inj h1
          obtain rfl : v = u1 := by rw [List.getElem?_set_self (by omega)] at h3; exact Option.some.inj h3
          rw [List.getElem?_set_ne hjk] at h4 h6
          exact apartOf_symm (apartOf_mk (hf k s2 u2 h2 h4 h6) hfr)
        · by_cases hik : i = k
          · subst hik
            obtain rfl : s = s2 := by rw [hs] at h2; exact Option.some.inj h2
            obtain rfl : v = u2 := by rw [List.getElem?_set_self (by omega)] at h4; exact Option.some.inj h4
            rw [List.getElem?_set_ne hij] at h3 h5
            exact apartOf_mk (hf j s1 u1 h1 h3 h5) hfr
          · rw [List.getElem?_set_ne hij] at h3 h5
            rw [List.getElem?_set_ne hik] at h4 h6
            exact hap j k s1 s2 u1 u2 hjk h1 h2 h3 h4 h5 h6
    unfold wpOp
    simp only [ho]
    have hO := hobl w hS hrel (fun b w' => ∃ v, b = (putAll ((ops.toList.take n).take i) (us.take i) a0).put o.dst v ∧ s.ok v w' ∧ s.fresh w v ∧ R w w') (fun b v w' h1 h2 h3 h4 => ⟨v, h1, h2, h3, h4⟩)
    rw [hwant]
    split
    · rename_i hw
      rw [if_pos hw] at hO
      exact .inl (wp_transfer hex hsize hgo hO)
    · rename_i hw
      rw [if_neg hw] at hO
      obtain ⟨v, h1, h2, h3, h4⟩ := hO
      rw [put_inj hsize h1]
      exact hgo v w h2 h3 h4

/-- The list of the first operations, so that it stands written out. -/
theorem wp_region_inv {id : Nat} {a : Act} {w : World} (n : Nat) (specs : List (Spec R)) (hm : P.follows .mixedOrders = true) (hok : invOk ops n = true) (hl : specs.length = n)
    (hSt : ∀ w w', S w → R w w' → S w') (hS : S w.drew) (h : wpInvI P ops Q S specs n 0 [] a) : (Code.region id ops true).wp P Q a w := by
  refine wp_region_any hm ?_
  obtain ⟨hsel, hn, ht, hseq, hops⟩ := invOk_spec hok
  have := inv_run hok hSt h n (specs.map fun | .val c => c | _ => undef) (List.replicate n false) (Array.replicate ops.size false) a w.drew ?_ (by simp)
  · rw [show n + (ops.size - n) = ops.size by omega] at this
    exact this
  · refine ⟨by simpa using hl, by simp, ?_, ?_, hS, ?_, ?_, ?_, ?_⟩
    · rw [putIf_none]
    · rw [show Array.replicate ops.size false = Array.replicate (n + (ops.size - n)) false by rw [show n + (ops.size - n) = ops.size by omega], ← Array.replicate_append_replicate]; simp
    · intro j s v _ _ hb
      rw [List.getElem?_replicate] at hb
      split at hb <;> simp at hb
    · intro j c hj hjn
      rw [List.getElem?_map, hj]; rfl
    · exact ⟨by simp, fun j oj hj hl => (by rw [getD_replicate_false] at hl; cases hl), fun t ht ht' => (by simp [ht'])⟩
    · intro i j s t u v _ _ _ _ _ h5
      rw [List.getElem?_replicate] at h5
      split at h5 <;> simp at h5

end

/-- A block that was allotted: it holds these cells. -/
def ptrOwn (v : Value) (b : Nat) : Prop := v = .pointer (some ⟨b, 0, none⟩)
def ptrS (B : Nat) (o : Obj) : Spec Blw := .new ptrOwn (fun v w => ∃ b, v = .pointer (some ⟨b, 0, none⟩) ∧ B ≤ b ∧ w.heap[b]? = some o) (fun v w w' ⟨b, h1, h0, h2⟩ hb => ⟨b, h1, h0, heap_step h2 hb⟩)
  (fun v w b ⟨c, h1, _, h2⟩ h3 => by unfold ptrOwn at h3; rw [h1] at h3; injection h3 with h3; injection h3 with h3; injection h3 with h3; subst h3; exact heap_lt h2)
theorem ptr_new {B : Nat} (w : World) (o : Obj) (hB : B ≤ w.heap.size) : ∃ b, Value.pointer (some ⟨w.heap.size, 0, none⟩) = .pointer (some ⟨b, 0, none⟩) ∧ B ≤ b ∧ (w.alloc o).heap[b]? = some o := ⟨_, rfl, hB, heap_new_at rfl⟩
theorem ptr_own (w : World) : ∀ b, ptrOwn (.pointer (some ⟨w.heap.size, 0, none⟩)) b → w.heap.size ≤ b := by
  intro b h; unfold ptrOwn at h; injection h with h; injection h with h; injection h with h; omega
def intsS (l : List Int) : Spec Blw := .rel (fun v w => IntsAt w v l) (fun _ _ _ h hb => h.below hb)
end Go.Proofs.Ytaenpcglaenlaaa
