/-
  Plain arithmetic of the agg package; no program in sight.
-/
namespace Go.Proofs.Ytagpamgdgcghfaa

structure AggV where
  c : Int
  hi : Int
  lo : Int
  mn : Int
  mx : Int


def w64 (n : Int) : Int := (n + 9223372036854775808) % 18446744073709551616 - 9223372036854775808

def AggV.zero : AggV := ⟨0, 0, 0, 0, 0⟩
/-- Each field fits its kind. -/
def AggV.ok (a : AggV) : Prop :=
  (-9223372036854775808 ≤ a.c ∧ a.c ≤ 9223372036854775807) ∧ (-9223372036854775808 ≤ a.hi ∧ a.hi ≤ 9223372036854775807) ∧ (0 ≤ a.lo ∧ a.lo ≤ 18446744073709551615) ∧
  (-9223372036854775808 ≤ a.mn ∧ a.mn ≤ 9223372036854775807) ∧ (-9223372036854775808 ≤ a.mx ∧ a.mx ≤ 9223372036854775807)
def AggV.valid (a : AggV) : Bool := decide (1 ≤ a.c ∧ a.c ≤ 4611686018427387904 ∧ a.mn ≤ a.mx)

def aone (v : Int) : AggV := ⟨1, if v < 0 then -1 else 0, v % 18446744073709551616, v, v⟩

def aboth (a b : AggV) : AggV :=
  if a.c = 0 then b
  else ⟨if a.c < w64 (4611686018427387904 - b.c) then w64 (a.c + b.c) else 4611686018427387904, w64 (a.hi + b.hi + (a.lo + b.lo) / 18446744073709551616), (a.lo + b.lo) % 18446744073709551616, min a.mn b.mn, max a.mx b.mx⟩

def aof (l : List Int) : AggV := l.foldl (fun a x => aboth a (aone x)) AggV.zero
def amerge (l : List AggV) : AggV := l.foldl (fun a x => if x.valid then aboth a x else a) AggV.zero

def asum (a : AggV) : Int × Bool :=
  if a.hi = (if a.lo < 9223372036854775808 then 0 else -1) then (w64 a.lo, false) else if a.hi < 0 then (-9223372036854775808, true) else (9223372036854775807, true)
def amean (a : AggV) : Int := if a.valid then (if (asum a).2 then (asum a).1 else (asum a).1.tdiv a.c) else 0

theorem aof_snoc (l : List Int) (x : Int) : aof (l ++ [x]) = aboth (aof l) (aone x) := by simp [aof]
theorem amerge_snoc (l : List AggV) (x : AggV) : amerge (l ++ [x]) = if x.valid then aboth (amerge l) x else amerge l := by simp [amerge]

theorem w64_in (n : Int) : -9223372036854775808 ≤ w64 n ∧ w64 n ≤ 9223372036854775807 := by unfold w64; omega

theorem aone_ok (v : Int) (h : -9223372036854775808 ≤ v ∧ v ≤ 9223372036854775807) : (aone v).ok := by
  unfold aone AggV.ok; dsimp only; refine ⟨by omega, ?_, by omega, h, h⟩; split <;> omega
theorem aboth_ok (a b : AggV) (ha : a.ok) (hb : b.ok) : (aboth a b).ok := by
  unfold aboth; split
  · exact hb
  · unfold AggV.ok at *; dsimp only
    refine ⟨?_, w64_in _, by omega, by omega, by omega⟩
    split
    · exact w64_in _
    · omega
theorem zero_ok : AggV.zero.ok := by unfold AggV.zero AggV.ok; dsimp only; omega
theorem aof_ok (l : List Int) (h : ∀ x ∈ l, -9223372036854775808 ≤ x ∧ x ≤ 9223372036854775807) : (aof l).ok := by
  unfold aof
  suffices ∀ (l : List Int) (a : AggV), a.ok → (∀ x ∈ l, -9223372036854775808 ≤ x ∧ x ≤ 9223372036854775807) → (l.foldl (fun a x => aboth a (aone x)) a).ok from this l _ zero_ok h
  intro l
  induction l with
  | nil => intro a ha _; exact ha
  | cons x l ih => intro a ha h; exact ih _ (aboth_ok _ _ ha (aone_ok x (h x (by simp)))) (fun y hy => h y (by simp [hy]))
theorem amerge_ok (l : List AggV) (h : ∀ x ∈ l, x.ok) : (amerge l).ok := by
  unfold amerge
  suffices ∀ (l : List AggV) (a : AggV), a.ok → (∀ x ∈ l, x.ok) → (l.foldl (fun a x => if x.valid then aboth a x else a) a).ok from this l _ zero_ok h
  intro l
  induction l with
  | nil => intro a ha _; exact ha
  | cons x l ih =>
    intro a ha h
    refine ih _ ?_ (fun y hy => h y (by simp [hy]))
    dsimp only
    split
    · exact aboth_ok _ _ ha (h x (by simp))
    · exact ha

end Go.Proofs.Ytagpamgdgcghfaa
