/-
  The contracts of pack.Packer: what low, Words, Ints, Done do to a Packer.
-/
import Derived.Test.YtjcggkfinhkcoaaGreatKit
import Derived.StillTailTactics
namespace Go.Proofs.YtjcggkfinhkcoaaGreat
open Go.RowKit
set_option linter.unusedVariables false
set_option linter.unusedSimpArgs false

def byteV (b : UInt8) : Value := .int .u8 b.toNat
/-- A number's lowest bytes, the lowest first. -/
def lowBytes : Int → Nat → List UInt8
  | _, 0 => []
  | v, n + 1 => UInt8.ofNat (v % 256).toNat :: lowBytes (v / 256) n
theorem lowBytes_length : ∀ (n : Nat) (v : Int), (lowBytes v n).length = n
  | 0, _ => rfl
  | n + 1, v => by simp [lowBytes, lowBytes_length n]
def shr8 : Int → Nat → Int
  | v, 0 => v
  | v, n + 1 => shr8 (v / 256) n
theorem shr8_succ : ∀ (n : Nat) (v : Int), shr8 v (n + 1) = shr8 v n / 256
  | 0, _ => rfl
  | n + 1, v => by rw [shr8, shr8_succ n]; rfl
theorem lowBytes_succ : ∀ (n : Nat) (v : Int), lowBytes v (n + 1) = lowBytes v n ++ [UInt8.ofNat (shr8 v n % 256).toNat]
  | 0, v => rfl
  | n + 1, v => by rw [lowBytes, lowBytes_succ n]; rfl
theorem shr8_bd : ∀ (n : Nat) (v : Int), 0 ≤ v → v ≤ 18446744073709551615 → 0 ≤ shr8 v n ∧ shr8 v n ≤ 18446744073709551615
  | 0, v, h0, h1 => ⟨h0, h1⟩
  | n + 1, v, h0, h1 => shr8_bd n (v / 256) (by omega) (by omega)
theorem byteV_of (x : Int) : Value.int .u8 (x % 256) = byteV (UInt8.ofNat (x % 256).toNat) := by
  have h : (x % 256).toNat < 256 := by omega
  simp only [byteV, UInt8.toNat_ofNat', Nat.mod_eq_of_lt h]
  congr 1; omega
theorem u8_wrap (x : Int) : IntKind.u8.wrap x = x % 256 := by simp [IntKind.wrap, IntKind.bits, IntKind.signed]

/-- A Packer lies in block p: its error, and the bytes that it has. -/
def PackAt (w : World) (p : Nat) (e : Int) (l : List UInt8) : Prop :=
  ∃ vb, w.heap[p]? = some (.cells #[.int .i64 e, vb] 162) ∧ w.ownsRow p 5 1 vb l.length (l.map byteV)

theorem own_ne {w : World} {base e n p : Nat} {v : Value} {xs : List Value} {cs : Array Value} {T : TypeId} {fr : Nat × Nat} (h : w.ownsRow base e 1 v n xs) (hp : w.heap[p]? = some (.cells cs T fr)) (hT : e ≠ T) : v.ownBlock ≠ some p := by
  rcases h.2 with ⟨rfl, _⟩ | ⟨g, cap, cur, rfl, _, hg, _⟩
  · simp [Value.ownBlock]
  · simp only [Value.ownBlock]
    intro e1
    obtain rfl : g = p := by simpa using e1
    rw [hg] at hp
    simp at hp
    exact hT hp.2.1

theorem PackAt.lt {w : World} {p : Nat} {e : Int} {l : List UInt8} (h : PackAt w p e l) : p < w.heap.size := by
  obtain ⟨vb, h1, _⟩ := h; exact heap_lt h1
theorem PackAt.keep {w w' : World} {p : Nat} {e : Int} {l : List UInt8} (h : PackAt w p e l) (hb : Below w.heap.size w w') : PackAt w' p e l := by
  obtain ⟨vb, h1, h2⟩ := h
  exact ⟨vb, heap_step h1 hb, h2.kept (row := none) ⟨hb.os, hb.tape, hb.output, hb.size, fun k hk _ => hb.block k hk⟩ (by cases h : vb.ownBlock <;> simp)⟩
theorem pack_new (w : World) : PackAt (w.alloc (.cells #[.int .i64 0, .slice none 0 0] 162)) w.heap.size 0 [] := ⟨_, heap_alloc_new _ _, World.ownsRow_nil _ _ _ _⟩

/-- The block in which a Packer's bytes lie. -/
def RowOf (w : World) (p k : Nat) : Prop := ∃ vb, w.cell? ⟨p, 1, none⟩ = some vb ∧ vb.ownBlock = some k
/-- Of what was there a Packer's own two blocks alone may have changed; its bytes lie where they lay, or in a new block. -/
structure PackStep (p : Nat) (w w' : World) : Prop where
  os : w'.os = w.os
  tape : w'.tape = w.tape
  output : w'.output = w.output
  size : w.heap.size ≤ w'.heap.size
  block : ∀ k, k < w.heap.size → k ≠ p → ¬ RowOf w p k → w'.heap[k]? = w.heap[k]?
  row : ∀ k, RowOf w' p k → RowOf w p k ∨ w.heap.size ≤ k
theorem PackStep.refl (p : Nat) (w : World) : PackStep p w w := ⟨rfl, rfl, rfl, Nat.le_refl _, fun _ _ _ _ => rfl, fun _ h => .inl h⟩
theorem PackStep.trans {p : Nat} {a b c : World} (h : PackStep p a b) (k : PackStep p b c) : PackStep p a c :=
  ⟨k.os.trans h.os, k.tape.trans h.tape, k.output.trans h.output, Nat.le_trans h.size k.size,
    fun i hi hp hr => (k.block i (Nat.lt_of_lt_of_le hi h.size) hp (fun hr' => (h.row i hr').elim hr (fun h' => by omega))).trans (h.block i hi hp hr),
    fun i hr => (k.row i hr).elim (h.row i) (fun h' => .inr (Nat.le_trans h.size h'))⟩
theorem PackStep.of_below {p : Nat} {w w' : World} (h : Below w.heap.size w w') (hp : p < w.heap.size) : PackStep p w w' :=
  ⟨h.os, h.tape, h.output, h.size, fun k hk _ _ => h.block k hk, fun k ⟨vb, h1, h2⟩ => .inl ⟨vb, (h.cell (p := ⟨p, 1, none⟩) hp) ▸ h1, h2⟩⟩
theorem PackAt.row {w : World} {p k : Nat} {e : Int} {l : List UInt8} (h : PackAt w p e l) (hr : RowOf w p k) : p < k ∧ k < w.heap.size := by
  obtain ⟨vb, h1, h2⟩ := h
  obtain ⟨vb', h3, h4⟩ := hr
  rw [cell_of_row w p _ _ _ _ h1] at h3
  obtain rfl : vb = vb' := by simpa using h3
  have := h2.lt k h4
  have hne : k ≠ p := fun e1 => own_ne h2 h1 (by decide) (e1 ▸ h4)
  omega
theorem PackStep.below {p : Nat} {w w' : World} {e : Int} {l : List UInt8} (h : PackStep p w w') (hP : PackAt w p e l) : Below p w w' :=
  ⟨h.os, h.tape, h.output, h.size, fun k hk => h.block k (by have := hP.lt; omega) (by omega) (fun hr => by have := hP.row hr; omega)⟩
/-- A block that is none of a Packer's. -/
def Free (w : World) (p b : Nat) : Prop := b < w.heap.size ∧ b ≠ p ∧ ¬ RowOf w p b
theorem Free.step {p b : Nat} {w w' : World} (h : Free w p b) (hs : PackStep p w w') : Free w' p b :=
  ⟨Nat.lt_of_lt_of_le h.1 hs.size, h.2.1, fun hr => (hs.row b hr).elim h.2.2 (fun h' => by have := h.1; omega)⟩
theorem Free.heap {p b : Nat} {w w' : World} (h : Free w p b) (hs : PackStep p w w') : w'.heap[b]? = w.heap[b]? := hs.block b h.1 h.2.1 h.2.2
theorem Free.new {w : World} {p : Nat} {e : Int} {l : List UInt8} (hP : PackAt w p e l) (o : Obj) : Free (w.alloc o) p w.heap.size := by
  refine ⟨by simp, by have := hP.lt; omega, fun hr => ?_⟩
  have := (hP.keep (bel_alloc (o := o) (Below.refl _ _) (Nat.le_refl _)))
  obtain ⟨vb, h1, h2⟩ := hr
  have h3 : RowOf w p w.heap.size := ⟨vb, by rw [← h1]; exact ((bel_alloc (o := o) (Below.refl _ w) (Nat.le_refl _)).cell (p := ⟨p, 1, none⟩) hP.lt).symm, h2⟩
  have := hP.row h3
  omega

theorem pack_put {wr w1 : World} {p : Nat} {e : Int} {vb v' : Value} {l bs : List UInt8} {o : Obj} (hblk : wr.heap[p]? = some (.cells #[.int .i64 e, vb] 162)) (hown : wr.ownsRow p 5 1 vb l.length (l.map byteV))
    (hown1 : w1.ownsRow p 5 1 v' (l.length + bs.length) (l.map byteV ++ bs.map byteV)) (hg : (wr.alloc o).grownBy w1 vb.ownBlock) (hv' : v'.ownBlock = vb.ownBlock ∨ ∃ g, v'.ownBlock = some g ∧ wr.heap.size ≤ g) :
    w1.heap[p]? = some (.cells #[.int .i64 e, vb] 162) ∧ PackAt (w1.setCell ⟨p, 1, none⟩ v') p e (l ++ bs) ∧ PackStep p wr (w1.setCell ⟨p, 1, none⟩ v') := by
  have hp := heap_lt hblk
  have h1 : w1.heap[p]? = some (.cells #[.int .i64 e, vb] 162) := by
    rw [hg.block p (by simp; omega) (fun h => own_ne hown hblk (by decide) h.symm), Below.heap_alloc _ _ _ hp]; exact hblk
  have h2 : (w1.setCell ⟨p, 1, none⟩ v').heap[p]? = some (.cells #[.int .i64 e, v'] 162) := by rw [set_heap h1]; rfl
  refine ⟨h1, ⟨v', h2, ?_⟩, ?_⟩
  · rw [List.length_append, List.map_append]
    exact hown1.kept (row := some p) ⟨rfl, rfl, rfl, by simp [World.setCell], fun k hk hne => set_heap_other _ (fun h => hne (by simp [h]))⟩ (.inr (own_ne hown1 h1 (by decide)))
  · have hsz := hg.size
    have hc : wr.cell? ⟨p, 1, none⟩ = some vb := by rw [cell_of_row wr p _ _ _ _ hblk]; rfl
    refine ⟨hg.os, hg.tape, hg.output, by simp [World.setCell] at hsz ⊢; omega, fun k hk hkp hr => ?_, fun k ⟨u, hu, hk⟩ => ?_⟩
    · rw [set_heap_other _ hkp, hg.block k (by simp; omega) (fun e1 => hr ⟨vb, hc, e1.symm⟩), Below.heap_alloc _ _ _ hk]
    · rw [cell_of_row _ p _ _ _ _ h2] at hu
      obtain rfl : v' = u := by simpa using hu
      rcases hv' with h' | ⟨g, h', hle⟩
      · exact .inl ⟨vb, hc, by rw [← h']; exact hk⟩
      · rw [h'] at hk; obtain rfl : g = k := by simpa using hk
        exact .inr hle

theorem info_u8 : (Tryz.prog.info? 5).map (fun i => (i.zero, i.size, i.bytes)) = some (some (.int .u8 0), 1, 1) := by kernel_rfl

set_option maxRecDepth 100000 in
set_option maxHeartbeats 1000000 in
theorem low_any (p n : Nat) (v e : Int) (l : List UInt8) (w : World) (hP : PackAt w p e l) (hv0 : 0 ≤ v) (hv1 : v ≤ 18446744073709551615) (hn : l.length + n ≤ 1000000) :
    Calls Tryz.prog 113 #[.pointer (some ⟨p, 0, none⟩), .int .u64 v, .int .i64 n] w (fun e' w' => e' = .returned (.tuple #[]) ∧ PackAt w' p e (l ++ lowBytes v n) ∧ PackStep p w w') := by
  obtain ⟨i0, hi, hz0, hz1, hz2⟩ := info_parts info_u8
  have HV := Lib.hid (And.intro hv0 hv1)
  have HP := Lib.hid hP
  have HN := Lib.hid hn
  have hnn : (n : Int) ≤ 1000000 := by omega
  clear hP hv0 hv1 hn
  go_enter Tryz.func113, Tryz.ntmps113
  go_wp2
  go_loopw [7, 1] (fun i x wr => ∃ (k : Nat) (X : Int), k ≤ n ∧ i = .int .i64 k ∧ x = .int .u64 X ∧ Hid (X = shr8 v k) ∧ (0 ≤ X ∧ X ≤ 18446744073709551615) ∧ Hid (PackAt wr p e (l ++ lowBytes v k)) ∧ PackStep p w wr) (fun i _ _ => n - (intOf i).toNat)
  case atStart => exact ⟨0, v, Nat.zero_le _, rfl, rfl, Lib.hid rfl, HV.out, Lib.hid (by simpa [lowBytes] using HP.out), PackStep.refl _ _⟩
  case round =>
    obtain ⟨k, X, hk, rfl, rfl, HX, hX, HPk, hnx⟩ := hrel
    by_cases hlt : k < n
    · obtain ⟨L, hL⟩ : ∃ L, L = l ++ lowBytes v k := ⟨_, rfl⟩
      rw [← hL] at HPk
      obtain ⟨vb, hblk, hown⟩ := HPk.out
      have c1 : wr.cell? ⟨p, 1, none⟩ = some vb := by rw [cell_of_row wr p _ _ _ _ hblk]; rfl
      have HB := Lib.hid hblk
      have HO := Lib.hid hown
      have hsz := heap_lt hblk
      have hlen : L.length ≤ 1000000 - 1 := by have := HN.out; rw [hL, List.length_append, lowBytes_length]; omega
      have HL := Lib.hid hL
      have HS := Lib.hid (lowBytes_succ k v)
      have HS2 := Lib.hid (shr8_succ k v)
      have b0 := Lib.hid (byteV_of X)
      clear hblk hown hL
      go_wp2_with (at_builtin; refine wpList_append_lies _ rfl (.tmp 13) (.tmp 16) 143 rfl p 5 i0 (.int .u8 0) 1 1 Tryz.underlying143 hi hz0 hz1 hz2 rfl (by decide) _ _ _ rfl (HO.out.alloc _) ⟨wr.heap.size, 0, none⟩ 1 1 [.int .u8 (X % 256)] rfl rfl ?c1 ?c2 (by decide) ?c3 ?c4 ?c5 (wr.heap.size + 1) ?c6 ?_)
      case c1 => exact one_cell _ _ _
      case c2 => simp [Value.oneCell']
      case c3 => unfold maxLen; omega
      case c4 => omega
      case c5 => simp; omega
      case c6 => simp
      intro g cp w1 hown1 hg hat hlt1
      rw [b0.out] at hown1
      obtain ⟨hblk1, hP', hbel⟩ := pack_put (bs := [UInt8.ofNat (X % 256).toNat]) HB.out HO.out hown1 hg (hat.elim (fun h => .inl h.symm) (fun h => .inr ⟨g, rfl, by omega⟩))
      have HP' := Lib.hid hP'
      have hbel' := hnx.trans hbel
      have d1 : w1.cell? ⟨p, 1, none⟩ = some vb := by rw [cell_of_row w1 p _ _ _ _ hblk1]; rfl
      have f1 := frozen_row (o := 1) hblk1
      clear hown1 hg hat hlt1 hblk1 hP' hbel b0
      go_wp2
      go_roundw
      case rel =>
        refine ⟨k + 1, _, by omega, by go_num, rfl, Lib.hid (by rw [HS2.out, ← HX.out]), by omega, Lib.hid ?_, hbel'⟩
        rw [HS.out, ← List.append_assoc, ← HL.out, ← HX.out]; exact HP'.out
      case measure => simp [intOf]; omega
    · have hkn : k = n := by omega
      subst hkn
      go_wp2
      go_end0
      exact ⟨rfl, HPk.out, hnx⟩

/-- A list of ints that lies in no block of the Packer's. -/
def IntsOut (w : World) (p : Nat) (v : Value) (l : List Int) : Prop := IntsAt w v l ∧ (l ≠ [] → ∃ b o n c, v = .slice (some ⟨b, o, none⟩) n c ∧ Free w p b)
theorem IntsOut.step {w w' : World} {p : Nat} {v : Value} {l : List Int} (h : IntsOut w p v l) (hs : PackStep p w w') : IntsOut w' p v l := by
  obtain ⟨⟨a, c, h1, h2, h2', h3⟩, h4⟩ := h
  refine ⟨⟨a, c, h1, h2, h2', fun hn => ?_⟩, fun hn => ?_⟩
  · obtain ⟨b, o, h5, h6, h7⟩ := h3 hn
    obtain ⟨b', o', n', c', h8, h9⟩ := h4 hn
    subst h1
    injection h8 with e1 e2 e3
    subst h5
    injection e1 with e1; injection e1 with e1 e4
    subst e1
    exact ⟨b, o, rfl, Nat.lt_of_lt_of_le h6 hs.size, fun j hj => (World.cell?_of_block (h9.heap hs)).trans (h7 j hj)⟩
  · obtain ⟨b, o, n, c, h5, h6⟩ := h4 hn
    exact ⟨b, o, n, c, h5, h6.step hs⟩
theorem ints_out_new {w : World} {p b c : Nat} {e : Int} {l : List Int} {bs : List UInt8} {cs : Array Value} {T : TypeId} {fr : Nat × Nat} (hP : PackAt w p e bs) (hk : w.heap.size = b) (hcs : cs = (l.map (Value.int .i64)).toArray) (hI : ∀ x ∈ l, -9223372036854775808 ≤ x ∧ x ≤ 9223372036854775807) (hlen : l.length ≤ c ∧ c ≤ 9223372036854775807) :
    IntsOut (w.alloc (.cells cs T fr)) p (.slice (some ⟨b, 0, none⟩) l.length c) l := by
  refine ⟨ints_new hk hcs hI hlen, fun _ => ⟨b, 0, _, _, rfl, ?_⟩⟩
  subst hk; exact Free.new hP _

def u64of (x : Int) : Int := x % 18446744073709551616
theorem u64_wrapd (x : Int) : IntKind.u64.wrap x = u64of x := by simp [IntKind.wrap, IntKind.bits, IntKind.signed, u64of]

def strOf (l : List UInt8) : ByteArray := ⟨l.toArray⟩
theorem strOfNums_bytes (l : List UInt8) : strOfNums (l.map fun b => (b.toNat : Int)) = strOf l := by
  have : ∀ (x y : ByteArray), x.data.toList = y.data.toList → x = y := fun x y h => by
    cases x; cases y; congr; exact Array.toList_inj.1 h
  refine this _ _ ?_
  rw [strOfNums_data]
  simp [strOf, Function.comp_def]

set_option maxRecDepth 100000 in
set_option maxHeartbeats 1000000 in
theorem done_ok (p : Nat) (l : List UInt8) (w : World) (hP : PackAt w p 0 l) :
    Calls Tryz.prog 103 #[.pointer (some ⟨p, 0, none⟩)] w (RetB w (.tuple #[.string (strOf l), .int .i64 0])) := by
  obtain ⟨vb, hblk, hown⟩ := hP
  have c0 : w.cell? ⟨p, 0, none⟩ = some (.int .i64 0) := by rw [cell_of_row w p _ _ _ _ hblk]; rfl
  have c1 : w.cell? ⟨p, 1, none⟩ = some vb := by rw [cell_of_row w p _ _ _ _ hblk]; rfl
  rcases hown.2 with ⟨rfl, hl⟩ | ⟨g, cap, cur, rfl, _, hg, _, _, _, htake⟩
  · have hl' : l = [] := List.eq_nil_of_length_eq_zero hl
    subst hl'
    have hcv := fun w => run_convert_bytes_nil (P := Tryz.prog) w 143 5 Tryz.underlying143 Tryz.underlying5 0 0 9 Tryz.underlying9
    have hs : ByteArray.empty = strOf [] := rfl
    clear hblk hown hl
    go_enter Tryz.func103, Tryz.ntmps103
    go_wp2
    go_ret2
    exact ⟨rfl, Below.refl _ _⟩
  · have hcv := run_convert_bytes_arg w 143 5 Tryz.underlying143 Tryz.underlying5 g 0 l.length cap (l.map fun b => (b.toNat : Int)) (by simp) (fun i hi => by
      rw [Nat.zero_add, cell_of_row w g _ _ _ _ hg]
      have h1 := congrArg (fun x => x[i]?) htake
      simp only [List.getElem?_take, Nat.mul_one, hi, if_true, List.getElem?_map] at h1
      rw [Array.getElem?_toList] at h1
      rw [h1]; simp [hi, byteV]) 9 Tryz.underlying9
    rw [strOfNums_bytes] at hcv
    clear hblk hown hg htake
    go_enter Tryz.func103, Tryz.ntmps103
    go_wp2
    go_ret2
    exact ⟨rfl, Below.refl _ _⟩
end Go.Proofs.YtjcggkfinhkcoaaGreat
