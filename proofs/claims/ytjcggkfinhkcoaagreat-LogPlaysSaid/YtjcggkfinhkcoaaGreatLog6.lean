/-
  The contract of a log's whole: the record that begins in the first of some blocks.
-/
import Derived.Test.YtjcggkfinhkcoaaGreatLog2
import Derived.Test.YtjcggkfinhkcoaaGreatUnpSmall
namespace Go.Proofs.YtjcggkfinhkcoaaGreat
open Go.RowKit
set_option linter.unusedVariables false
set_option linter.unusedSimpArgs false

/-- Where whole's Unpacker stands. -/
def UA (w0 : World) (u : Nat) (l : List UInt8) (k : Nat) (w : World) : Prop := ∃ s, UnpAt w u 0 s ∧ s.data.toList = l.drop k ∧ s.size + k = l.length ∧ Below w0.heap.size w0 w ∧ w0.heap.size ≤ u
theorem UA.go {w0 w w' : World} {u k m : Nat} {l : List UInt8} {s : ByteArray} (h1 : UnpAt w u 0 s) (h2 : s.data.toList = l.drop k) (h3 : s.size + k = l.length) (h4 : Below w0.heap.size w0 w) (h5 : w0.heap.size ≤ u) (hm : m ≤ s.size) (hU : UnpAt w' u 0 (s.extract m s.size)) (ho : Only u w w') : UA w0 u l (k + m) w' := by
  refine ⟨_, hU, ?_, by simp; omega, h4.trans ((ho.below (Nat.le_of_lt (heap_lt (show w.heap[u]? = _ from h1)))).mono h5), h5⟩
  rw [extract_list, ← List.drop_drop, ← h2, List.take_of_length_le (by simp)]
theorem ua_small {w0 w : World} {u k sz : Nat} {l : List UInt8} (h : UA w0 u l k w) (hz : sz = 4 ∨ sz = 2) (hk : k + sz ≤ l.length) (hl : l.length ≤ 1000) :
    Calls Tryz.prog 71 #[.pointer (some ⟨u, 0, none⟩), .int .i64 sz] w (fun e' w' => e' = .returned (.int .i64 (leVal ((l.drop k).take sz))) ∧ UA w0 u l (k + sz) w') := by
  obtain ⟨s, h1, h2, h3, h4, h5⟩ := h
  refine (usmall_some u sz s w h1 hz (by omega) (by omega)).mono ?_
  rintro e w1 ⟨rfl, hU, ho⟩
  exact ⟨by rw [h2], UA.go h1 h2 h3 h4 h5 (by omega) hU ho⟩
theorem ua_word {w0 w : World} {u k : Nat} {l : List UInt8} (h : UA w0 u l k w) (hk : k + 8 ≤ l.length) (hl : l.length ≤ 1000) :
    Calls Tryz.prog 70 #[.pointer (some ⟨u, 0, none⟩)] w (fun e' w' => (∃ x, e' = .returned (.int .u64 x)) ∧ UA w0 u l (k + 8) w') := by
  obtain ⟨s, h1, h2, h3, h4, h5⟩ := h
  refine (word_some u s w h1 (by omega) (by omega)).mono ?_
  rintro e w1 ⟨rfl, hU, ho⟩
  exact ⟨⟨_, rfl⟩, UA.go h1 h2 h3 h4 h5 (by omega) hU ho⟩
theorem UA.bel {w0 w : World} {u k : Nat} {l : List UInt8} (h : UA w0 u l k w) : Below w0.heap.size w0 w := by obtain ⟨s, _, _, _, h, _⟩ := h; exact h

/-- A number of two bytes in a block's head. -/
def num2 (b : ByteArray) (k : Nat) : Int := leVal (((b.extract 4 32).data.toList.drop k).take 2)
theorem num2_bd (b : ByteArray) (k : Nat) : 0 ≤ num2 b k ∧ num2 b k < 65536 := by
  unfold num2
  have h := leVal_bd (((b.extract 4 32).data.toList.drop k).take 2)
  have h2 : (256 : Int) ^ (((b.extract 4 32).data.toList.drop k).take 2).length ≤ 65536 := by
    have hl := List.length_take_le 2 ((b.extract 4 32).data.toList.drop k)
    have : (((b.extract 4 32).data.toList.drop k).take 2).length = 0 ∨ (((b.extract 4 32).data.toList.drop k).take 2).length = 1 ∨ (((b.extract 4 32).data.toList.drop k).take 2).length = 2 := by omega
    rcases this with e | e | e <;> (rw [e]; decide)
  omega
theorem num2_tail (b : ByteArray) : leVal ((b.extract 20 32).data.toList.take 2) = num2 b 16 := by
  unfold num2
  rw [extract_list, extract_list, List.drop_drop]
/-- The pieces of the first k blocks. -/
def catB (bs : List ByteArray) : Nat → ByteArray
  | 0 => ByteArray.empty
  | k + 1 => catB bs k ++ (bs.getD k ByteArray.empty).extract 32 (bs.getD k ByteArray.empty).size
theorem catB_size {bs : List ByteArray} (h : ∀ k, k < bs.length → (bs.getD k ByteArray.empty).size = 256) : ∀ k, k ≤ bs.length → (catB bs k).size = 224 * k
  | 0, _ => rfl
  | k + 1, hk => by
    have := catB_size h k (by omega)
    unfold catB
    rw [ByteArray.size_append, this, ByteArray.size_extract, h k (by omega)]; omega
def ofN (bs : List ByteArray) : Nat := (num2 (bs.getD 0 ByteArray.empty) 14).toNat
def lastN (bs : List ByteArray) : Nat := (num2 (bs.getD (ofN bs - 1) ByteArray.empty) 16).toNat
def recB (bs : List ByteArray) : ByteArray := (catB bs (ofN bs)).extract 0 (224 * ofN bs - 224 + lastN bs)
def wholeOk (g nb : Int) (bs : List ByteArray) : Prop := (1 ≤ ofN bs ∧ ofN bs ≤ bs.length) ∧ lastN bs ≤ 224 ∧ ((recB bs).size ≤ 3000 ∧ blks (recB bs).size = ofN bs) ∧ layL g nb (recB bs) = bs.take (ofN bs)
instance (g nb : Int) (bs : List ByteArray) : Decidable (wholeOk g nb bs) := by unfold wholeOk; infer_instance
def wholeR (g nb : Int) (bs : List ByteArray) : ByteArray × Nat := if wholeOk g nb bs then (recB bs, ofN bs) else (ByteArray.empty, 0)

set_option maxRecDepth 100000 in
set_option maxHeartbeats 8000000 in
theorem whole_any (g nb : Int) (v : Value) (bs : List ByteArray) (w : World) (h0 : 0 ≤ g ∧ g ≤ 18446744073709551615) (h1 : 0 ≤ nb ∧ nb < 4294967296) (hv : TextsAt w v bs) (hz : ∀ k, k < bs.length → (bs.getD k ByteArray.empty).size = 256) (hm : 1 ≤ bs.length ∧ bs.length ≤ 4096) :
    Calls Tryz.prog 29 #[.int .u64 g, .int .i64 nb, v] w (RetB w (.tuple #[.string (wholeR g nb bs).1, .int .i64 (wholeR g nb bs).2])) := by
  have HV := Lib.hid hv
  have HZ := Lib.hid hz
  obtain ⟨a, ca, rfl, -, hlen, hcl⟩ := hv
  obtain ⟨b, o, rfl, hbw, hcells⟩ := hcl (by intro h; rw [h] at hm; simp at hm)
  have HCL := Lib.hid hcells
  have HBW := Lib.hid hbw
  have hca : (bs.length : Int) ≤ ca := by omega
  have hmI : (bs.length : Int) ≤ 4096 ∧ (1 : Int) ≤ bs.length := by omega
  obtain ⟨m, hmm⟩ : ∃ m, m = bs.length := ⟨_, rfl⟩
  have HM := Lib.hid hmm
  have HNO := Lib.hid (fun (h : ¬ wholeOk g nb bs) => show wholeR g nb bs = (ByteArray.empty, 0) from if_neg h)
  have HYES := Lib.hid (fun (h : wholeOk g nb bs) => show wholeR g nb bs = (recB bs, ofN bs) from if_pos h)
  have b0 := hcells 0 (by omega)
  have hs0 := hz 0 (by omega)
  rw [Nat.add_zero] at b0
  obtain ⟨B0, hB0⟩ : ∃ x, x = bs.getD 0 ByteArray.empty := ⟨_, rfl⟩
  have HB0 := Lib.hid hB0
  rw [← hB0] at b0 hs0
  have hs0I : (32 : Int) ≤ B0.size := by omega
  have hs0N : 32 ≤ B0.size := by omega
  obtain ⟨l, hl⟩ : ∃ l, l = (B0.extract 4 32).data.toList := ⟨_, rfl⟩
  have hll : l.length = 28 := by rw [hl, Array.length_toList]; show (B0.extract 4 32).size = 28; rw [ByteArray.size_extract]; omega
  have HL := Lib.hid hll
  have HLE := Lib.hid hl
  have HSZ := Lib.hid (show (B0.extract 4 32).size ≤ 281474976710656 by rw [ByteArray.size_extract]; omega)
  have HSZ2 := Lib.hid (show (B0.extract 4 32).size = 28 by rw [ByteArray.size_extract]; omega)
  have HOF := Lib.hid (show leVal ((l.drop 14).take 2) = num2 B0 14 by unfold num2; rw [hl])
  have HNF := Lib.hid (show leVal ((l.drop 16).take 2) = num2 B0 16 by unfold num2; rw [hl])
  have HOFB := Lib.hid (num2_bd B0 14)
  have HNFB := Lib.hid (num2_bd B0 16)
  clear hz hlen hcl hbw hcells hm hs0 hB0 hl hll hmm
  go_enter Tryz.func29, Tryz.ntmps29
  go_wp2_with fail
  refine (from_any (B0.extract 4 32) _ HSZ.out).mono ?_
  rintro e w1 ⟨u, rfl, hu, hU, hb⟩
  have U0 := Lib.hid (show UA w u l 0 w1 from ⟨_, hU, by rw [HLE.out, List.drop_zero], by rw [HSZ2.out, HL.out], hb, hu⟩)
  clear hu hU hb
  go_wp2_with fail
  refine (ua_word U0.out (by rw [HL.out]; decide) (by rw [HL.out]; decide)).mono ?_
  rintro e w2 ⟨⟨x2, rfl⟩, hU⟩
  have U1 := Lib.hid hU; clear hU
  go_wp2_with fail
  refine (ua_small (sz := 4) U1.out (.inl rfl) (by rw [HL.out]; decide) (by rw [HL.out]; decide)).mono ?_
  rintro e w3 ⟨rfl, hU⟩
  have U2 := Lib.hid hU; clear hU
  go_wp2_with fail
  refine (ua_small (sz := 2) U2.out (.inr rfl) (by rw [HL.out]; decide) (by rw [HL.out]; decide)).mono ?_
  rintro e w4 ⟨rfl, hU⟩
  have U3 := Lib.hid hU; clear hU
  go_wp2_with fail
  refine (ua_small (sz := 2) U3.out (.inr rfl) (by rw [HL.out]; decide) (by rw [HL.out]; decide)).mono ?_
  rintro e w5 ⟨rfl, hU⟩
  have U4 := Lib.hid hU; clear hU
  rw [show (0 + 8 + 4 + 2) = 14 from rfl, HOF.out]
  obtain ⟨O, hO⟩ : ∃ O : Nat, num2 B0 14 = O := ⟨(num2 B0 14).toNat, by have := HOFB.out; omega⟩
  have HO := Lib.hid (show ofN bs = O by unfold ofN; rw [← HB0.out, hO]; rfl)
  rw [hO]
  clear hO
  by_cases g1 : 1 ≤ O ∧ O ≤ bs.length
  · obtain ⟨g2, g3⟩ := g1
    have hO1 : (1 : Int) ≤ O := by omega
    have hO2 : (O : Int) ≤ bs.length := by omega
    have HCS := Lib.hid (catB_size HZ.out)
    have HVW := Lib.hid (fun (w' : World) (hb : Below w.heap.size w w') (j : Nat) (hj : j < bs.length) => show w'.cell? ⟨b, o + j, none⟩ = some (.string (bs.getD j ByteArray.empty)) from (hb.cell (p := ⟨b, o + j, none⟩) HBW.out).trans (HCL.out j hj))
    have HX5 := Lib.hid U4.out.bel
    have hOca : (O : Int) ≤ ca := by omega
    clear b0
    go_wp2
    go_loopw [10, 42] (fun s x wr => ∃ k : Nat, k ≤ O ∧ x = .int .i64 k ∧ s = .string (catB bs k) ∧ wr = w5) (fun _ x _ => O - (intOf x).toNat)
    case atStart => exact ⟨0, Nat.zero_le _, rfl, rfl, rfl⟩
    case round =>
      obtain ⟨k, hk, rfl, rfl, rfl⟩ := hrel
      by_cases hlt : k < O
      · have hcell := HVW.out wr HX5.out k (by omega)
        have hks := HZ.out k (by omega)
        have hcs := HCS.out k (by omega)
        have HSUC := Lib.hid (show catB bs (k + 1) = catB bs k ++ (bs.getD k ByteArray.empty).extract 32 (bs.getD k ByteArray.empty).size from rfl)
        obtain ⟨Bk, hBk⟩ : ∃ x, x = bs.getD k ByteArray.empty := ⟨_, rfl⟩
        obtain ⟨Ck, hCk⟩ : ∃ x, x = catB bs k := ⟨_, rfl⟩
        rw [← hBk] at hcell hks HSUC
        rw [← hCk] at hcs HSUC ⊢
        have hB32 : 32 ≤ Bk.size := by omega
        have hcat : Ck.size + (Bk.extract 32 Bk.size).size ≤ 9223372036854775807 := by rw [ByteArray.size_extract]; omega
        clear hks hcs hBk hCk
        go_wp2
        go_roundw
        case rel => exact ⟨k + 1, hlt, by go_num, by rw [HSUC.out], by trivial⟩
        case measure => simp [intOf]; omega
      · have hkO : k = O := by omega
        have hCO : catB bs k = catB bs O := by rw [hkO]
        rw [hCO]
        clear hkO hCO hk
        go_wp2_with fail
        refine (ua_small (sz := 2) U4.out (.inr rfl) (by rw [HL.out]; decide) (by rw [HL.out]; decide)).mono ?_
        rintro e w6 ⟨rfl, hU⟩
        have HB6 := Lib.hid hU.bel
        rw [show (0 + 8 + 4 + 2 + 2) = 16 from rfl, HNF.out]
        clear hU
        by_cases hone : O = 1
        · have hone' : ¬ (1 : Int) < O := by omega
          obtain ⟨Nn, hNn⟩ : ∃ Nn : Nat, num2 B0 16 = Nn := ⟨(num2 B0 16).toNat, by have := HNFB.out; omega⟩
          have HLN := Lib.hid (show lastN bs = Nn by unfold lastN; rw [HO.out, hone, show 1 - 1 = 0 from rfl, ← HB0.out, hNn]; rfl)
          rw [hNn]
          clear hNn hone
          by_cases g4 : Nn ≤ 224
          · have g4I : ¬ (224 : Int) < Nn := by omega
            obtain ⟨S, hS⟩ : ∃ S, S = catB bs O := ⟨_, rfl⟩
            have hSz : S.size = 224 * O := by rw [hS]; exact HCS.out O (by omega)
            obtain ⟨X, hX⟩ : ∃ X : Nat, X = 224 * O - 224 + Nn := ⟨_, rfl⟩
            have hXI : (S.size : Int) - 224 + Nn = X := by omega
            have hXle : X ≤ S.size := by omega
            have HR := Lib.hid (show recB bs = S.extract 0 X by unfold recB; rw [HO.out, HLN.out, ← hS, ← hX])
            have hRz : (S.extract 0 X).size = X := by rw [ByteArray.size_extract]; omega
            rw [← hS]
            have hXb : X ≤ 1000000 := by omega
            have HXE := Lib.hid hX
            clear hS hX
            go_wp2_with fail
            (try rw [← HXE.out])
            obtain ⟨R, hR⟩ : ∃ R, R = S.extract 0 X := ⟨_, rfl⟩
            rw [← hR] at HR hRz ⊢
            refine (lay_any g nb R _ h0 h1 (by omega)).mono ?_
            rintro e w9 ⟨v9, rfl, ho, hb9⟩
            have HB9 := Lib.hid (chain HB6.out hb9)
            have hT := texts_of_own ho (fun x hx => by rw [layL_size g nb R x hx]; decide)
            have HLLEN := Lib.hid (layL_len g nb R)
            obtain ⟨a9, c9, rfl, -, -, hc9⟩ := hT
            have HC9 := Lib.hid hc9
            have HBK := Lib.hid (blks_bd (n := R.size) (by omega))
            obtain ⟨N9, hN9⟩ : ∃ n, n = blks R.size := ⟨_, rfl⟩
            rw [← hN9] at HLLEN HBK
            have HN9 := Lib.hid hN9
            have hl9 : ((layL g nb R).length : Int) = N9 := by have := HLLEN.out; omega
            rw [HLLEN.out]
            have hRI : (R.size : Int) = X := by omega
            clear ho hb9 hc9 hN9 hR hXI hSz
            by_cases g5 : R.size ≤ 3000
            · have g5I : ¬ (3000 : Int) < X := by omega
              by_cases g6 : N9 = O
              · obtain ⟨b9, o9, rfl, _, hcell9⟩ := HC9.out (fun h => by have h8 := HLLEN.out; have h9 := HBK.out; rw [h] at h8; simp at h8; omega)
                have HC := Lib.hid hcell9
                have HN9O := Lib.hid g6
                have g6I : ((N9 : Int) != O) = false := by simp [g6]
                have hN9I : (N9 : Int) ≤ bs.length := by omega
                clear hcell9 g6
                go_wp2
                go_loopw [87] (fun x wr => ∃ k : Nat, k ≤ N9 ∧ x = .int .i64 k ∧ Hid (∀ j, j < k → (layL g nb R).getD j ByteArray.empty = bs.getD j ByteArray.empty) ∧ wr = w9) (fun x _ => N9 - (intOf x).toNat)
                case atStart => exact ⟨0, Nat.zero_le _, rfl, Lib.hid (fun j hj => absurd hj (Nat.not_lt_zero _)), rfl⟩
                case round =>
                  obtain ⟨k, hk, rfl, HJ, rfl⟩ := hrel
                  by_cases hlt : k < N9
                  · have hA := HC.out k (by rw [HLLEN.out]; exact hlt)
                    have hB := HVW.out wr HB9.out k (by omega)
                    have hkm : (k : Int) < bs.length := by omega
                    by_cases hq : (layL g nb R).getD k ByteArray.empty = bs.getD k ByteArray.empty
                    · have HQ := Lib.hid hq
                      rw [hq] at hA
                      obtain ⟨Y, hY⟩ : ∃ Y, Y = bs.getD k ByteArray.empty := ⟨_, rfl⟩
                      rw [← hY] at hA hB
                      have hq1 : (Y.toList != Y.toList) = false := by simp
                      clear hq hY
                      go_wp2
                      go_roundw
                      case rel => exact ⟨k + 1, hlt, by go_num, Lib.hid (fun j hj => by
                        by_cases hjk : j < k
                        · exact HJ.out j hjk
                        · rw [show j = k by omega]; exact HQ.out), by trivial⟩
                      case measure => simp [intOf]; omega
                    · have hq1 : (((layL g nb R).getD k ByteArray.empty).toList != (bs.getD k ByteArray.empty).toList) = true := by
                        simp only [bne_iff_ne, ne_eq]
                        intro h
                        rw [ByteArray.toList_eq, ByteArray.toList_eq] at h
                        apply hq
                        have h2 : ((layL g nb R).getD k ByteArray.empty).data = (bs.getD k ByteArray.empty).data := Array.toList_inj.1 h
                        exact ByteArray.ext h2
                      have HRES := Lib.hid (HNO.out (fun h => hq (by
                        have h4 := h.2.2.2
                        rw [HR.out, HO.out] at h4
                        rw [h4, List.getD_eq_getElem?_getD, List.getElem?_take, if_pos (by have := HN9O.out; omega), ← List.getD_eq_getElem?_getD])))
                      have hq2 : (((layL g nb R).getD k ByteArray.empty).toList == (bs.getD k ByteArray.empty).toList) = false := by
                        rw [bne] at hq1; simpa using hq1
                      obtain ⟨Z, hZ⟩ : ∃ Z, Z = (layL g nb R).getD k ByteArray.empty := ⟨_, rfl⟩
                      obtain ⟨Y, hY⟩ : ∃ Y, Y = bs.getD k ByteArray.empty := ⟨_, rfl⟩
                      rw [← hZ] at hA hq1 hq2
                      rw [← hY] at hB hq1 hq2
                      clear hq HNO HYES hZ hY
                      go_wp2
                      go_ret2
                      exact ⟨by rw [HRES.out]; rfl, HB9.out⟩
                  · have HRES := Lib.hid (HYES.out ⟨by rw [HO.out]; exact ⟨g2, g3⟩, by rw [HLN.out]; exact g4, ⟨by rw [HR.out]; exact g5, by rw [HR.out, HO.out, ← HN9.out, HN9O.out]⟩, by
                      rw [HR.out, HO.out]
                      apply List.ext_getElem?
                      intro j
                      rw [List.getElem?_take]
                      by_cases hj : j < O
                      · rw [if_pos hj]
                        have h6 := HJ.out j (by have := HN9O.out; omega)
                        have e1 : j < (layL g nb R).length := by rw [HLLEN.out, HN9O.out]; exact hj
                        have e2 : j < bs.length := by omega
                        rw [List.getD_eq_getElem?_getD, List.getD_eq_getElem?_getD, List.getElem?_eq_getElem e1, List.getElem?_eq_getElem e2] at h6
                        rw [List.getElem?_eq_getElem e1, List.getElem?_eq_getElem e2]
                        exact congrArg some h6
                      · rw [if_neg hj, List.getElem?_eq_none (by rw [HLLEN.out, HN9O.out]; omega)]⟩)
                    clear HNO HYES
                    go_wp2
                    go_ret2
                    exact ⟨by rw [HRES.out, HR.out, HO.out]; rfl, HB9.out⟩
              · have g6I : ((N9 : Int) != O) = true := by simp; omega
                have HRES := Lib.hid (HNO.out (fun h => g6 (by have := h.2.2.1.2; rw [HR.out, HO.out] at this; rw [HN9.out]; exact this)))
                clear HNO HYES g6
                go_wp2
                go_ret2
                exact ⟨by rw [HRES.out]; rfl, HB9.out⟩
            · have g5I : (3000 : Int) < X := by omega
              have HRES := Lib.hid (HNO.out (fun h => g5 (by have := h.2.2.1.1; rw [HR.out] at this; exact this)))
              clear HNO HYES
              go_wp2
              go_ret2
              exact ⟨by rw [HRES.out]; rfl, HB9.out⟩
          · have g4I : (224 : Int) < Nn := by omega
            have HRES := Lib.hid (HNO.out (fun h => g4 (by have := h.2.1; rw [HLN.out] at this; exact this)))
            clear HNO HYES g4
            go_wp2
            go_ret2
            exact ⟨by rw [HRES.out]; rfl, HB6.out⟩
        · have hone' : (1 : Int) < O := by omega
          have hcell := HVW.out w6 HB6.out (O - 1) (by omega)
          have hks := HZ.out (O - 1) (by omega)
          obtain ⟨B1, hB1⟩ : ∃ x, x = bs.getD (O - 1) ByteArray.empty := ⟨_, rfl⟩
          have HB1 := Lib.hid hB1
          rw [← hB1] at hcell hks
          obtain ⟨P, hP⟩ : ∃ P : Nat, (O : Int) - 1 = P := ⟨O - 1, by omega⟩
          rw [show O - 1 = P by omega] at hcell
          have hPm : (P : Int) < bs.length := by omega
          have hB32 : 32 ≤ B1.size := by omega
          have hB32I : (32 : Int) ≤ B1.size := by omega
          have HZ1 := Lib.hid (show (B1.extract 20 32).size = 12 by rw [ByteArray.size_extract]; omega)
          clear hone hks hB1
          go_wp2_with fail
          refine (from_any (B1.extract 20 32) _ (by rw [HZ1.out]; decide)).mono ?_
          rintro e w7 ⟨u2, rfl, hu2, hU2, hb7⟩
          have HU2 := Lib.hid hU2
          have HB7 := Lib.hid (chain HB6.out hb7)
          have HU2L := Lib.hid (show w.heap.size ≤ u2 by have := HB6.out.size; omega)
          clear hu2 hU2 hb7 hcell
          go_wp2_with fail
          refine (usmall_some u2 2 _ _ HU2.out (.inr rfl) (by rw [HZ1.out]; decide) (by rw [HZ1.out]; decide)).mono ?_
          rintro e w8 ⟨rfl, hU3, ho3⟩
          rw [num2_tail]
          have HB8 := Lib.hid (HB7.out.trans ((ho3.below (Nat.le_of_lt (heap_lt (show w7.heap[u2]? = _ from HU2.out)))).mono HU2L.out))
          clear hU3 ho3
          have HN1B := Lib.hid (num2_bd B1 16)
          obtain ⟨Nn, hNn⟩ : ∃ Nn : Nat, num2 B1 16 = Nn := ⟨(num2 B1 16).toNat, by have := HN1B.out; omega⟩
          have HLN := Lib.hid (show lastN bs = Nn by unfold lastN; rw [HO.out, ← HB1.out, hNn]; rfl)
          rw [hNn]
          clear hNn
          by_cases g4 : Nn ≤ 224
          · have g4I : ¬ (224 : Int) < Nn := by omega
            obtain ⟨S, hS⟩ : ∃ S, S = catB bs O := ⟨_, rfl⟩
            have hSz : S.size = 224 * O := by rw [hS]; exact HCS.out O (by omega)
            obtain ⟨X, hX⟩ : ∃ X : Nat, X = 224 * O - 224 + Nn := ⟨_, rfl⟩
            have hXI : (S.size : Int) - 224 + Nn = X := by omega
            have hXle : X ≤ S.size := by omega
            have HR := Lib.hid (show recB bs = S.extract 0 X by unfold recB; rw [HO.out, HLN.out, ← hS, ← hX])
            have hRz : (S.extract 0 X).size = X := by rw [ByteArray.size_extract]; omega
            rw [← hS]
            have hXb : X ≤ 1000000 := by omega
            have HXE := Lib.hid hX
            clear hS hX
            go_wp2_with fail
            (try rw [← HXE.out])
            obtain ⟨R, hR⟩ : ∃ R, R = S.extract 0 X := ⟨_, rfl⟩
            rw [← hR] at HR hRz ⊢
            refine (lay_any g nb R _ h0 h1 (by omega)).mono ?_
            rintro e w9 ⟨v9, rfl, ho, hb9⟩
            have HB9 := Lib.hid (chain HB8.out hb9)
            have hT := texts_of_own ho (fun x hx => by rw [layL_size g nb R x hx]; decide)
            have HLLEN := Lib.hid (layL_len g nb R)
            obtain ⟨a9, c9, rfl, -, -, hc9⟩ := hT
            have HC9 := Lib.hid hc9
            have HBK := Lib.hid (blks_bd (n := R.size) (by omega))
            obtain ⟨N9, hN9⟩ : ∃ n, n = blks R.size := ⟨_, rfl⟩
            rw [← hN9] at HLLEN HBK
            have HN9 := Lib.hid hN9
            have hl9 : ((layL g nb R).length : Int) = N9 := by have := HLLEN.out; omega
            rw [HLLEN.out]
            have hRI : (R.size : Int) = X := by omega
            clear ho hb9 hc9 hN9 hR hXI hSz
            by_cases g5 : R.size ≤ 3000
            · have g5I : ¬ (3000 : Int) < X := by omega
              by_cases g6 : N9 = O
              · obtain ⟨b9, o9, rfl, _, hcell9⟩ := HC9.out (fun h => by have h8 := HLLEN.out; have h9 := HBK.out; rw [h] at h8; simp at h8; omega)
                have HC := Lib.hid hcell9
                have HN9O := Lib.hid g6
                have g6I : ((N9 : Int) != O) = false := by simp [g6]
                have hN9I : (N9 : Int) ≤ bs.length := by omega
                clear hcell9 g6
                go_wp2
                go_loopw [87] (fun x wr => ∃ k : Nat, k ≤ N9 ∧ x = .int .i64 k ∧ Hid (∀ j, j < k → (layL g nb R).getD j ByteArray.empty = bs.getD j ByteArray.empty) ∧ wr = w9) (fun x _ => N9 - (intOf x).toNat)
                case atStart => exact ⟨0, Nat.zero_le _, rfl, Lib.hid (fun j hj => absurd hj (Nat.not_lt_zero _)), rfl⟩
                case round =>
                  obtain ⟨k, hk, rfl, HJ, rfl⟩ := hrel
                  by_cases hlt : k < N9
                  · have hA := HC.out k (by rw [HLLEN.out]; exact hlt)
                    have hB := HVW.out wr HB9.out k (by omega)
                    have hkm : (k : Int) < bs.length := by omega
                    by_cases hq : (layL g nb R).getD k ByteArray.empty = bs.getD k ByteArray.empty
                    · have HQ := Lib.hid hq
                      rw [hq] at hA
                      obtain ⟨Y, hY⟩ : ∃ Y, Y = bs.getD k ByteArray.empty := ⟨_, rfl⟩
                      rw [← hY] at hA hB
                      have hq1 : (Y.toList != Y.toList) = false := by simp
                      clear hq hY
                      go_wp2
                      go_roundw
                      case rel => exact ⟨k + 1, hlt, by go_num, Lib.hid (fun j hj => by
                        by_cases hjk : j < k
                        · exact HJ.out j hjk
                        · rw [show j = k by omega]; exact HQ.out), by trivial⟩
                      case measure => simp [intOf]; omega
                    · have hq1 : (((layL g nb R).getD k ByteArray.empty).toList != (bs.getD k ByteArray.empty).toList) = true := by
                        simp only [bne_iff_ne, ne_eq]
                        intro h
                        rw [ByteArray.toList_eq, ByteArray.toList_eq] at h
                        apply hq
                        have h2 : ((layL g nb R).getD k ByteArray.empty).data = (bs.getD k ByteArray.empty).data := Array.toList_inj.1 h
                        exact ByteArray.ext h2
                      have HRES := Lib.hid (HNO.out (fun h => hq (by
                        have h4 := h.2.2.2
                        rw [HR.out, HO.out] at h4
                        rw [h4, List.getD_eq_getElem?_getD, List.getElem?_take, if_pos (by have := HN9O.out; omega), ← List.getD_eq_getElem?_getD])))
                      have hq2 : (((layL g nb R).getD k ByteArray.empty).toList == (bs.getD k ByteArray.empty).toList) = false := by
                        rw [bne] at hq1; simpa using hq1
                      obtain ⟨Z, hZ⟩ : ∃ Z, Z = (layL g nb R).getD k ByteArray.empty := ⟨_, rfl⟩
                      obtain ⟨Y, hY⟩ : ∃ Y, Y = bs.getD k ByteArray.empty := ⟨_, rfl⟩
                      rw [← hZ] at hA hq1 hq2
                      rw [← hY] at hB hq1 hq2
                      clear hq HNO HYES hZ hY
                      go_wp2
                      go_ret2
                      exact ⟨by rw [HRES.out]; rfl, HB9.out⟩
                  · have HRES := Lib.hid (HYES.out ⟨by rw [HO.out]; exact ⟨g2, g3⟩, by rw [HLN.out]; exact g4, ⟨by rw [HR.out]; exact g5, by rw [HR.out, HO.out, ← HN9.out, HN9O.out]⟩, by
                      rw [HR.out, HO.out]
                      apply List.ext_getElem?
                      intro j
                      rw [List.getElem?_take]
                      by_cases hj : j < O
                      · rw [if_pos hj]
                        have h6 := HJ.out j (by have := HN9O.out; omega)
                        have e1 : j < (layL g nb R).length := by rw [HLLEN.out, HN9O.out]; exact hj
                        have e2 : j < bs.length := by omega
                        rw [List.getD_eq_getElem?_getD, List.getD_eq_getElem?_getD, List.getElem?_eq_getElem e1, List.getElem?_eq_getElem e2] at h6
                        rw [List.getElem?_eq_getElem e1, List.getElem?_eq_getElem e2]
                        exact congrArg some h6
                      · rw [if_neg hj, List.getElem?_eq_none (by rw [HLLEN.out, HN9O.out]; omega)]⟩)
                    clear HNO HYES
                    go_wp2
                    go_ret2
                    exact ⟨by rw [HRES.out, HR.out, HO.out]; rfl, HB9.out⟩
              · have g6I : ((N9 : Int) != O) = true := by simp; omega
                have HRES := Lib.hid (HNO.out (fun h => g6 (by have := h.2.2.1.2; rw [HR.out, HO.out] at this; rw [HN9.out]; exact this)))
                clear HNO HYES g6
                go_wp2
                go_ret2
                exact ⟨by rw [HRES.out]; rfl, HB9.out⟩
            · have g5I : (3000 : Int) < X := by omega
              have HRES := Lib.hid (HNO.out (fun h => g5 (by have := h.2.2.1.1; rw [HR.out] at this; exact this)))
              clear HNO HYES
              go_wp2
              go_ret2
              exact ⟨by rw [HRES.out]; rfl, HB9.out⟩
          · have g4I : (224 : Int) < Nn := by omega
            have HRES := Lib.hid (HNO.out (fun h => g4 (by have := h.2.1; rw [HLN.out] at this; exact this)))
            clear HNO HYES g4
            go_wp2
            go_ret2
            exact ⟨by rw [HRES.out]; rfl, HB8.out⟩
  · have HRES := Lib.hid (HNO.out (fun h => g1 (by have := h.1; rw [HO.out] at this; exact this)))
    have hd : (O : Int) < 1 ∨ (¬ (O : Int) < 1 ∧ (bs.length : Int) < O) := by omega
    have HB5 := Lib.hid U4.out.bel
    clear g1 HNO HYES
    rcases hd with hd | ⟨hd1, hd2⟩
    · go_wp2
      go_ret2
      exact ⟨by rw [HRES.out]; rfl, HB5.out⟩
    · go_wp2
      go_ret2
      exact ⟨by rw [HRES.out]; rfl, HB5.out⟩
end Go.Proofs.YtjcggkfinhkcoaaGreat
