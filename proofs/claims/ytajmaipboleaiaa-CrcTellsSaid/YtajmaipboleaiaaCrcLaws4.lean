/-
  The walk of the law CrcTells.
-/
import Derived.Test.YtajmaipboleaiaaCrcRef
namespace Go.Proofs.Ytajmaipboleaiaa
open Go.RowKit
set_option linter.unusedVariables false
set_option linter.unusedSimpArgs false

theorem joinT_len : ∀ (l : List ByteArray), ((joinT l).length : Int) = (sizes l).sum
  | [] => rfl
  | s :: l => by
    have := joinT_len l
    simp only [joinT, sizes] at this ⊢
    simp only [List.flatMap_cons, List.length_append, List.map_cons, List.sum_cons, ← this, Array.length_toList]
    show ((s.size + _ : Nat) : Int) = _
    omega
theorem joinT_take_le (l : List ByteArray) (k : Nat) : (joinT (l.take k)).length ≤ (joinT l).length := by
  have h : joinT l = joinT (l.take k) ++ joinT (l.drop k) := by
    rw [← List.flatMap_append (f := fun s : ByteArray => s.data.toList) |> fun h => (show joinT (l.take k ++ l.drop k) = joinT (l.take k) ++ joinT (l.drop k) from h), List.take_append_drop]
  rw [h, List.length_append]; omega
theorem short_len {l : List ByteArray} (h : shortT 60 6000 l = true) : l.length ≤ 60 ∧ (joinT l).length ≤ 6000 := by
  unfold shortT at h
  rw [Bool.and_eq_true, decide_eq_true_eq, decide_eq_true_eq] at h
  have h1 := (roomL_le (sizes l) 6000 (by intro x hx; simp [sizes] at hx; obtain ⟨s, _, rfl⟩ := hx; omega) h.2).1
  rw [← joinT_len] at h1
  omega

set_option maxRecDepth 100000 in
set_option maxHeartbeats 4000000 in
theorem walkCrcTells (v : Value) (l : List ByteArray) (b : ByteArray) (w : World) (hv : TextsAt w v l) (hbs : b.size ≤ 9223372036854775807) :
    Calls Try.prog 3 #[v, .string b] w (BoolPost w true) := by
  have HV := Lib.hid hv
  obtain ⟨a, ca, rfl, hI, hlen, hc⟩ := hv
  have HC := Lib.hid hc
  have HI := Lib.hid hI
  obtain ⟨q, hq⟩ : ∃ q, q = shortT 60 6000 l := ⟨_, rfl⟩
  have HQ := Lib.hid hq
  clear hc hI hq
  go_enter Try.func3, Try.ntmps3
  go_wp2_with fail
  refine (short_any 60 6000 _ l _ HV.out (by omega) (by omega)).mono ?_
  rintro e w1 ⟨rfl, hb⟩
  rw [← HQ.out]
  have HB1 := Lib.hid hb
  clear hb
  cases q
  · go_wp2_with fail
    refine (alive_any _).mono ?_
    rintro e w9 ⟨rfl, hb⟩
    have HB := Lib.hid (chain HB1.out hb)
    clear hb
    go_wp2
    go_ret
    exact ⟨rfl, HB.out⟩
  · by_cases g1 : (3000 : Int) < b.size
    · go_wp2_with fail
      refine (alive_any _).mono ?_
      rintro e w9 ⟨rfl, hb⟩
      have HB := Lib.hid (chain HB1.out hb)
      clear hb
      go_wp2
      go_ret
      exact ⟨rfl, HB.out⟩
    · have hb3 : b.size ≤ 1000000 := by omega
      obtain ⟨t, er, ho, hro⟩ := opens_both b hb3
      have HO := Lib.hid ho
      have HRO := Lib.hid hro
      have hsl := short_len HQ.out.symm
      have HJ := Lib.hid hsl.2
      have hln : l.length ≤ 60 := hsl.1
      have HLN := Lib.hid (show l.length ≤ 1000000 by omega)
      have HB3 := Lib.hid hb3
      obtain ⟨qq, hqq⟩ : ∃ qq, qq = w1.heap.size := ⟨_, rfl⟩
      have HS1 := Lib.hid (show SS w qq [] (w1.alloc (.cells #[.int .u32 0] 28)) by rw [hqq]; exact SS.new HB1.out)
      have htt : (t.toList == t.toList) = true := by simp
      have hcc : ((closeS b).toList == (closeS b).toList) = true := by simp
      clear ho hro hsl hb3
      go_wp2_with fail
      rw [← hqq]
      clear hqq
      go_loopw [5, 7] (fun y i wr => ∃ (k : Nat) (A : ByteArray), k ≤ l.length ∧ i = .int .i64 k ∧ y = .string A ∧ A.size ≤ 6000 ∧ Hid (A.data.toList = joinT (l.take k)) ∧ Hid (SS w qq (joinT (l.take k)) wr)) (fun _ i _ => l.length - (intOf i).toNat)
      case atStart => exact ⟨0, ByteArray.empty, Nat.zero_le _, rfl, rfl, by decide, Lib.hid rfl, HS1⟩
      case round =>
        obtain ⟨k, A, hk, rfl, rfl, hA, HA, HS⟩ := hrel
        by_cases hlt : k < l.length
        · obtain ⟨bb, oo, rfl, hbw, hcl⟩ := HC.out (by intro h; simp [h] at hlt)
          have hx := (HS.out.bel.cell (p := ⟨bb, oo + k, none⟩) hbw).trans (hcl k hlt)
          have HT := Lib.hid (joinT_take hlt)
          have HLE := Lib.hid (joinT_take_le l (k + 1))
          obtain ⟨s, hs⟩ : ∃ s, s = l.getD k ByteArray.empty := ⟨_, rfl⟩
          rw [← hs] at hx HT
          have hAs : (A ++ s).data.toList = joinT (l.take (k + 1)) := by rw [ByteArray.data_append, Array.toList_append, HA.out, HT.out]
          have hsz : A.size + s.size ≤ 6000 := by
            have h1 := congrArg List.length hAs
            have h2 := HLE.out
            have h3 := HJ.out
            rw [Array.length_toList] at h1
            have h4 : (A ++ s).data.size = A.size + s.size := by show (A ++ s).size = _; exact ByteArray.size_append
            omega
          have hcat : A.size + s.size ≤ 9223372036854775807 := by omega
          have hszA : (A ++ s).size ≤ 6000 := by rw [ByteArray.size_append]; exact hsz
          have HSZ := Lib.hid hszA
          have HAS := Lib.hid hAs
          have HJ1 := Lib.hid (show joinT [s] = s.data.toList from joinT_one s)
          clear hs hcl hAs hszA
          go_wp2_with fail
          refine (add_ss (ls := [s]) (HS.out.step (bel_new _ _)) (texts_new (l := [s]) (by simp) (by rfl) (by intro s' hs; simp at hs; subst hs; omega) (by simp))).mono ?_
          rintro e w2 ⟨rfl, hs1⟩
          rw [HJ1.out, ← HT.out] at hs1
          have HS2 := Lib.hid hs1
          clear hs1
          go_wp2
          go_roundw
          case rel => exact ⟨k + 1, A ++ s, by omega, by go_num, rfl, HSZ.out, HAS, HS2⟩
          case measure => simp [intOf]; omega
        · have hkl : k = l.length := by omega
          subst hkl
          have hA9 := HA.out
          have hS9 := HS.out
          rw [List.take_length] at hA9 hS9
          have HA9 := Lib.hid hA9
          have HS9 := Lib.hid hS9
          have HAZ := Lib.hid (show A.size ≤ 9223372036854775807 by omega)
          clear hA9 hS9 hlt
          go_wp2_with fail
          refine (lent_texts _ l _ (HV.out.below HS9.out.bel) HLN.out).mono ?_
          rintro e w3 ⟨u, rfl, hu, hb⟩
          have HU3 := Lib.hid hu
          have HS3 := Lib.hid (HS9.out.step hb)
          obtain ⟨ug, uc, hue, _⟩ := hu
          subst hue
          clear hb
          go_wp2_with fail
          refine (HO.out _).mono ?_
          rintro e w4 ⟨rfl, hb⟩
          have HU4 := Lib.hid (HU3.out.below hb)
          have HS4 := Lib.hid (HS3.out.step hb)
          clear hb
          go_wp2_with fail
          refine (HRO.out _).mono ?_
          rintro e w5 ⟨rfl, hb⟩
          have HU5 := Lib.hid (HU4.out.below hb)
          have HS5 := Lib.hid (HS4.out.step hb)
          clear hb
          go_wp2_with fail
          refine (alive_any _).mono ?_
          rintro e w6 ⟨rfl, hb⟩
          have HU6 := Lib.hid (HU5.out.below hb)
          have HS6 := Lib.hid (HS5.out.step hb)
          clear hb
          go_wp2_with fail
          refine (cof_any _ l _ (HU6.out.texts HI.out)).mono ?_
          rintro e w7 ⟨rfl, hb⟩
          have HU7 := Lib.hid (HU6.out.below hb)
          have HS7 := Lib.hid (HS6.out.step hb)
          obtain ⟨X, hX⟩ : ∃ X, X = crcSum (joinT l) := ⟨_, rfl⟩
          rw [← hX]
          have HX := Lib.hid hX
          clear hb hX
          go_wp2_with fail
          refine (rsum_any A _ HAZ.out).mono ?_
          rintro e w8 ⟨rfl, rfl⟩
          rw [HA9.out, ← HX.out]
          go_wp2_with fail
          refine (value_at HS7.out.s).mono ?_
          rintro e w8 ⟨rfl, hb⟩
          rw [← HX.out]
          have HU8 := Lib.hid (HU7.out.below hb)
          have HS8 := Lib.hid (HS7.out.step hb)
          clear hb
          go_wp2_with fail
          refine (rsum_any A _ HAZ.out).mono ?_
          rintro e w9 ⟨rfl, rfl⟩
          rw [HA9.out, ← HX.out]
          go_wp2_with fail
          refine (close_any b _ HB3.out).mono ?_
          rintro e w10 ⟨rfl, hb⟩
          have HU10 := Lib.hid (HU8.out.below hb)
          have HS10 := Lib.hid (HS8.out.step hb)
          clear hb
          go_wp2_with fail
          refine (rclose_any b _ HB3.out).mono ?_
          rintro e w11 ⟨rfl, hb⟩
          have HU11 := Lib.hid (HU10.out.below hb)
          have HS11 := Lib.hid (HS10.out.step hb)
          clear hb
          go_wp2_with fail
          refine (stays_texts _ _ l _ HU11.out (HV.out.below HS11.out.bel) HI.out).mono ?_
          rintro e w12 ⟨rfl, hb⟩
          have HS12 := Lib.hid (HS11.out.step hb)
          clear hb
          go_wp2
          go_ret
          exact ⟨rfl, HS12.out.bel⟩
end Go.Proofs.Ytajmaipboleaiaa
