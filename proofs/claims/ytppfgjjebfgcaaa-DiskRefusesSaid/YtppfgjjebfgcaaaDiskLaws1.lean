/-
  The walk of the law DiskRefuses.
-/
import Derived.Test.YtppfgjjebfgcaaaDiskAlive
namespace Go.Proofs.Ytppfgjjebfgcaaa
open Go.RowKit
set_option linter.unusedVariables false
set_option linter.unusedSimpArgs false

theorem n_any (b : Bool) (w : World) : Calls Try.prog 20 #[.bool b] w (RetB w (.int .i64 (if b = true then 1 else 0))) := by
  cases b
  · go_enter Try.func20, Try.ntmps20
    go_wp2
    go_ret
    exact ⟨rfl, Below.refl _ _⟩
  · go_enter Try.func20, Try.ntmps20
    go_wp2
    go_ret
    exact ⟨rfl, Below.refl _ _⟩
def dr1 : DV := (DV.fresh 4).spent.put 1 (fillB 113)
theorem dr1_write (at_ : Int) (data : ByteArray) : dr1.write at_ data = if data.size ≠ 256 then (dr1, 1) else if at_ < 0 ∨ 4 ≤ at_ then (dr1, 15) else (dr1.spent.put at_ data, 0) := by
  unfold DV.write
  rw [if_neg (show ¬ dr1.on = false by decide)]
  by_cases h1 : data.size ≠ 256
  · rw [if_pos h1, if_pos h1]
  · rw [if_neg h1, if_neg h1]
    have hb : dr1.blocks = 4 := rfl
    rw [hb]
    by_cases h2 : at_ < 0 ∨ 4 ≤ at_
    · rw [if_pos h2, if_pos h2]
    · rw [if_neg h2, if_neg h2, if_neg (show ¬ (dr1.armed = true ∧ dr1.left ≤ 0) from fun h => absurd h.1 (by decide))]
/-- What the disk is behind the cut, whatever it was. -/
theorem off_facts (d : DV) (h : d.on = true) (keep : List Int) : (∀ k s, (d.cut keep).write k s = (d.cut keep, 14)) ∧ (∀ k, (d.cut keep).read k = (ByteArray.empty, 14)) ∧ (d.cut keep).flush = (d.cut keep, 14) ∧ (d.cut keep).cutN = 0 ∧ (d.cut keep).blocks = d.blocks ∧ (d.cut keep).writes = d.writes := by
  have ho : (d.cut keep).on = false := by unfold DV.cut; rw [if_pos h]
  refine ⟨fun k s => if_pos ho, fun k => if_pos ho, if_pos ho, by unfold DV.cutN; rw [if_neg (by rw [ho]; simp)], by unfold DV.cut; rw [if_pos h], by unfold DV.cut; rw [if_pos h]⟩
theorem read_in (d : DV) (k : Int) (h : d.on = true) (h1 : 0 ≤ k) (h2 : k < d.blocks) : ∃ s, d.read k = (s, 0) := by
  unfold DV.read
  rw [if_neg (by rw [h]; simp), if_neg (by omega)]
  cases d.now k <;> exact ⟨_, rfl⟩
theorem read_beyond (d : DV) (k : Int) (h : d.on = true) (h1 : k < 0 ∨ d.blocks ≤ k) : d.read k = (ByteArray.empty, 15) := by
  unfold DV.read
  rw [if_neg (by rw [h]; simp), if_pos h1]
theorem blocks_cut (d : DV) (keep : List Int) : (d.cut keep).blocks = d.blocks := by unfold DV.cut; split <;> rfl
/-- The state behind the law's second write, and what is asked of it. -/
theorem refuses_facts (at_ : Int) (data : ByteArray) : ∃ (d2 : DV) (E : Int), dr1.write at_ data = (d2, E) ∧ d2.on = true ∧ d2.blocks = 4 ∧
    ((E = 0 ∧ data.size = 256 ∧ 0 ≤ at_ ∧ at_ < 4 ∧ d2.writes = 2 ∧ d2.waits.length = 2) ∨ ((E == 0) = false ∧ ¬ (data.size = 256 ∧ 0 ≤ at_ ∧ at_ < 4) ∧ d2.writes = 1 ∧ d2.waits.length = 1)) := by
  rw [dr1_write]
  by_cases h1 : data.size ≠ 256
  · rw [if_pos h1]; exact ⟨dr1, 1, rfl, rfl, rfl, .inr ⟨rfl, fun h => h1 h.1, rfl, rfl⟩⟩
  · rw [if_neg h1]
    by_cases h2 : at_ < 0 ∨ 4 ≤ at_
    · rw [if_pos h2]; exact ⟨dr1, 15, rfl, rfl, rfl, .inr ⟨rfl, fun h => by omega, rfl, rfl⟩⟩
    · rw [if_neg h2]; exact ⟨_, 0, rfl, rfl, rfl, .inl ⟨rfl, by omega, by omega, by omega, rfl, rfl⟩⟩

set_option maxRecDepth 100000 in
set_option maxHeartbeats 8000000 in
theorem walkDiskRefusesIn (at_ : Int) (data : ByteArray) (v : Value) (keep : List Int) (w : World) (hv : IntsAt w v keep) (h1 : data.size ≤ 300) (h2 : keep.length ≤ 10) (ha : I64 at_) :
    Calls Try.prog 5 #[.int .i64 at_, .string data, v] w (BoolPost w true) := by
  have HV := Lib.hid hv
  have HLT := Lib.hid (ints_lt hv)
  have HAT := Lib.hid ha
  obtain ⟨a, ca, rfl, _, hlen, _⟩ := hv
  have h1' : (data.size : Int) ≤ 300 := by omega
  have h2' : (keep.length : Int) ≤ 10 := by omega
  unfold I64 at ha
  have E1 := Lib.hid (show (DV.fresh 4).write 1 (fillB 113) = (dr1, 0) from write_ok rfl (fillB_size 113) ⟨by decide, by decide⟩ (by intro h; cases h))
  obtain ⟨d2, E, hw2, hon, hbl, hcase⟩ := refuses_facts at_ data
  have HW2 := Lib.hid hw2
  obtain ⟨o1, o2, o3, o4, o5, o6⟩ := off_facts d2 hon keep
  obtain ⟨d3, hd3⟩ : ∃ d3, d3 = d2.cut keep := ⟨_, rfl⟩
  rw [← hd3] at o1 o2 o3 o4 o5 o6
  have HC := Lib.hid hd3.symm
  have HW3 := Lib.hid (o1 1 (fillB 122))
  have HR3 := Lib.hid (o2 1)
  have HF3 := Lib.hid o3
  have HN3 := Lib.hid o4
  have HBL := Lib.hid (show (d3.cut [1]).blocks = 4 by rw [blocks_cut, o5, hbl])
  have HWB := Lib.hid (show 0 ≤ d3.writes ∧ d3.writes ≤ 1000000000000 by rw [o6]; rcases hcase with h | h <;> omega)
  have HON := Lib.hid hon
  have HBK := Lib.hid hbl
  have HCA := Lib.hid hcase
  clear hw2 hon hbl o1 o2 o3 o4 o5 o6 hd3 hcase
  go_enter Try.func5, Try.ntmps5
  go_wp2_with fail
  refine (new_any 4 w (by omega)).mono ?_
  rintro e w1 ⟨p, rfl, hd, hb⟩
  have HD1 := Lib.hid hd
  have HB1 := Lib.hid hb
  clear hd hb
  go_wp2_with fail
  refine (fill_any 113 _ (by omega)).mono ?_; rintro e w2 ⟨rfl, hb⟩; have HD2 := Lib.hid (HD1.out.step hb); have HB2 := Lib.hid (chain HB1.out hb); clear hb
  go_wp2_with fail
  refine (write_any 1 (fillB 113) HD2.out (by omega) (by unfold I64; omega) (by decide) (by rw [fillB_size]; decide)).mono ?_
  rintro e w3 ⟨rfl, hd, hs⟩
  rw [E1.out] at hd ⊢
  have HD3 := Lib.hid hd
  have HB3 := Lib.hid (HB2.out.trans (HD2.out.below hs))
  clear hd hs
  go_wp2_with fail
  refine (write_any at_ data HD3.out (by omega) HAT.out (by decide) (by omega)).mono ?_
  rintro e w4 ⟨rfl, hd, hs⟩
  rw [HW2.out] at hd ⊢
  have HD4 := Lib.hid hd
  have HB4 := Lib.hid (HB3.out.trans (HD3.out.below hs))
  clear hd hs
  rcases HCA.out with ⟨q1, q2, q3, q4, q5, q6⟩ | ⟨q1, q2, q3, q4⟩
  · obtain ⟨R, hR⟩ := read_in d2 at_ HON.out q3 (by rw [HBK.out]; exact q4)
    have HR := Lib.hid hR
    have HWN := Lib.hid q5
    have HWL := Lib.hid q6
    have q2' : (data.size : Int) = 256 := by omega
    subst q1
    clear q2 q5 q6 hR
    go_wp2_with fail
    refine (read_any at_ HD4.out HAT.out).mono ?_
    rintro e w5 ⟨rfl, hb⟩
    rw [HR.out]
    have HD5 := Lib.hid (HD4.out.step hb)
    have HB5 := Lib.hid (chain HB4.out hb)
    clear hb
    go_wp2_with fail
    refine (writes_any HD5.out).mono ?_
    rintro e w6 ⟨rfl, hb⟩
    rw [HWN.out]
    have HD6 := Lib.hid (HD5.out.step hb)
    have HB6 := Lib.hid (chain HB5.out hb)
    clear hb
    go_wp2_with fail
    refine (n_any _ _).mono ?_
    rintro e w7 ⟨rfl, hb⟩
    have HD7 := Lib.hid (HD6.out.step hb)
    have HB7 := Lib.hid (chain HB6.out hb)
    clear hb
    go_wp2_with fail
    refine (waiting_any HD7.out).mono ?_
    rintro e w8 ⟨rfl, hb⟩
    rw [HWL.out]
    have HD8 := Lib.hid (HD7.out.step hb)
    have HB8 := Lib.hid (chain HB7.out hb)
    clear hb
    go_wp2_with fail
    refine (n_any _ _).mono ?_
    rintro e w9 ⟨rfl, hb⟩
    have HD9 := Lib.hid (HD8.out.step hb)
    have HB9 := Lib.hid (chain HB8.out hb)
    clear hb
    go_wp2_with fail
    refine (cut_any _ keep HD9.out (out_arg HD9.out (HV.out.below HB9.out) HLT.out) (by omega)).mono ?_
    rintro e w10 ⟨rfl, hd, hs⟩
    rw [HC.out] at hd
    have HD10 := Lib.hid hd
    have HB10 := Lib.hid (HB9.out.trans (HD9.out.below hs))
    clear hd hs
    go_wp2_with fail
    refine (fill_any 122 _ (by omega)).mono ?_; rintro e w11 ⟨rfl, hb⟩; have HD11 := Lib.hid (HD10.out.step hb); have HB11 := Lib.hid (chain HB10.out hb); clear hb
    go_wp2_with fail
    refine (write_any 1 (fillB 122) HD11.out (by omega) (by unfold I64; omega) HWB.out (by rw [fillB_size]; decide)).mono ?_
    rintro e w12 ⟨rfl, hd, hs⟩
    rw [HW3.out] at hd ⊢
    have HD12 := Lib.hid hd
    have HB12 := Lib.hid (HB11.out.trans (HD11.out.below hs))
    clear hd hs
    go_wp2_with fail
    refine (read_any 1 HD12.out (by unfold I64; omega)).mono ?_
    rintro e w13 ⟨rfl, hb⟩
    rw [HR3.out]
    have HD13 := Lib.hid (HD12.out.step hb)
    have HB13 := Lib.hid (chain HB12.out hb)
    clear hb
    go_wp2_with fail
    refine (flush_any HD13.out (by omega) HWB.out).mono ?_
    rintro e w14 ⟨rfl, hd, hs⟩
    rw [HF3.out] at hd ⊢
    have HD14 := Lib.hid hd
    have HB14 := Lib.hid (HB13.out.trans (HD13.out.below hs))
    clear hd hs
    go_wp2_with fail
    refine (alive_any _).mono ?_
    rintro e w15 ⟨rfl, hb⟩
    have HD15 := Lib.hid (HD14.out.step hb)
    have HB15 := Lib.hid (chain HB14.out hb)
    clear hb
    go_wp2_with fail
    have HDa := Lib.hid (HD15.out.step (bel_new w15 (.cells #[.int .i64 1] 3)))
    have HBa := Lib.hid (chain HB15.out (bel_new w15 (.cells #[.int .i64 1] 3)))
    refine (cut_any _ [1] HDa.out (out_new (l := [1]) HD15.out rfl (by decide) (by decide)) (by omega)).mono ?_
    rintro e w16 ⟨rfl, hd, hs⟩
    rw [HN3.out]
    have HD16 := Lib.hid hd
    have HB16 := Lib.hid (HBa.out.trans (HDa.out.below hs))
    clear hd hs
    go_wp2_with fail
    refine (blocks_any HD16.out).mono ?_
    rintro e w17 ⟨rfl, hb⟩
    rw [HBL.out]
    have HB17 := Lib.hid (chain HB16.out hb)
    clear hb
    go_wp2
    go_ret
    exact ⟨rfl, HB17.out⟩
  · have HWN := Lib.hid q3
    have HWL := Lib.hid q4
    by_cases g1 : data.size = 256
    · have g1' : (data.size : Int) = 256 := by omega
      by_cases g2 : at_ < 0
      · have HR := Lib.hid (read_beyond d2 at_ HON.out (.inl g2))
        clear q2 q3 q4 g1
        go_wp2_with fail
        refine (read_any at_ HD4.out HAT.out).mono ?_
        rintro e w5 ⟨rfl, hb⟩
        rw [HR.out]
        have HD5 := Lib.hid (HD4.out.step hb)
        have HB5 := Lib.hid (chain HB4.out hb)
        clear hb
        go_wp2_with fail
        refine (writes_any HD5.out).mono ?_
        rintro e w6 ⟨rfl, hb⟩
        rw [HWN.out]
        have HD6 := Lib.hid (HD5.out.step hb)
        have HB6 := Lib.hid (chain HB5.out hb)
        clear hb
        go_wp2_with fail
        refine (n_any _ _).mono ?_
        rintro e w7 ⟨rfl, hb⟩
        have HD7 := Lib.hid (HD6.out.step hb)
        have HB7 := Lib.hid (chain HB6.out hb)
        clear hb
        go_wp2_with fail
        refine (waiting_any HD7.out).mono ?_
        rintro e w8 ⟨rfl, hb⟩
        rw [HWL.out]
        have HD8 := Lib.hid (HD7.out.step hb)
        have HB8 := Lib.hid (chain HB7.out hb)
        clear hb
        go_wp2_with fail
        refine (n_any _ _).mono ?_
        rintro e w9 ⟨rfl, hb⟩
        have HD9 := Lib.hid (HD8.out.step hb)
        have HB9 := Lib.hid (chain HB8.out hb)
        clear hb
        go_wp2_with fail
        refine (cut_any _ keep HD9.out (out_arg HD9.out (HV.out.below HB9.out) HLT.out) (by omega)).mono ?_
        rintro e w10 ⟨rfl, hd, hs⟩
        rw [HC.out] at hd
        have HD10 := Lib.hid hd
        have HB10 := Lib.hid (HB9.out.trans (HD9.out.below hs))
        clear hd hs
        go_wp2_with fail
        refine (fill_any 122 _ (by omega)).mono ?_; rintro e w11 ⟨rfl, hb⟩; have HD11 := Lib.hid (HD10.out.step hb); have HB11 := Lib.hid (chain HB10.out hb); clear hb
        go_wp2_with fail
        refine (write_any 1 (fillB 122) HD11.out (by omega) (by unfold I64; omega) HWB.out (by rw [fillB_size]; decide)).mono ?_
        rintro e w12 ⟨rfl, hd, hs⟩
        rw [HW3.out] at hd ⊢
        have HD12 := Lib.hid hd
        have HB12 := Lib.hid (HB11.out.trans (HD11.out.below hs))
        clear hd hs
        go_wp2_with fail
        refine (read_any 1 HD12.out (by unfold I64; omega)).mono ?_
        rintro e w13 ⟨rfl, hb⟩
        rw [HR3.out]
        have HD13 := Lib.hid (HD12.out.step hb)
        have HB13 := Lib.hid (chain HB12.out hb)
        clear hb
        go_wp2_with fail
        refine (flush_any HD13.out (by omega) HWB.out).mono ?_
        rintro e w14 ⟨rfl, hd, hs⟩
        rw [HF3.out] at hd ⊢
        have HD14 := Lib.hid hd
        have HB14 := Lib.hid (HB13.out.trans (HD13.out.below hs))
        clear hd hs
        go_wp2_with fail
        refine (alive_any _).mono ?_
        rintro e w15 ⟨rfl, hb⟩
        have HD15 := Lib.hid (HD14.out.step hb)
        have HB15 := Lib.hid (chain HB14.out hb)
        clear hb
        go_wp2_with fail
        have HDa := Lib.hid (HD15.out.step (bel_new w15 (.cells #[.int .i64 1] 3)))
        have HBa := Lib.hid (chain HB15.out (bel_new w15 (.cells #[.int .i64 1] 3)))
        refine (cut_any _ [1] HDa.out (out_new (l := [1]) HD15.out rfl (by decide) (by decide)) (by omega)).mono ?_
        rintro e w16 ⟨rfl, hd, hs⟩
        rw [HN3.out]
        have HD16 := Lib.hid hd
        have HB16 := Lib.hid (HBa.out.trans (HDa.out.below hs))
        clear hd hs
        go_wp2_with fail
        refine (blocks_any HD16.out).mono ?_
        rintro e w17 ⟨rfl, hb⟩
        rw [HBL.out]
        have HB17 := Lib.hid (chain HB16.out hb)
        clear hb
        go_wp2
        go_ret
        exact ⟨rfl, HB17.out⟩
      · have g3 : 4 ≤ at_ := by omega
        have HR := Lib.hid (read_beyond d2 at_ HON.out (.inr (by rw [HBK.out]; exact g3)))
        clear q2 q3 q4 g1
        go_wp2_with fail
        refine (read_any at_ HD4.out HAT.out).mono ?_
        rintro e w5 ⟨rfl, hb⟩
        rw [HR.out]
        have HD5 := Lib.hid (HD4.out.step hb)
        have HB5 := Lib.hid (chain HB4.out hb)
        clear hb
        go_wp2_with fail
        refine (writes_any HD5.out).mono ?_
        rintro e w6 ⟨rfl, hb⟩
        rw [HWN.out]
        have HD6 := Lib.hid (HD5.out.step hb)
        have HB6 := Lib.hid (chain HB5.out hb)
        clear hb
        go_wp2_with fail
        refine (n_any _ _).mono ?_
        rintro e w7 ⟨rfl, hb⟩
        have HD7 := Lib.hid (HD6.out.step hb)
        have HB7 := Lib.hid (chain HB6.out hb)
        clear hb
        go_wp2_with fail
        refine (waiting_any HD7.out).mono ?_
        rintro e w8 ⟨rfl, hb⟩
        rw [HWL.out]
        have HD8 := Lib.hid (HD7.out.step hb)
        have HB8 := Lib.hid (chain HB7.out hb)
        clear hb
        go_wp2_with fail
        refine (n_any _ _).mono ?_
        rintro e w9 ⟨rfl, hb⟩
        have HD9 := Lib.hid (HD8.out.step hb)
        have HB9 := Lib.hid (chain HB8.out hb)
        clear hb
        go_wp2_with fail
        refine (cut_any _ keep HD9.out (out_arg HD9.out (HV.out.below HB9.out) HLT.out) (by omega)).mono ?_
        rintro e w10 ⟨rfl, hd, hs⟩
        rw [HC.out] at hd
        have HD10 := Lib.hid hd
        have HB10 := Lib.hid (HB9.out.trans (HD9.out.below hs))
        clear hd hs
        go_wp2_with fail
        refine (fill_any 122 _ (by omega)).mono ?_; rintro e w11 ⟨rfl, hb⟩; have HD11 := Lib.hid (HD10.out.step hb); have HB11 := Lib.hid (chain HB10.out hb); clear hb
        go_wp2_with fail
        refine (write_any 1 (fillB 122) HD11.out (by omega) (by unfold I64; omega) HWB.out (by rw [fillB_size]; decide)).mono ?_
        rintro e w12 ⟨rfl, hd, hs⟩
        rw [HW3.out] at hd ⊢
        have HD12 := Lib.hid hd
        have HB12 := Lib.hid (HB11.out.trans (HD11.out.below hs))
        clear hd hs
        go_wp2_with fail
        refine (read_any 1 HD12.out (by unfold I64; omega)).mono ?_
        rintro e w13 ⟨rfl, hb⟩
        rw [HR3.out]
        have HD13 := Lib.hid (HD12.out.step hb)
        have HB13 := Lib.hid (chain HB12.out hb)
        clear hb
        go_wp2_with fail
        refine (flush_any HD13.out (by omega) HWB.out).mono ?_
        rintro e w14 ⟨rfl, hd, hs⟩
        rw [HF3.out] at hd ⊢
        have HD14 := Lib.hid hd
        have HB14 := Lib.hid (HB13.out.trans (HD13.out.below hs))
        clear hd hs
        go_wp2_with fail
        refine (alive_any _).mono ?_
        rintro e w15 ⟨rfl, hb⟩
        have HD15 := Lib.hid (HD14.out.step hb)
        have HB15 := Lib.hid (chain HB14.out hb)
        clear hb
        go_wp2_with fail
        have HDa := Lib.hid (HD15.out.step (bel_new w15 (.cells #[.int .i64 1] 3)))
        have HBa := Lib.hid (chain HB15.out (bel_new w15 (.cells #[.int .i64 1] 3)))
        refine (cut_any _ [1] HDa.out (out_new (l := [1]) HD15.out rfl (by decide) (by decide)) (by omega)).mono ?_
        rintro e w16 ⟨rfl, hd, hs⟩
        rw [HN3.out]
        have HD16 := Lib.hid hd
        have HB16 := Lib.hid (HBa.out.trans (HDa.out.below hs))
        clear hd hs
        go_wp2_with fail
        refine (blocks_any HD16.out).mono ?_
        rintro e w17 ⟨rfl, hb⟩
        rw [HBL.out]
        have HB17 := Lib.hid (chain HB16.out hb)
        clear hb
        go_wp2
        go_ret
        exact ⟨rfl, HB17.out⟩
    · have g1' : ((data.size : Int) == 256) = false := by simp; omega
      by_cases g2 : at_ < 0
      · have HR := Lib.hid (read_beyond d2 at_ HON.out (.inl g2))
        clear q2 q3 q4 g1
        go_wp2_with fail
        refine (read_any at_ HD4.out HAT.out).mono ?_
        rintro e w5 ⟨rfl, hb⟩
        rw [HR.out]
        have HD5 := Lib.hid (HD4.out.step hb)
        have HB5 := Lib.hid (chain HB4.out hb)
        clear hb
        go_wp2_with fail
        refine (writes_any HD5.out).mono ?_
        rintro e w6 ⟨rfl, hb⟩
        rw [HWN.out]
        have HD6 := Lib.hid (HD5.out.step hb)
        have HB6 := Lib.hid (chain HB5.out hb)
        clear hb
        go_wp2_with fail
        refine (n_any _ _).mono ?_
        rintro e w7 ⟨rfl, hb⟩
        have HD7 := Lib.hid (HD6.out.step hb)
        have HB7 := Lib.hid (chain HB6.out hb)
        clear hb
        go_wp2_with fail
        refine (waiting_any HD7.out).mono ?_
        rintro e w8 ⟨rfl, hb⟩
        rw [HWL.out]
        have HD8 := Lib.hid (HD7.out.step hb)
        have HB8 := Lib.hid (chain HB7.out hb)
        clear hb
        go_wp2_with fail
        refine (n_any _ _).mono ?_
        rintro e w9 ⟨rfl, hb⟩
        have HD9 := Lib.hid (HD8.out.step hb)
        have HB9 := Lib.hid (chain HB8.out hb)
        clear hb
        go_wp2_with fail
        refine (cut_any _ keep HD9.out (out_arg HD9.out (HV.out.below HB9.out) HLT.out) (by omega)).mono ?_
        rintro e w10 ⟨rfl, hd, hs⟩
        rw [HC.out] at hd
        have HD10 := Lib.hid hd
        have HB10 := Lib.hid (HB9.out.trans (HD9.out.below hs))
        clear hd hs
        go_wp2_with fail
        refine (fill_any 122 _ (by omega)).mono ?_; rintro e w11 ⟨rfl, hb⟩; have HD11 := Lib.hid (HD10.out.step hb); have HB11 := Lib.hid (chain HB10.out hb); clear hb
        go_wp2_with fail
        refine (write_any 1 (fillB 122) HD11.out (by omega) (by unfold I64; omega) HWB.out (by rw [fillB_size]; decide)).mono ?_
        rintro e w12 ⟨rfl, hd, hs⟩
        rw [HW3.out] at hd ⊢
        have HD12 := Lib.hid hd
        have HB12 := Lib.hid (HB11.out.trans (HD11.out.below hs))
        clear hd hs
        go_wp2_with fail
        refine (read_any 1 HD12.out (by unfold I64; omega)).mono ?_
        rintro e w13 ⟨rfl, hb⟩
        rw [HR3.out]
        have HD13 := Lib.hid (HD12.out.step hb)
        have HB13 := Lib.hid (chain HB12.out hb)
        clear hb
        go_wp2_with fail
        refine (flush_any HD13.out (by omega) HWB.out).mono ?_
        rintro e w14 ⟨rfl, hd, hs⟩
        rw [HF3.out] at hd ⊢
        have HD14 := Lib.hid hd
        have HB14 := Lib.hid (HB13.out.trans (HD13.out.below hs))
        clear hd hs
        go_wp2_with fail
        refine (alive_any _).mono ?_
        rintro e w15 ⟨rfl, hb⟩
        have HD15 := Lib.hid (HD14.out.step hb)
        have HB15 := Lib.hid (chain HB14.out hb)
        clear hb
        go_wp2_with fail
        have HDa := Lib.hid (HD15.out.step (bel_new w15 (.cells #[.int .i64 1] 3)))
        have HBa := Lib.hid (chain HB15.out (bel_new w15 (.cells #[.int .i64 1] 3)))
        refine (cut_any _ [1] HDa.out (out_new (l := [1]) HD15.out rfl (by decide) (by decide)) (by omega)).mono ?_
        rintro e w16 ⟨rfl, hd, hs⟩
        rw [HN3.out]
        have HD16 := Lib.hid hd
        have HB16 := Lib.hid (HBa.out.trans (HDa.out.below hs))
        clear hd hs
        go_wp2_with fail
        refine (blocks_any HD16.out).mono ?_
        rintro e w17 ⟨rfl, hb⟩
        rw [HBL.out]
        have HB17 := Lib.hid (chain HB16.out hb)
        clear hb
        go_wp2
        go_ret
        exact ⟨rfl, HB17.out⟩
      · by_cases g3 : 4 ≤ at_
        · have HR := Lib.hid (read_beyond d2 at_ HON.out (.inr (by rw [HBK.out]; exact g3)))
          clear q2 q3 q4 g1
          go_wp2_with fail
          refine (read_any at_ HD4.out HAT.out).mono ?_
          rintro e w5 ⟨rfl, hb⟩
          rw [HR.out]
          have HD5 := Lib.hid (HD4.out.step hb)
          have HB5 := Lib.hid (chain HB4.out hb)
          clear hb
          go_wp2_with fail
          refine (writes_any HD5.out).mono ?_
          rintro e w6 ⟨rfl, hb⟩
          rw [HWN.out]
          have HD6 := Lib.hid (HD5.out.step hb)
          have HB6 := Lib.hid (chain HB5.out hb)
          clear hb
          go_wp2_with fail
          refine (n_any _ _).mono ?_
          rintro e w7 ⟨rfl, hb⟩
          have HD7 := Lib.hid (HD6.out.step hb)
          have HB7 := Lib.hid (chain HB6.out hb)
          clear hb
          go_wp2_with fail
          refine (waiting_any HD7.out).mono ?_
          rintro e w8 ⟨rfl, hb⟩
          rw [HWL.out]
          have HD8 := Lib.hid (HD7.out.step hb)
          have HB8 := Lib.hid (chain HB7.out hb)
          clear hb
          go_wp2_with fail
          refine (n_any _ _).mono ?_
          rintro e w9 ⟨rfl, hb⟩
          have HD9 := Lib.hid (HD8.out.step hb)
          have HB9 := Lib.hid (chain HB8.out hb)
          clear hb
          go_wp2_with fail
          refine (cut_any _ keep HD9.out (out_arg HD9.out (HV.out.below HB9.out) HLT.out) (by omega)).mono ?_
          rintro e w10 ⟨rfl, hd, hs⟩
          rw [HC.out] at hd
          have HD10 := Lib.hid hd
          have HB10 := Lib.hid (HB9.out.trans (HD9.out.below hs))
          clear hd hs
          go_wp2_with fail
          refine (fill_any 122 _ (by omega)).mono ?_; rintro e w11 ⟨rfl, hb⟩; have HD11 := Lib.hid (HD10.out.step hb); have HB11 := Lib.hid (chain HB10.out hb); clear hb
          go_wp2_with fail
          refine (write_any 1 (fillB 122) HD11.out (by omega) (by unfold I64; omega) HWB.out (by rw [fillB_size]; decide)).mono ?_
          rintro e w12 ⟨rfl, hd, hs⟩
          rw [HW3.out] at hd ⊢
          have HD12 := Lib.hid hd
          have HB12 := Lib.hid (HB11.out.trans (HD11.out.below hs))
          clear hd hs
          go_wp2_with fail
          refine (read_any 1 HD12.out (by unfold I64; omega)).mono ?_
          rintro e w13 ⟨rfl, hb⟩
          rw [HR3.out]
          have HD13 := Lib.hid (HD12.out.step hb)
          have HB13 := Lib.hid (chain HB12.out hb)
          clear hb
          go_wp2_with fail
          refine (flush_any HD13.out (by omega) HWB.out).mono ?_
          rintro e w14 ⟨rfl, hd, hs⟩
          rw [HF3.out] at hd ⊢
          have HD14 := Lib.hid hd
          have HB14 := Lib.hid (HB13.out.trans (HD13.out.below hs))
          clear hd hs
          go_wp2_with fail
          refine (alive_any _).mono ?_
          rintro e w15 ⟨rfl, hb⟩
          have HD15 := Lib.hid (HD14.out.step hb)
          have HB15 := Lib.hid (chain HB14.out hb)
          clear hb
          go_wp2_with fail
          have HDa := Lib.hid (HD15.out.step (bel_new w15 (.cells #[.int .i64 1] 3)))
          have HBa := Lib.hid (chain HB15.out (bel_new w15 (.cells #[.int .i64 1] 3)))
          refine (cut_any _ [1] HDa.out (out_new (l := [1]) HD15.out rfl (by decide) (by decide)) (by omega)).mono ?_
          rintro e w16 ⟨rfl, hd, hs⟩
          rw [HN3.out]
          have HD16 := Lib.hid hd
          have HB16 := Lib.hid (HBa.out.trans (HDa.out.below hs))
          clear hd hs
          go_wp2_with fail
          refine (blocks_any HD16.out).mono ?_
          rintro e w17 ⟨rfl, hb⟩
          rw [HBL.out]
          have HB17 := Lib.hid (chain HB16.out hb)
          clear hb
          go_wp2
          go_ret
          exact ⟨rfl, HB17.out⟩
        · obtain ⟨R, hR⟩ := read_in d2 at_ HON.out (by omega) (by rw [HBK.out]; omega)
          have HR := Lib.hid hR
          clear q2 q3 q4 g1 hR
          go_wp2_with fail
          refine (read_any at_ HD4.out HAT.out).mono ?_
          rintro e w5 ⟨rfl, hb⟩
          rw [HR.out]
          have HD5 := Lib.hid (HD4.out.step hb)
          have HB5 := Lib.hid (chain HB4.out hb)
          clear hb
          go_wp2_with fail
          refine (writes_any HD5.out).mono ?_
          rintro e w6 ⟨rfl, hb⟩
          rw [HWN.out]
          have HD6 := Lib.hid (HD5.out.step hb)
          have HB6 := Lib.hid (chain HB5.out hb)
          clear hb
          go_wp2_with fail
          refine (n_any _ _).mono ?_
          rintro e w7 ⟨rfl, hb⟩
          have HD7 := Lib.hid (HD6.out.step hb)
          have HB7 := Lib.hid (chain HB6.out hb)
          clear hb
          go_wp2_with fail
          refine (waiting_any HD7.out).mono ?_
          rintro e w8 ⟨rfl, hb⟩
          rw [HWL.out]
          have HD8 := Lib.hid (HD7.out.step hb)
          have HB8 := Lib.hid (chain HB7.out hb)
          clear hb
          go_wp2_with fail
          refine (n_any _ _).mono ?_
          rintro e w9 ⟨rfl, hb⟩
          have HD9 := Lib.hid (HD8.out.step hb)
          have HB9 := Lib.hid (chain HB8.out hb)
          clear hb
          go_wp2_with fail
          refine (cut_any _ keep HD9.out (out_arg HD9.out (HV.out.below HB9.out) HLT.out) (by omega)).mono ?_
          rintro e w10 ⟨rfl, hd, hs⟩
          rw [HC.out] at hd
          have HD10 := Lib.hid hd
          have HB10 := Lib.hid (HB9.out.trans (HD9.out.below hs))
          clear hd hs
          go_wp2_with fail
          refine (fill_any 122 _ (by omega)).mono ?_; rintro e w11 ⟨rfl, hb⟩; have HD11 := Lib.hid (HD10.out.step hb); have HB11 := Lib.hid (chain HB10.out hb); clear hb
          go_wp2_with fail
          refine (write_any 1 (fillB 122) HD11.out (by omega) (by unfold I64; omega) HWB.out (by rw [fillB_size]; decide)).mono ?_
          rintro e w12 ⟨rfl, hd, hs⟩
          rw [HW3.out] at hd ⊢
          have HD12 := Lib.hid hd
          have HB12 := Lib.hid (HB11.out.trans (HD11.out.below hs))
          clear hd hs
          go_wp2_with fail
          refine (read_any 1 HD12.out (by unfold I64; omega)).mono ?_
          rintro e w13 ⟨rfl, hb⟩
          rw [HR3.out]
          have HD13 := Lib.hid (HD12.out.step hb)
          have HB13 := Lib.hid (chain HB12.out hb)
          clear hb
          go_wp2_with fail
          refine (flush_any HD13.out (by omega) HWB.out).mono ?_
          rintro e w14 ⟨rfl, hd, hs⟩
          rw [HF3.out] at hd ⊢
          have HD14 := Lib.hid hd
          have HB14 := Lib.hid (HB13.out.trans (HD13.out.below hs))
          clear hd hs
          go_wp2_with fail
          refine (alive_any _).mono ?_
          rintro e w15 ⟨rfl, hb⟩
          have HD15 := Lib.hid (HD14.out.step hb)
          have HB15 := Lib.hid (chain HB14.out hb)
          clear hb
          go_wp2_with fail
          have HDa := Lib.hid (HD15.out.step (bel_new w15 (.cells #[.int .i64 1] 3)))
          have HBa := Lib.hid (chain HB15.out (bel_new w15 (.cells #[.int .i64 1] 3)))
          refine (cut_any _ [1] HDa.out (out_new (l := [1]) HD15.out rfl (by decide) (by decide)) (by omega)).mono ?_
          rintro e w16 ⟨rfl, hd, hs⟩
          rw [HN3.out]
          have HD16 := Lib.hid hd
          have HB16 := Lib.hid (HBa.out.trans (HDa.out.below hs))
          clear hd hs
          go_wp2_with fail
          refine (blocks_any HD16.out).mono ?_
          rintro e w17 ⟨rfl, hb⟩
          rw [HBL.out]
          have HB17 := Lib.hid (chain HB16.out hb)
          clear hb
          go_wp2
          go_ret
          exact ⟨rfl, HB17.out⟩

set_option maxRecDepth 100000 in
set_option maxHeartbeats 1000000 in
theorem walkDiskRefuses (at_ : Int) (wa : (Lit.int .i64 at_).wf = true) (data : ByteArray) (v : Value) (keep : List Int) (w : World) (hs : data.size ≤ 9223372036854775807) (hv : IntsAt w v keep) : Calls Try.prog 5 #[.int .i64 at_, .string data, v] w (BoolPost w true) := by
  have ha := wf64' wa
  clear wa
  by_cases hin : data.size ≤ 300 ∧ keep.length ≤ 10
  · exact walkDiskRefusesIn at_ data v keep w hv hin.1 hin.2 ha
  · obtain ⟨a, ca, rfl, _⟩ := hv
    by_cases h1 : (300 : Int) < data.size
    all_goals by_cases h2 : (10 : Int) < keep.length
    all_goals first
      | (exfalso; omega)
      | (clear hin
         go_enter Try.func5, Try.ntmps5
         go_wp2_with fail
         refine (alive_any _).mono ?_
         rintro e w9 ⟨rfl, hb9⟩
         go_wp2
         go_ret
         exact ⟨rfl, hb9⟩)
end Go.Proofs.Ytppfgjjebfgcaaa
