/-
  The walk of the law SuperBack.
-/
import Derived.Test.YtabkeggcaacldaaSuper7
import Derived.Test.YtabkeggcaacldaaCrcFlip
import Derived.Deep.DeepCutAuto
namespace Go.Proofs.Ytabkeggcaacldaa
open Go.RowKit
set_option linter.unusedVariables false
set_option linter.unusedSimpArgs false

set_option maxRecDepth 100000 in
theorem getR_flip (s : SV) (p : Nat) (d : UInt8) (hd : d ≠ 0) (hp : p < 256) : getR (strOf (chg (putS s).data.toList p d)) = (SV.zero, 7) := by
  have hl : (putS s).data.toList.length = 256 := by rw [Array.length_toList]; exact putS_size s
  have hsz : (strOf (chg (putS s).data.toList p d)).size = 256 := by show (chg _ p d).toArray.size = _; rw [List.size_toArray, chg_len, hl]
  have h := changed (magicB ++ strOf (fullL s)) p d hd (by rw [pre_size]; exact hp)
  rw [pre_size, show (252 + 4) = 256 from rfl] at h
  unfold getR
  rw [if_neg (by rw [hsz]; simp), if_pos (by unfold openE; exact decide_eq_false h)]

set_option maxRecDepth 100000 in
set_option maxHeartbeats 4000000 in
theorem walkSuperBackNo (S : SV) (at_ by_ : Int) (w : World) (hS : S.ok) (hm : ¬ S.may) : Calls Try.prog 4 #[S.val, .int .i64 at_, .int .i64 by_] w (BoolPost w true) := by
  have HS := Lib.hid hS
  have HM := Lib.hid hm
  clear hS hm
  simp only [SV.val]
  go_enter Try.func4, Try.ntmps4
  go_wp2_with fail
  refine (put_no S _ HS.out HM.out).mono ?_
  rintro e w1 ⟨rfl, hb1⟩
  have HB1 := Lib.hid (chain (bel_new w _) hb1)
  clear hb1
  go_wp2_with fail
  refine (alive_any _).mono ?_
  rintro e w2 ⟨rfl, hb2⟩
  go_wp2
  go_ret
  exact ⟨rfl, chain HB1.out hb2⟩

set_option maxRecDepth 100000 in
set_option maxHeartbeats 4000000 in
theorem walkSuperBackYes (S : SV) (at_ by_ : Int) (w : World) (hS : S.ok) (hm : S.may) (ha : I64 at_) (hy : I64 by_) : Calls Try.prog 4 #[S.val, .int .i64 at_, .int .i64 by_] w (BoolPost w true) := by
  have HS := Lib.hid hS
  have HM := Lib.hid hm
  obtain ⟨b, hb⟩ : ∃ b, b = putS S := ⟨_, rfl⟩
  have HBE := Lib.hid hb
  have hbs : b.size = 256 := by rw [hb]; exact putS_size S
  have HBS := Lib.hid hbs
  have HG := Lib.hid (show getV b = .tuple #[S.val, .int .i64 0] by unfold getV; rw [hb, getR_put S hS hm])
  obtain ⟨d, hd⟩ : ∃ d : UInt8, d = UInt8.ofNat (by_ % 256).toNat := ⟨_, rfl⟩
  have hdI : IntKind.u8.wrap by_ = (d.toNat : Int) := by
    rw [u8_wrap, hd, UInt8.toNat_ofNat', Nat.mod_eq_of_lt (by omega)]; omega
  unfold I64 at ha hy
  clear hS hm hb hbs hd
  simp only [SV.val]
  go_enter Try.func4, Try.ntmps4
  go_wp2_with fail
  refine (put_yes S _ HS.out HM.out).mono ?_
  rintro e w1 ⟨rfl, hb1⟩
  rw [← HBE.out]
  have HA1 := Lib.hid (heap_step (heap_alloc_new w (.cells #[.int .u64 S.gen, .int .i64 S.blocks, .int .i64 S.bytes] 24)) hb1)
  have HB1 := Lib.hid (chain (bel_new w (.cells #[.int .u64 S.gen, .int .i64 S.blocks, .int .i64 S.bytes] 24)) hb1)
  clear hb1
  go_wp2_with fail
  refine (get_any b _ (by rw [HBS.out]; decide)).mono ?_
  rintro e w2 ⟨rfl, hb2⟩
  rw [HG.out]
  simp only [SV.val]
  have ha2 := heap_step HA1.out hb2
  have hlt := heap_lt ha2
  obtain ⟨c0, c1, c2⟩ := cells3 ha2
  have HB2 := Lib.hid (chain HB1.out hb2)
  clear hb2 ha2
  by_cases h1 : at_ < 0
  · clear hdI
    go_wp2_with fail
    refine (alive_any _).mono ?_
    rintro e w3 ⟨rfl, hb3⟩
    have HB3 := Lib.hid (chain (chain HB2.out (bel_new w2 _)) hb3)
    go_wp2
    go_ret
    exact ⟨rfl, HB3.out⟩
  · by_cases h2 : d = 0
    · have hd0 : ((d.toNat : Int) == 0) = true := by rw [h2]; rfl
      clear h2
      go_wp2_with fail
      refine (alive_any _).mono ?_
      rintro e w3 ⟨rfl, hb3⟩
      have HB3 := Lib.hid (chain (chain HB2.out (bel_new w2 _)) hb3)
      go_wp2
      go_ret
      exact ⟨rfl, HB3.out⟩
    · have hd0 : ((d.toNat : Int) == 0) = false := by
        simp only [beq_eq_false_iff_ne]
        intro h
        have h8 : d.toNat = 0 := by omega
        exact h2 (UInt8.toNat_inj.1 (h8.trans rfl))
      have HD2 := Lib.hid h2
      have hbsI : (b.size : Int) = 256 := by have := HBS.out; omega
      have hcv := run_bytes_of_string (P := Try.prog) (w2.alloc (.cells #[.int .u64 S.gen, .int .i64 S.blocks, .int .i64 S.bytes] 24)) 9 37 5 b Try.underlying9 Try.underlying37 Try.underlying5
      rw [HBS.out] at hcv
      obtain ⟨cap, hcap⟩ : ∃ cap, cap = grownCap (w2.alloc (.cells #[.int .u64 S.gen, .int .i64 S.blocks, .int .i64 S.bytes] 24)) 256 0 5 := ⟨_, rfl⟩
      rw [← hcap] at hcv
      have hba := bytes_new (w2.alloc (.cells #[.int .u64 S.gen, .int .i64 S.blocks, .int .i64 S.bytes] 24)) b cap ((bytesRow b cap).size + 1) 5
      have hxb : Below w.heap.size w ((w2.alloc (.cells #[.int .u64 S.gen, .int .i64 S.blocks, .int .i64 S.bytes] 24)).drew.alloc (.cells (bytesRow b cap) 5 ((bytesRow b cap).size, (bytesRow b cap).size + 1))) := chain (chain HB2.out (bel_new w2 _)) ((bel_new (w2.alloc _) _).drew)
      have hgl : w.heap.size ≤ (w2.alloc (.cells #[.int .u64 S.gen, .int .i64 S.blocks, .int .i64 S.bytes] 24)).heap.size := by simp; omega
      obtain ⟨X, hX⟩ : ∃ X, X = (w2.alloc (.cells #[.int .u64 S.gen, .int .i64 S.blocks, .int .i64 S.bytes] 24)).drew.alloc (.cells (bytesRow b cap) 5 ((bytesRow b cap).size, (bytesRow b cap).size + 1)) := ⟨_, rfl⟩
      rw [← hX] at hcv hba hxb
      obtain ⟨g, hg⟩ : ∃ g, g = (w2.alloc (.cells #[.int .u64 S.gen, .int .i64 S.blocks, .int .i64 S.bytes] 24)).heap.size := ⟨_, rfl⟩
      rw [← hg] at hcv hba hgl
      obtain ⟨L, hL⟩ : ∃ L, L = b.data.toList := ⟨_, rfl⟩
      rw [← hL] at hba
      have hLl : L.length = 256 := by rw [hL, Array.length_toList]; exact HBS.out
      have HLL := Lib.hid hLl
      obtain ⟨p, hp⟩ : ∃ p : Nat, at_ % 256 = p := ⟨(at_ % 256).toNat, by omega⟩
      have hp2 : p < 256 := by omega
      have hpI : (p : Int) < 256 := by omega
      have d0 := hba.cell p (by rw [hLl]; exact hp2)
      have g0 := hba.free p (by rw [hLl]; exact hp2)
      obtain ⟨c, hc⟩ : ∃ c, c = L.getD p 0 := ⟨_, rfl⟩
      rw [← hc] at d0
      have hx := u8_xor_nat c.toNat d.toNat (by have := c.toNat_lt; omega) (by have := d.toNat_lt; omega)
      have hset := hba.set p (by rw [hLl]; exact hp2) (c ^^^ d)
      have hchg : L.set p (c ^^^ d) = chg L p d := by unfold chg; rw [hc]
      rw [hchg, UInt8.toNat_xor] at hset
      obtain ⟨z, hz⟩ : ∃ z : Nat, z = c.toNat ^^^ d.toNat := ⟨_, rfl⟩
      rw [← hz] at hset hx
      have hcv2 := hset.conv (n := 256) (cap := cap) (by rw [chg_len, hLl])
      have HB3 := Lib.hid (show Below w.heap.size w (X.setCell ⟨g, p, none⟩ (.int .u8 z)) from bel_set hxb hgl)
      have HR := Lib.hid (show getV (strOf (chg L p d)) = .tuple #[SV.zero.val, .int .i64 7] by unfold getV; rw [hL, HBE.out, getR_flip S p d HD2.out hp2])
      have HRS := Lib.hid (show (strOf (chg L p d)).size ≤ 9223372036854775807 by rw [strOf_size, chg_len, hLl]; decide)
      obtain ⟨F, hF⟩ : ∃ F, F = strOf (chg L p d) := ⟨_, rfl⟩
      rw [← hF] at HR HRS hcv2
      clear h2 hcap hL hLl hc hchg hz hX hg hba hxb hset hF hgl HD2 HLL
      go_wp2_with fail
      refine (get_any F _ HRS.out).mono ?_
      rintro e w3 ⟨rfl, hb3⟩
      rw [HR.out]
      have HB4 := Lib.hid (chain HB3.out hb3)
      clear hb3 hcv hcv2 d0 g0 hx
      simp only [SV.val, SV.zero]
      go_wp2_with fail
      refine (alive_any _).mono ?_
      rintro e w4 ⟨rfl, hb4⟩
      have HB5 := Lib.hid (chain (chain HB4.out (bel_new w3 _)) hb4)
      clear hb4
      go_wp2
      go_ret
      exact ⟨rfl, HB5.out⟩

set_option maxRecDepth 100000 in
theorem walkSuperBack (S : SV) (at_ : Int) (wa : (Lit.int .i64 at_).wf = true) (by_ : Int) (wb : (Lit.int .i64 by_).wf = true) (w : World) (hS : S.ok) : Calls Try.prog 4 #[S.val, .int .i64 at_, .int .i64 by_] w (BoolPost w true) := by
  by_cases hm : S.may
  · exact walkSuperBackYes S at_ by_ w hS hm (wf64' wa) (wf64' wb)
  · exact walkSuperBackNo S at_ by_ w hS hm
end Go.Proofs.Ytabkeggcaacldaa
