/-
  The contracts of the law package's Light, shows and run.
-/
import Derived.Test.YtppfgjjebfgcaaaDiskOps
import Derived.Test.YtppfgjjebfgcaaaDiskTwin
import Derived.Test.YtppfgjjebfgcaaaBookSame
import Derived.Test.YtppfgjjebfgcaaaDiskAlive
namespace Go.Proofs.Ytppfgjjebfgcaaa
open Go.RowKit
set_option linter.unusedVariables false
set_option linter.unusedSimpArgs false

theorem roomL_I64 : ∀ (l : List Int) (left : Int), I64 left → (∀ x ∈ l, 0 ≤ x) → I64 (roomL left l)
  | [], left, h, _ => h
  | x :: l, left, h, h0 => roomL_I64 l (room1 left x) (by
      have := h0 x (List.mem_cons_self ..)
      unfold I64 at *; unfold room1; split <;> omega) (fun y hy => h0 y (List.mem_cons_of_mem _ hy))

/-- Some bool comes back; what lay there lies there still. -/
def RetSome (w : World) (e : Ending) (w' : World) : Prop := ∃ b, e = .returned (.bool b) ∧ Below w.heap.size w w'
set_option maxRecDepth 100000 in
set_option maxHeartbeats 4000000 in
theorem light_any (v : Value) (l : List OpV) (w : World) (hv : OpsAt w v l) : Calls Try.prog 22 #[v] w (RetSome w) := by
  have HV := Lib.hid hv
  obtain ⟨a, c, rfl, hlen, _⟩ := hv
  go_enter Try.func22, Try.ntmps22
  go_wp2
  go_loopw [3, 4] (fun r i wr => ∃ (k : Nat) (R : Int), k ≤ l.length ∧ i = .int .i64 k ∧ r = .int .i64 R ∧ I64 R ∧ Hid (Below w.heap.size w wr)) (fun _ i _ => l.length - (intOf i).toNat)
  case atStart => exact ⟨0, 20000, Nat.zero_le _, rfl, rfl, by unfold I64; omega, Lib.hid (Below.refl _ _)⟩
  case round =>
    obtain ⟨k, R, hk, rfl, rfl, hR, HB⟩ := hrel
    have HR := Lib.hid hR
    unfold I64 at hR
    by_cases g : k < l.length ∧ k < 200 ∧ 0 ≤ R
    · obtain ⟨g1, g2, g3⟩ := g
      obtain ⟨b, o, kv, rfl, hX⟩ := (HV.out.below HB.out).nth g1
      obtain ⟨X, hXe⟩ : ∃ X, X = l.getD k OpV.zero := ⟨_, rfl⟩
      rw [← hXe] at hX
      obtain ⟨ka, kc, rfl, _, hkl, _⟩ := hX.keep
      have q3 := hX.c3
      have q4 := hX.c4
      have hds := hX.ok.2.2.2
      have hI2 : ∀ x ∈ [(X.data.size : Int), (X.keep.length : Int)], -9223372036854775808 ≤ x ∧ x ≤ 9223372036854775807 := by
        intro x hx; simp at hx; rcases hx with rfl | rfl <;> omega
      have h02 : ∀ x ∈ [(X.data.size : Int), (X.keep.length : Int)], 0 ≤ x := by
        intro x hx; simp at hx; rcases hx with rfl | rfl <;> omega
      have HI2 := Lib.hid hI2
      have H02 := Lib.hid h02
      have HRL := Lib.hid (roomL_I64 _ R HR.out h02)
      clear hX hXe hI2 h02
      go_wp2_with fail
      refine wp_region_inv (R := Blw) (S := (fun w' => Below w.heap.size w w' ∧ w'.cell? ⟨b, o + k * 5 + 3, none⟩ = some (.string X.data) ∧ w'.cell? ⟨b, o + k * 5 + 4, none⟩ = some (.slice ka X.keep.length kc))) 14 (Spec.val ?_ :: Spec.val ?_ :: Spec.val ?_ :: Spec.val ?_ :: Spec.val ?_ :: Spec.val ?_ :: Spec.val ?_ :: Spec.val ?_ :: Spec.val ?_ :: Spec.val ?_ :: Spec.val ?_ :: Spec.val ?_ :: Spec.val ?_ :: (intsS [(X.data.size : Int), (X.keep.length : Int)]) :: []) (by kernel_rfl) (by kernel_rfl) rfl (fun w1 w2 h hb => ⟨chain h.1 hb, cell_step h.2.1 hb, cell_step h.2.2 hb⟩) (⟨HB.out.drew, q3, q4⟩) ?hm1
      case' hm1 => skip
      refine inv_val (i := 0) (by kernel_rfl) rfl rfl (fun w1 hS hd K hK => ?_) ?_
      · (try dsimp only at hS); go_simp; exact hK.out _ _ (by simp only [Act.put, List.setIfInBounds_toArray, List.set_cons_zero, List.set_cons_succ, List.nil_append, List.cons_append]; rfl) (Below.refl _ _)
      simp only [Act.put, List.setIfInBounds_toArray, List.set_cons_zero, List.set_cons_succ, List.nil_append, List.cons_append]
      refine inv_val (i := 1) (by kernel_rfl) rfl rfl (fun w1 hS hd K hK => ?_) ?_
      · (try dsimp only at hS); go_simp; exact hK.out _ _ (by simp only [Act.put, List.setIfInBounds_toArray, List.set_cons_zero, List.set_cons_succ, List.nil_append, List.cons_append]; rfl) (Below.refl _ _)
      simp only [Act.put, List.setIfInBounds_toArray, List.set_cons_zero, List.set_cons_succ, List.nil_append, List.cons_append]
      refine inv_val (i := 2) (by kernel_rfl) rfl rfl (fun w1 hS hd K hK => ?_) ?_
      · (try dsimp only at hS); go_simp; exact hK.out _ _ (by simp only [Act.put, List.setIfInBounds_toArray, List.set_cons_zero, List.set_cons_succ, List.nil_append, List.cons_append]; rfl) (Below.refl _ _)
      simp only [Act.put, List.setIfInBounds_toArray, List.set_cons_zero, List.set_cons_succ, List.nil_append, List.cons_append]
      refine inv_val (i := 3) (by kernel_rfl) rfl rfl (fun w1 hS hd K hK => ?_) ?_
      · (try dsimp only at hS); go_simp; exact hK.out _ _ (by simp only [Act.put, List.setIfInBounds_toArray, List.set_cons_zero, List.set_cons_succ, List.nil_append, List.cons_append]; rfl) (Below.refl _ _)
      simp only [Act.put, List.setIfInBounds_toArray, List.set_cons_zero, List.set_cons_succ, List.nil_append, List.cons_append]
      refine inv_val (i := 4) (by kernel_rfl) rfl rfl (fun w1 hS hd K hK => ?_) ?_
      · (try dsimp only at hS); go_simp; exact hK.out _ _ (by simp only [Act.put, List.setIfInBounds_toArray, List.set_cons_zero, List.set_cons_succ, List.nil_append, List.cons_append]; rfl) (Below.refl _ _)
      simp only [Act.put, List.setIfInBounds_toArray, List.set_cons_zero, List.set_cons_succ, List.nil_append, List.cons_append]
      refine inv_val (i := 5) (by kernel_rfl) rfl rfl (fun w1 hS hd K hK => ?_) ?_
      · (try dsimp only at hS); go_simp; exact hK.out _ _ (by simp only [Act.put, List.setIfInBounds_toArray, List.set_cons_zero, List.set_cons_succ, List.nil_append, List.cons_append]; rfl) (Below.refl _ _)
      simp only [Act.put, List.setIfInBounds_toArray, List.set_cons_zero, List.set_cons_succ, List.nil_append, List.cons_append]
      refine inv_val (i := 6) (by kernel_rfl) rfl rfl (fun w1 hS hd K hK => ?_) ?_
      · (try dsimp only at hS); go_simp; exact hK.out _ _ (by simp only [Act.put, List.setIfInBounds_toArray, List.set_cons_zero, List.set_cons_succ, List.nil_append, List.cons_append]; rfl) (Below.refl _ _)
      simp only [Act.put, List.setIfInBounds_toArray, List.set_cons_zero, List.set_cons_succ, List.nil_append, List.cons_append]
      refine inv_val (i := 7) (by kernel_rfl) rfl rfl (fun w1 hS hd K hK => ?_) ?_
      · (try dsimp only at hS); go_simp; exact hK.out _ _ (by simp only [Act.put, List.setIfInBounds_toArray, List.set_cons_zero, List.set_cons_succ, List.nil_append, List.cons_append]; rfl) (Below.refl _ _)
      simp only [Act.put, List.setIfInBounds_toArray, List.set_cons_zero, List.set_cons_succ, List.nil_append, List.cons_append]
      refine inv_val (i := 8) (by kernel_rfl) rfl rfl (fun w1 hS hd K hK => ?_) ?_
      · (try dsimp only at hS); go_simp; exact hK.out _ _ (by simp only [Act.put, List.setIfInBounds_toArray, List.set_cons_zero, List.set_cons_succ, List.nil_append, List.cons_append]; rfl) (Below.refl _ _)
      simp only [Act.put, List.setIfInBounds_toArray, List.set_cons_zero, List.set_cons_succ, List.nil_append, List.cons_append]
      refine inv_val (i := 9) (by kernel_rfl) rfl rfl (fun w1 hS hd K hK => ?_) ?_
      · (try dsimp only at hS); go_simp; exact hK.out _ _ (by simp only [Act.put, List.setIfInBounds_toArray, List.set_cons_zero, List.set_cons_succ, List.nil_append, List.cons_append]; rfl) (Below.refl _ _)
      simp only [Act.put, List.setIfInBounds_toArray, List.set_cons_zero, List.set_cons_succ, List.nil_append, List.cons_append]
      refine inv_val (i := 10) (by kernel_rfl) rfl rfl (fun w1 hS hd K hK => ?_) ?_
      · (try dsimp only at hS); go_simp; exact hK.out _ _ (by simp only [Act.put, List.setIfInBounds_toArray, List.set_cons_zero, List.set_cons_succ, List.nil_append, List.cons_append]; rfl) (Below.refl _ _)
      simp only [Act.put, List.setIfInBounds_toArray, List.set_cons_zero, List.set_cons_succ, List.nil_append, List.cons_append]
      refine inv_val (i := 11) (by kernel_rfl) rfl rfl (fun w1 hS hd K hK => ?_) ?_
      · (try dsimp only at hS); go_simp; exact hK.out _ _ (by simp only [Act.put, List.setIfInBounds_toArray, List.set_cons_zero, List.set_cons_succ, List.nil_append, List.cons_append]; rfl) (Below.refl _ _)
      simp only [Act.put, List.setIfInBounds_toArray, List.set_cons_zero, List.set_cons_succ, List.nil_append, List.cons_append]
      refine inv_val (i := 12) (by kernel_rfl) rfl rfl (fun w1 hS hd K hK => ?_) ?_
      · (try dsimp only at hS); go_simp; exact hK.out _ _ (by simp only [Act.put, List.setIfInBounds_toArray, List.set_cons_zero, List.set_cons_succ, List.nil_append, List.cons_append]; rfl) (Below.refl _ _)
      simp only [Act.put, List.setIfInBounds_toArray, List.set_cons_zero, List.set_cons_succ, List.nil_append, List.cons_append]
      refine inv_rel (i := 13) (by kernel_rfl) rfl rfl (fun w1 hS hd K hK => ?_) (fun v13 => ?_)
      · (try dsimp only at hS); go_simp; refine hK.out _ _ _ (by simp only [Act.put, List.setIfInBounds_toArray, List.set_cons_zero, List.set_cons_succ, List.nil_append, List.cons_append] <;> rfl) (ints_new (l := [(X.data.size : Int), (X.keep.length : Int)]) rfl rfl HI2.out (by simp)) (bel_new _ _)
      simp only [Act.put, List.setIfInBounds_toArray, List.set_cons_zero, List.set_cons_succ, List.nil_append, List.cons_append]
      refine inv_tail2 (by kernel_rfl) rfl rfl (fun w2 hS hd _ => ?_)
      have hv13 : IntsAt w2 v13 [(X.data.size : Int), (X.keep.length : Int)] := hd.out 13
      have H13 := Lib.hid hv13
      have HB2 := Lib.hid hS.1
      clear hS hd hv13 q3 q4
      go_wp2_with fail
      refine (room_any R _ _ _ H13.out HR.out H02.out).mono ?_
      rintro e w3 ⟨rfl, hb⟩
      have HB3 := Lib.hid (chain HB2.out hb)
      clear hb
      go_wp2
      go_roundw
      case rel => exact ⟨k + 1, _, by omega, by go_num, rfl, HRL.out, HB3⟩
      case measure => simp [intOf]; omega
    · by_cases g1 : k < l.length
      all_goals by_cases g2 : k < 200
      all_goals by_cases g3 : 0 ≤ R
      all_goals first
        | (exfalso; omega)
        | (by_cases g4 : l.length ≤ 80
           all_goals first
             | (exfalso; omega)
             | (clear g
                go_wp2
                go_ret
                exact ⟨_, rfl, HB.out⟩))

def offB : ByteArray := ⟨#[111, 102, 102]⟩
def showD (d : DV) (i : Nat) : ByteArray := if (d.read i).2 = 0 then (d.read i).1 else offB
def showsN (d : DV) (k : Nat) : List ByteArray := (List.range k).map (showD d)
theorem showsN_succ (d : DV) (k : Nat) : showsN d (k + 1) = showsN d k ++ [showD d k] := by unfold showsN; rw [List.range_succ, List.map_append]; rfl
theorem showsN_len (d : DV) (k : Nat) : (showsN d k).length = k := by simp [showsN]
theorem texts_of_own {w : World} {B : Nat} {v : Value} {l : List ByteArray} (h : w.ownsRow B 9 1 v l.length (l.map Value.string)) (hl : ∀ s ∈ l, s.size ≤ 9223372036854775807) : TextsAt w v l := by
  have h0 := h
  rcases h.2 with ⟨h1, h2⟩ | ⟨g, cap, cur, h1, _, _, h2, h3, _, _⟩
  · subst h1
    obtain rfl := List.eq_nil_of_length_eq_zero h2
    exact texts_nil _
  · subst h1
    refine ⟨_, cap, rfl, hl, ⟨by omega, by unfold maxLen at h3; omega⟩, fun _ => ⟨g, 0, rfl, (h0.lt g rfl).2, fun j hj => ?_⟩⟩
    have := h0.cellAt j (by omega)
    rw [Nat.zero_add, this]
    simp [hj]
theorem info_strS : (Try.prog.info? 9).map (fun i => (i.zero, i.size, i.bytes)) = some (some (.string ByteArray.empty), 1, 16) := by kernel_rfl
/-- What shows leaves: its texts, in a block of its own. -/
def RetShows (w : World) (l : List ByteArray) (e : Ending) (w' : World) : Prop := ∃ v, e = .returned v ∧ w'.ownsRow w.heap.size 9 1 v l.length (l.map Value.string) ∧ TextsAt w' v l ∧ Below w.heap.size w w'
theorem MapAt.size {w : World} {b n : Nat} {f : Int → Option ByteArray} (h : MapAt w b n f) {k : Int} (hk : inI k) {t : ByteArray} (hf : f k = some t) : t.size ≤ 9223372036854775807 := by
  obtain ⟨D, h, hr⟩ := h
  obtain ⟨r1, r2⟩ := hr k hk
  have hz : (zeroValue 9).run Try.prog w = .ok (.string ByteArray.empty) w := by kernel_rfl
  obtain ⟨v, ps, hrun, hv⟩ := h.look_ok int_law Try.underlying33 hz (plainElem_string Try.underlying9 (by decide)) (key_of hk)
  obtain ⟨s, rfl, hs, hsz⟩ := plainElem_string_inv Try.underlying9 hv
  have hs' : D.atKey (kL k) (.lit (.string ByteArray.empty.data.toList)) = .lit (.string s.data.toList) := congrArg Prod.fst hs
  obtain ⟨h1, h2⟩ := r1 t hf
  rw [h2] at hs'
  have : t = s := text_inj (by injection hs' with hs'; injection hs')
  subst this
  unfold maxLen at hsz; omega
theorem zero_size : zeroB.size = 256 := by kernel_rfl
theorem read_size {w : World} {B p c : Nat} {d : DV} (h : DiskAt w B p c d) (k : Int) (hk : I64 k) : (d.read k).1.size ≤ 9223372036854775807 ∧ ((d.read k).2 = 0 ∨ (d.read k).2 = 14 ∨ (d.read k).2 = 15) := by
  obtain ⟨kv, wv, mb, lb, h⟩ := h
  unfold DV.read
  split
  · exact ⟨by decide, .inr (.inl rfl)⟩
  · split
    · exact ⟨by decide, .inr (.inr rfl)⟩
    · cases hn : d.now k with
      | none => exact ⟨by show zeroB.size ≤ _; rw [zero_size]; decide, .inl rfl⟩
      | some t => exact ⟨h.now.size (inI_of hk) hn, .inl rfl⟩

set_option maxRecDepth 100000 in
set_option maxHeartbeats 4000000 in
theorem shows_any {w : World} {B p c : Nat} {d : DV} (h : DiskAt w B p c d) : Calls Try.prog 25 #[.pointer (some ⟨p, 0, none⟩)] w (RetShows w (showsN d 6)) := by
  obtain ⟨i0, hi, hz0, hz1, hz2⟩ := info_parts info_strS
  have H := Lib.hid h
  clear h
  go_enter Try.func25, Try.ntmps25
  go_wp2
  go_loopw [3, 4] (fun o i wr => ∃ (k : Nat) (ao : Option Addr) (ca : Nat), k ≤ 6 ∧ i = .int .i64 k ∧ o = .slice ao k ca ∧ Hid (wr.ownsRow w.heap.size 9 1 (.slice ao k ca) k ((showsN d k).map Value.string)) ∧ Hid (Below w.heap.size w wr)) (fun _ i _ => 6 - (intOf i).toNat)
  case atStart => exact ⟨0, none, 0, Nat.zero_le _, rfl, rfl, Lib.hid (World.ownsRow_nil _ _ _ _), Lib.hid (Below.refl _ _)⟩
  case round =>
    obtain ⟨k, ao, ca, hk, rfl, rfl, HO, HB⟩ := hrel
    by_cases hlt : k < 6
    · have HD := Lib.hid (H.out.step HB.out)
      obtain ⟨S, hS⟩ : ∃ S, S = (d.read k).1 := ⟨_, rfl⟩
      obtain ⟨E, hE⟩ : ∃ E, E = (d.read k).2 := ⟨_, rfl⟩
      have HS := Lib.hid hS
      have HE := Lib.hid hE
      have hE3 := (read_size H.out k (by unfold I64; omega)).2
      rw [← hE] at hE3
      clear hS hE
      go_wp2_with fail
      refine (read_any k HD.out (by unfold I64; omega)).mono ?_
      rintro e w1 ⟨rfl, hb⟩
      rw [← HS.out, ← HE.out]
      have HO1 := Lib.hid (own_step HO.out hb)
      have HB1 := Lib.hid (chain HB.out hb)
      clear hb HO HB HD
      rcases hE3 with rfl | rfl | rfl
      · have HT := Lib.hid (show showD d k = S by unfold showD; rw [if_pos HE.out.symm]; exact HS.out.symm)
        go_wp2_with (at_builtin; refine wpList_append_own _ rfl _ _ 41 rfl w.heap.size 9 i0 (.string ByteArray.empty) 1 16 Try.underlying41 hi hz0 hz1 hz2 rfl (by decide) _ _ _ rfl (HO1.out.alloc _) ⟨w1.heap.size, 0, none⟩ 1 1 [.string S] rfl rfl (one_cell _ _ _) ?c2 ?c3 ?c4 ?c5 ?_)
        case c2 => intro u hu; simp at hu; subst hu; rfl
        case c3 => unfold maxLen; omega
        case c4 => omega
        case c5 => simp; have := HB1.out.size; omega
        intro v' w2 hown' hgrow _
        have hb2 : Below w.heap.size w w2 := (bel_alloc (o := .cells #[.string S] 9) HB1.out HB1.out.size).grown hgrow (by simp; have := HB1.out.size; omega) (fun j hj => by have := (HO1.out.lt j hj).1; omega)
        have ho2 : w2.ownsRow w.heap.size 9 1 v' (k + 1) ((showsN d (k + 1)).map Value.string) := by
          rw [showsN_succ, List.map_append, HT.out]; exact hown'
        have HB2 := Lib.hid hb2
        have HO2 := Lib.hid ho2
        obtain ⟨ao2, ca2, rfl⟩ := own_form ho2
        clear hb2 ho2 hown' hgrow
        go_wp2
        go_roundw
        case rel => exact ⟨k + 1, _, _, by omega, by go_num, rfl, HO2, HB2⟩
        case measure => simp [intOf]; omega
      · have HT := Lib.hid (show showD d k = offB by unfold showD; rw [if_neg (by rw [← HE.out]; decide)])
        go_wp2_with (at_builtin; refine wpList_append_own _ rfl _ _ 41 rfl w.heap.size 9 i0 (.string ByteArray.empty) 1 16 Try.underlying41 hi hz0 hz1 hz2 rfl (by decide) _ _ _ rfl (HO1.out.alloc _) ⟨w1.heap.size, 0, none⟩ 1 1 [.string offB] rfl rfl (one_cell _ _ _) ?c2 ?c3 ?c4 ?c5 ?_)
        case c2 => intro u hu; simp at hu; subst hu; rfl
        case c3 => unfold maxLen; omega
        case c4 => omega
        case c5 => simp; have := HB1.out.size; omega
        intro v' w2 hown' hgrow _
        have hb2 : Below w.heap.size w w2 := (bel_alloc (o := .cells #[.string offB] 9) HB1.out HB1.out.size).grown hgrow (by simp; have := HB1.out.size; omega) (fun j hj => by have := (HO1.out.lt j hj).1; omega)
        have ho2 : w2.ownsRow w.heap.size 9 1 v' (k + 1) ((showsN d (k + 1)).map Value.string) := by
          rw [showsN_succ, List.map_append, HT.out]; exact hown'
        have HB2 := Lib.hid hb2
        have HO2 := Lib.hid ho2
        obtain ⟨ao2, ca2, rfl⟩ := own_form ho2
        clear hb2 ho2 hown' hgrow
        go_wp2
        go_roundw
        case rel => exact ⟨k + 1, _, _, by omega, by go_num, rfl, HO2, HB2⟩
        case measure => simp [intOf]; omega
      · have HT := Lib.hid (show showD d k = offB by unfold showD; rw [if_neg (by rw [← HE.out]; decide)])
        go_wp2_with (at_builtin; refine wpList_append_own _ rfl _ _ 41 rfl w.heap.size 9 i0 (.string ByteArray.empty) 1 16 Try.underlying41 hi hz0 hz1 hz2 rfl (by decide) _ _ _ rfl (HO1.out.alloc _) ⟨w1.heap.size, 0, none⟩ 1 1 [.string offB] rfl rfl (one_cell _ _ _) ?c2 ?c3 ?c4 ?c5 ?_)
        case c2 => intro u hu; simp at hu; subst hu; rfl
        case c3 => unfold maxLen; omega
        case c4 => omega
        case c5 => simp; have := HB1.out.size; omega
        intro v' w2 hown' hgrow _
        have hb2 : Below w.heap.size w w2 := (bel_alloc (o := .cells #[.string offB] 9) HB1.out HB1.out.size).grown hgrow (by simp; have := HB1.out.size; omega) (fun j hj => by have := (HO1.out.lt j hj).1; omega)
        have ho2 : w2.ownsRow w.heap.size 9 1 v' (k + 1) ((showsN d (k + 1)).map Value.string) := by
          rw [showsN_succ, List.map_append, HT.out]; exact hown'
        have HB2 := Lib.hid hb2
        have HO2 := Lib.hid ho2
        obtain ⟨ao2, ca2, rfl⟩ := own_form ho2
        clear hb2 ho2 hown' hgrow
        go_wp2
        go_roundw
        case rel => exact ⟨k + 1, _, _, by omega, by go_num, rfl, HO2, HB2⟩
        case measure => simp [intOf]; omega
    · have hk6 : k = 6 := by omega
      subst hk6
      go_wp2
      go_ret
      have hl : (showsN d 6).length = 6 := showsN_len d 6
      refine ⟨_, rfl, by rw [hl]; exact HO.out, texts_of_own (by rw [hl]; exact HO.out) (fun s hs => ?_), HB.out⟩
      simp only [showsN, List.mem_map, List.mem_range] at hs
      obtain ⟨i, hi6, rfl⟩ := hs
      unfold showD
      split
      · exact (read_size H.out i (by unfold I64; omega)).1
      · decide
end Go.Proofs.Ytppfgjjebfgcaaa
