/- Contracts of InBounds. -/
import Derived.Test.YtgaljjeglamcmaaS
import Derived.Test.YtgaljjeglamcmaaI2
import Derived.Test.YtgaljjeglamcmaaF2
namespace Go.Proofs.Ytgaljjeglamcmaa
open Go.ChangeShapes Go.WideShapes Go.ChangeAt Go.RowKit
set_option linter.unusedVariables false
set_option linter.unusedSimpArgs false
set_option maxRecDepth 100000

def outB (x : GItem) (s : Int) : Bool := decide (s < x.least) || (decide (0 ≤ x.most) && decide (upperI x < s))
def HeldTo (xs : List GItem) (ys : List Int) (k : Nat) : Prop := ∀ i (h : i < xs.length) (h' : i < ys.length), i < k → outB xs[i] ys[i] = false
def inBoundsP (xs : List GItem) (ys : List Int) : Prop := xs.length = ys.length ∧ HeldTo xs ys xs.length
noncomputable def inBounds (xs : List GItem) (ys : List Int) : Bool := @decide (inBoundsP xs ys) (Classical.propDecidable _)
theorem heldTo_step {xs : List GItem} {ys : List Int} {k : Nat} (h : HeldTo xs ys k) (hk : k < xs.length) (hk2 : k < ys.length) (h1 : outB xs[k] ys[k] = false) : HeldTo xs ys (k + 1) := fun i hi hi2 hlt => by
  by_cases he : i = k
  · subst he; exact h1
  · exact h i hi hi2 (by omega)
theorem inBounds_true {xs : List GItem} {ys : List Int} {k : Nat} (hl : xs.length = ys.length) (hk : k = xs.length) (h : HeldTo xs ys k) : inBounds xs ys = true := @decide_eq_true _ (Classical.propDecidable _) ⟨hl, hk ▸ h⟩
theorem inBounds_out {xs : List GItem} {ys : List Int} {k : Nat} (hk : k < xs.length) (hk2 : k < ys.length) (h : outB xs[k] ys[k] = true) : inBounds xs ys = false :=
  @decide_eq_false _ (Classical.propDecidable _) (fun hp => by have := hp.2 k hk hk2 hk; rw [h] at this; cases this)
theorem inBounds_len {xs : List GItem} {ys : List Int} (hl : ¬ xs.length = ys.length) : inBounds xs ys = false := @decide_eq_false _ (Classical.propDecidable _) (fun hp => hl hp.1)

set_option maxHeartbeats 4000000 in
theorem spec_InBounds_c {va vb : Value} {xs : List GItem} {ys : List Int} (w : World) (ha : RepS 9 GItem.c w va xs) (hb : RepI w vb ys) :
    Calls Try.prog 25 #[va, vb] w fun e w' => e = .returned (.bool (inBounds xs ys)) ∧ Below w.heap.size w w' := by
  obtain ⟨pa, ca, rfl, hla, hma, hca⟩ := GItem.rep ha
  obtain ⟨pb, cb, rfl, hlb, hmb, hcb⟩ := hb.at
  unfold maxLen at hma hmb
  clear ha hb
  by_cases hl : xs.length = ys.length
  · have hd : ((ys.length : Int) == (xs.length : Int)) = true := by simp [hl]
    have hd' : ((ys.length : Int) != (xs.length : Int)) = false := by simp [hl]
    have HL := Lib.hid hl
    have HCA := Lib.hid hca
    have HCB := Lib.hid hcb
    clear hl hca hcb
    go_enter Try.func25, Try.ntmps25
    go_wp2
    go_loopw [5] (fun i wr => ∃ k : Nat, k ≤ xs.length ∧ i = .int .i64 k ∧ Hid (HeldTo xs ys k) ∧ Below w.heap.size w wr) (fun i _ => xs.length - (intOf i).toNat)
    case atStart => exact ⟨0, Nat.zero_le _, rfl, fun i _ _ h => absurd h (Nat.not_lt_zero _), ext_refl _⟩
    case round =>
      obtain ⟨k, hk, rfl, HP, hbel⟩ := hrel
      by_cases hlt : k < xs.length
      · have hlt2 : k < ys.length := by have := HL.out; omega
        obtain ⟨b1, o1, rfl, hc1⟩ := HCA.out (by omega)
        obtain ⟨b2, o2, rfl, hc2⟩ := HCB.out (by omega)
        obtain ⟨c0, c1, c2, c3, c4, c5, c6, c7, c8⟩ := hc1 k hlt
        have d0 := hc2 k hlt2
        have g1 := ext_cell hbel c1
        have g2 := ext_cell hbel c2
        have g0 := ext_cell hbel c0
        have g3 := ext_cell hbel c3
        have g4 := ext_cell hbel c4
        have g5 := ext_cell hbel c5
        have g6 := ext_cell hbel c6
        have g7 := ext_cell hbel c7
        have g8 := ext_cell hbel c8
        have e0 := ext_cell hbel d0
        have l1 := World.block_lt_of_cell? _ _ g0
        have l2 := World.block_lt_of_cell? _ _ e0
        simp only at l1 l2
        have i1 : (k : Int) < xs.length := by omega
        have i2 : (k : Int) < ys.length := by omega
        have HB := Lib.hid hbel
        clear hbel c0 c1 c2 c3 c4 c5 c6 c7 c8 d0 hc1 hc2
        by_cases t1 : ys[k] < xs[k].least
        · have s1 : decide (ys[k] < xs[k].least) = true := decide_eq_true t1
          go_wp2
          refine wp_region_quiet_below (by kernel_rfl) (by kernel_rfl) ?_
          (repeat (go_big_quiet_step ((go_at_call 63; exact Calls.regrown_of (spec_l13Most_c xs[k] _)))))
          refine wpQuiet_nil ?_
          intro w1 hw1
          have hb := below_of_regrown hw1
          clear hw1
          go_wp2
          go_ret
          exact ⟨ret_bool (inBounds_out hlt hlt2 (by simp [outB, *])).symm, HB.out.trans (hb.mono HB.out.size)⟩
        · have s1 : decide (ys[k] < xs[k].least) = false := decide_eq_false t1
          by_cases t2 : 0 ≤ xs[k].most
          · have s2 : decide (0 ≤ xs[k].most) = true := decide_eq_true t2
            have s4 := upper_same xs[k] t2
            by_cases t3 : upperI xs[k] < ys[k]
            · have s3 : decide (upperI xs[k] < ys[k]) = true := decide_eq_true t3
              go_wp2
              refine wp_region_quiet_below (by kernel_rfl) (by kernel_rfl) ?_
              (repeat (go_big_quiet_step ((go_at_call 63; exact Calls.regrown_of (spec_l13Most_c xs[k] _)))))
              refine wpQuiet_nil ?_
              intro w1 hw1
              have hb := below_of_regrown hw1
              clear hw1
              go_wp2
              go_ret
              exact ⟨ret_bool (inBounds_out hlt hlt2 (by simp [outB, *])).symm, HB.out.trans (hb.mono HB.out.size)⟩
            · have s3 : decide (upperI xs[k] < ys[k]) = false := decide_eq_false t3
              go_wp2
              refine wp_region_quiet_below (by kernel_rfl) (by kernel_rfl) ?_
              (repeat (go_big_quiet_step ((go_at_call 63; exact Calls.regrown_of (spec_l13Most_c xs[k] _)))))
              refine wpQuiet_nil ?_
              intro w1 hw1
              have hb := below_of_regrown hw1
              clear hw1
              go_wp2
              exact ⟨⟨k + 1, by omega, by go_num, heldTo_step HP.out hlt hlt2 (by simp [outB, *]), HB.out.trans (hb.mono HB.out.size)⟩, by simp [intOf]; omega⟩
          · have s2 : decide (0 ≤ xs[k].most) = false := decide_eq_false t2
            go_wp2
            refine wp_region_quiet_below (by kernel_rfl) (by kernel_rfl) ?_
            (repeat (go_big_quiet_step ((go_at_call 63; exact Calls.regrown_of (spec_l13Most_c xs[k] _)))))
            refine wpQuiet_nil ?_
            intro w1 hw1
            have hb := below_of_regrown hw1
            clear hw1
            go_wp2
            exact ⟨⟨k + 1, by omega, by go_num, heldTo_step HP.out hlt hlt2 (by simp [outB, *]), HB.out.trans (hb.mono HB.out.size)⟩, by simp [intOf]; omega⟩
      · have hke : k = xs.length := by omega
        have HK := Lib.hid hke
        clear hke
        have i1 : ¬ (k : Int) < xs.length := by omega
        go_wp2
        go_ret
        exact ⟨ret_bool (inBounds_true HL.out HK.out HP.out).symm, hbel⟩
  · have hd : ((ys.length : Int) == (xs.length : Int)) = false := by simp; omega
    have hd' : ((ys.length : Int) != (xs.length : Int)) = true := by simp; omega
    have HL := Lib.hid hl
    clear hl hca hcb
    go_enter Try.func25, Try.ntmps25
    go_wp2
    go_ret
    exact ⟨ret_bool (inBounds_len HL.out).symm, ext_refl _⟩

set_option maxHeartbeats 4000000 in
theorem impl_InBounds_c {va vb : Value} {xs : List GItem} {ys : List Int} (w : World) (ha : RepS 9 GItem.c w va xs) (hb : RepI w vb ys) :
    Calls Try.prog 28 #[va, vb] w fun e w' => e = .returned (.bool (inBounds xs ys)) ∧ Below w.heap.size w w' := by
  obtain ⟨pa, ca, rfl, hla, hma, hca⟩ := GItem.rep ha
  obtain ⟨pb, cb, rfl, hlb, hmb, hcb⟩ := hb.at
  unfold maxLen at hma hmb
  clear ha hb
  by_cases hl : xs.length = ys.length
  · have hd : ((xs.length : Int) == (ys.length : Int)) = true := by simp [hl]
    have hd' : ((xs.length : Int) != (ys.length : Int)) = false := by simp [hl]
    have HL := Lib.hid hl
    have HCA := Lib.hid hca
    have HCB := Lib.hid hcb
    clear hl hca hcb
    go_enter Try.func28, Try.ntmps28
    go_wp2
    go_loopw [14] (fun i wr => ∃ k : Nat, k ≤ xs.length ∧ i = .int .i64 k ∧ Hid (HeldTo xs ys k) ∧ Below w.heap.size w wr) (fun i _ => xs.length - (intOf i).toNat)
    case atStart => exact ⟨0, Nat.zero_le _, rfl, fun i _ _ h => absurd h (Nat.not_lt_zero _), ext_refl _⟩
    case round =>
      obtain ⟨k, hk, rfl, HP, hbel⟩ := hrel
      by_cases hlt : k < xs.length
      · have hlt2 : k < ys.length := by have := HL.out; omega
        obtain ⟨b1, o1, rfl, hc1⟩ := HCA.out (by omega)
        obtain ⟨b2, o2, rfl, hc2⟩ := HCB.out (by omega)
        obtain ⟨c0, c1, c2, c3, c4, c5, c6, c7, c8⟩ := hc1 k hlt
        have d0 := hc2 k hlt2
        have g1 := ext_cell hbel c1
        have g2 := ext_cell hbel c2
        have g0 := ext_cell hbel c0
        have g3 := ext_cell hbel c3
        have g4 := ext_cell hbel c4
        have g5 := ext_cell hbel c5
        have g6 := ext_cell hbel c6
        have g7 := ext_cell hbel c7
        have g8 := ext_cell hbel c8
        have e0 := ext_cell hbel d0
        have l1 := World.block_lt_of_cell? _ _ g0
        have l2 := World.block_lt_of_cell? _ _ e0
        simp only at l1 l2
        have i1 : (k : Int) < xs.length := by omega
        have i2 : (k : Int) < ys.length := by omega
        have HB := Lib.hid hbel
        clear hbel c0 c1 c2 c3 c4 c5 c6 c7 c8 d0 hc1 hc2
        by_cases t1 : ys[k] < xs[k].least
        · have s1 : decide (ys[k] < xs[k].least) = true := decide_eq_true t1
          go_wp2
          refine wp_region_quiet_below (by kernel_rfl) (by kernel_rfl) ?_
          (repeat (go_big_quiet_step ((go_at_call 65; exact Calls.regrown_of (impl_upper_c xs[k] _)))))
          refine wpQuiet_nil ?_
          intro w1 hw1
          have hb := below_of_regrown hw1
          clear hw1
          go_wp2
          go_ret
          exact ⟨ret_bool (inBounds_out hlt hlt2 (by simp [outB, *])).symm, (ext_trans (ext_trans HB.out (ext_alloc _ _)) hb)⟩
        · have s1 : decide (ys[k] < xs[k].least) = false := decide_eq_false t1
          by_cases t2 : 0 ≤ xs[k].most
          · have s2 : decide (0 ≤ xs[k].most) = true := decide_eq_true t2
            have s4 := upper_same xs[k] t2
            by_cases t3 : upperI xs[k] < ys[k]
            · have s3 : decide (upperI xs[k] < ys[k]) = true := decide_eq_true t3
              go_wp2
              refine wp_region_quiet_below (by kernel_rfl) (by kernel_rfl) ?_
              (repeat (go_big_quiet_step ((go_at_call 65; exact Calls.regrown_of (impl_upper_c xs[k] _)))))
              refine wpQuiet_nil ?_
              intro w1 hw1
              have hb := below_of_regrown hw1
              clear hw1
              go_wp2
              go_ret
              exact ⟨ret_bool (inBounds_out hlt hlt2 (by simp [outB, *])).symm, (ext_trans (ext_trans HB.out (ext_alloc _ _)) hb)⟩
            · have s3 : decide (upperI xs[k] < ys[k]) = false := decide_eq_false t3
              go_wp2
              refine wp_region_quiet_below (by kernel_rfl) (by kernel_rfl) ?_
              (repeat (go_big_quiet_step ((go_at_call 65; exact Calls.regrown_of (impl_upper_c xs[k] _)))))
              refine wpQuiet_nil ?_
              intro w1 hw1
              have hb := below_of_regrown hw1
              clear hw1
              go_wp2
              exact ⟨⟨k + 1, by omega, by go_num, heldTo_step HP.out hlt hlt2 (by simp [outB, *]), (ext_trans (ext_trans HB.out (ext_alloc _ _)) hb)⟩, by simp [intOf]; omega⟩
          · have s2 : decide (0 ≤ xs[k].most) = false := decide_eq_false t2
            go_wp2
            refine wp_region_quiet_below (by kernel_rfl) (by kernel_rfl) ?_
            (repeat (go_big_quiet_step ((go_at_call 65; exact Calls.regrown_of (impl_upper_c xs[k] _)))))
            refine wpQuiet_nil ?_
            intro w1 hw1
            have hb := below_of_regrown hw1
            clear hw1
            go_wp2
            exact ⟨⟨k + 1, by omega, by go_num, heldTo_step HP.out hlt hlt2 (by simp [outB, *]), (ext_trans (ext_trans HB.out (ext_alloc _ _)) hb)⟩, by simp [intOf]; omega⟩
      · have hke : k = xs.length := by omega
        have HK := Lib.hid hke
        clear hke
        have i1 : ¬ (k : Int) < xs.length := by omega
        go_wp2
        go_ret
        exact ⟨ret_bool (inBounds_true HL.out HK.out HP.out).symm, hbel⟩
  · have hd : ((xs.length : Int) == (ys.length : Int)) = false := by simp; omega
    have hd' : ((xs.length : Int) != (ys.length : Int)) = true := by simp; omega
    have HL := Lib.hid hl
    clear hl hca hcb
    go_enter Try.func28, Try.ntmps28
    go_wp2
    go_ret
    exact ⟨ret_bool (inBounds_len HL.out).symm, ext_refl _⟩


end Go.Proofs.Ytgaljjeglamcmaa
