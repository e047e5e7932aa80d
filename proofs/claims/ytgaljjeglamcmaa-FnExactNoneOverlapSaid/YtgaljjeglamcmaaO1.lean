/- Contracts of NoneOverlap. -/
import Derived.Test.YtgaljjeglamcmaaS
import Derived.Test.YtgaljjeglamcmaaI2
import Derived.Test.YtgaljjeglamcmaaF3
namespace Go.Proofs.Ytgaljjeglamcmaa
open Go.ChangeShapes Go.WideShapes Go.ChangeAt Go.RowKit
set_option linter.unusedVariables false
set_option linter.unusedSimpArgs false
set_option maxRecDepth 100000

def noneOverlap (xs : List GFrame) : Bool := decide (xs.Pairwise (fun b a => overlapsB a b = false))
def ClearIn (xs : List GFrame) (k m : Nat) : Prop := ∀ j (hj : j < xs.length) (hk : k < xs.length), j < m → overlapsB xs[k] xs[j] = false
def ClearTo (xs : List GFrame) (k : Nat) : Prop := ∀ i, i < k → ClearIn xs i i
theorem none_hit {xs : List GFrame} {i j : Nat} (hi : i < xs.length) (hj : j < xs.length) (hlt : j < i) (h : overlapsB xs[i] xs[j] = true) : noneOverlap xs = false :=
  decide_eq_false (fun hn => by have := (List.pairwise_iff_getElem.1 hn) j i hj hi hlt; rw [h] at this; cases this)
theorem none_all {xs : List GFrame} {k : Nat} (hk : k = xs.length) (h : ClearTo xs k) : noneOverlap xs = true :=
  decide_eq_true (List.pairwise_iff_getElem.2 (fun j i hj hi hlt => h i (by omega) j hj hi hlt))
theorem clearIn_step {xs : List GFrame} {k m : Nat} (h : ClearIn xs k m) (hk : k < xs.length) (hm : m < xs.length) (hne : overlapsB xs[k] xs[m] = false) : ClearIn xs k (m + 1) := fun j hj hk2 hlt => by
  by_cases he : j = m
  · subst he; exact hne
  · exact h j hj hk2 (by omega)
theorem clearTo_step {xs : List GFrame} {k m : Nat} (h : ClearTo xs k) (hm : m = k) (h2 : ClearIn xs k m) : ClearTo xs (k + 1) := fun i hi => by
  by_cases he : i = k
  · subst he; subst hm; exact h2
  · exact h i (by omega)

set_option maxHeartbeats 4000000 in
theorem spec_NoneOverlap_c {va : Value} {xs : List GFrame} (w : World) (ha : RepS 5 GFrame.c w va xs) (hok : ∀ x ∈ xs, x.ok) :
    Calls Try.prog 15 #[va] w fun e w' => e = .returned (.bool (noneOverlap xs)) ∧ Below w.heap.size w w' := by
  obtain ⟨pa, ca, rfl, hla, hma, hca⟩ := GFrame.rep ha
  unfold maxLen at hma
  have HCA := Lib.hid hca
  have HOK := Lib.hid hok
  clear ha hca hok
  go_enter Try.func15, Try.ntmps15
  go_wp2
  go_loopw [3] (fun i wr => ∃ k : Nat, k ≤ xs.length ∧ i = .int .i64 k ∧ Hid (ClearTo xs k) ∧ Below w.heap.size w wr) (fun i _ => xs.length - (intOf i).toNat)
  case atStart => exact ⟨0, Nat.zero_le _, rfl, fun i h => absurd h (Nat.not_lt_zero _), ext_refl _⟩
  case round =>
    obtain ⟨k, hk, rfl, HP, hbel⟩ := hrel
    by_cases hlt : k < xs.length
    · obtain ⟨b1, o1, rfl, hc1⟩ := HCA.out (by omega)
      have HC1 := Lib.hid hc1
      have HB0 := Lib.hid hbel
      clear hc1 hbel
      have i1 : (k : Int) < xs.length := by omega
      go_wp2
      go_loopw [4] (fun i wr => ∃ m : Nat, m ≤ k ∧ i = .int .i64 m ∧ Hid (ClearIn xs k m) ∧ Below w.heap.size w wr) (fun i _ => k - (intOf i).toNat)
      case atStart => exact ⟨0, Nat.zero_le _, rfl, fun j _ _ h => absurd h (Nat.not_lt_zero _), HB0.out⟩
      case round =>
        obtain ⟨m, hm, rfl, HI, hbel⟩ := hrel
        by_cases hmk : m < k
        · have hlt2 : m < xs.length := by omega
          obtain ⟨c0, c1, c2, c3, c4⟩ := HC1.out k hlt
          obtain ⟨d0, d1, d2, d3, d4⟩ := HC1.out m hlt2
          have c0 := ext_cell hbel c0
          have d0 := ext_cell hbel d0
          have c1 := ext_cell hbel c1
          have d1 := ext_cell hbel d1
          have c2 := ext_cell hbel c2
          have d2 := ext_cell hbel d2
          have c3 := ext_cell hbel c3
          have d3 := ext_cell hbel d3
          have c4 := ext_cell hbel c4
          have d4 := ext_cell hbel d4
          have l1 := World.block_lt_of_cell? _ _ c0
          simp only at l1
          have i2 : (m : Int) < k := by omega
          have i3 : (m : Int) < xs.length := by omega
          have HB := Lib.hid hbel
          clear hbel
          go_wp2
          refine wp_region_quiet_below (by kernel_rfl) (by kernel_rfl) ?_
          (repeat (go_big_quiet_step ((go_at_call 59; exact Calls.regrown_of (spec_Overlaps_c xs[k] (HOK.out _ (List.getElem_mem hlt)) xs[m] (HOK.out _ (List.getElem_mem hlt2)) _)))))
          refine wpQuiet_nil ?_
          intro w1 hw1
          have hb := below_of_regrown hw1
          clear hw1
          go_wp2
          · have heq : overlapsB xs[k] xs[m] = true := by assumption
            go_ret
            exact ⟨ret_bool (none_hit hlt hlt2 hmk heq).symm, HB.out.trans (hb.mono HB.out.size)⟩
          · have hne : overlapsB xs[k] xs[m] = false := by assumption
            exact ⟨⟨m + 1, by omega, by go_num, clearIn_step HI.out hlt hlt2 hne, HB.out.trans (hb.mono HB.out.size)⟩, by simp [intOf]; omega⟩
        · have hmk2 : m = k := by omega
          have HM := Lib.hid hmk2
          clear hmk2
          have i2 : ¬ (m : Int) < k := by omega
          go_wp2
          exact ⟨⟨k + 1, by omega, by go_num, clearTo_step HP.out HM.out HI.out, hbel⟩, by simp [intOf]; omega⟩
    · have hke : k = xs.length := by omega
      have HK := Lib.hid hke
      clear hke
      have i1 : ¬ (k : Int) < xs.length := by omega
      go_wp2
      go_ret
      exact ⟨ret_bool (none_all HK.out HP.out).symm, hbel⟩

set_option maxHeartbeats 4000000 in
theorem impl_NoneOverlap_c {va : Value} {xs : List GFrame} (w : World) (ha : RepS 5 GFrame.c w va xs) (hok : ∀ x ∈ xs, x.ok) :
    Calls Try.prog 17 #[va] w fun e w' => e = .returned (.bool (noneOverlap xs)) ∧ Below w.heap.size w w' := by
  obtain ⟨pa, ca, rfl, hla, hma, hca⟩ := GFrame.rep ha
  unfold maxLen at hma
  have HCA := Lib.hid hca
  have HOK := Lib.hid hok
  clear ha hca hok
  go_enter Try.func17, Try.ntmps17
  go_wp2
  go_loopw [9] (fun i wr => ∃ k : Nat, k ≤ xs.length ∧ i = .int .i64 k ∧ Hid (ClearTo xs k) ∧ Below w.heap.size w wr) (fun i _ => xs.length - (intOf i).toNat)
  case atStart => exact ⟨0, Nat.zero_le _, rfl, fun i h => absurd h (Nat.not_lt_zero _), ext_refl _⟩
  case round =>
    obtain ⟨k, hk, rfl, HP, hbel⟩ := hrel
    obtain ⟨W1, hW1⟩ : ∃ W1, W1 = wr := ⟨_, rfl⟩
    subst hW1
    by_cases hlt : k < xs.length
    · obtain ⟨b1, o1, rfl, hc1⟩ := HCA.out (by omega)
      have HC1 := Lib.hid hc1
      obtain ⟨c0, c1, c2, c3, c4⟩ := hc1 k hlt
      have c0 := ext_cell hbel c0
      have c1 := ext_cell hbel c1
      have c2 := ext_cell hbel c2
      have c3 := ext_cell hbel c3
      have c4 := ext_cell hbel c4
      have HB0 := Lib.hid hbel
      have hsz := hbel.size
      clear hc1 hbel
      have i1 : (k : Int) < xs.length := by omega
      have i4 : (k : Int) ≤ ca := by omega
      go_wp2
      go_loopw [18] (fun i wr2 => ∃ m : Nat, m ≤ k ∧ i = .int .i64 m ∧ Hid (ClearIn xs k m) ∧ Below w.heap.size w wr2 ∧ wr2.heap[W1.heap.size]? = some (.cells #[.int .i64 xs[k].node, .int .i64 xs[k].x, .int .i64 xs[k].y, .int .i64 xs[k].wide, .int .i64 xs[k].high] 74 (0, 0))) (fun i _ => k - (intOf i).toNat)
      case atStart =>
        have hE := HB0.out
        exact ⟨0, Nat.zero_le _, rfl, fun j _ _ h => absurd h (Nat.not_lt_zero _), by repeat (first | (with_reducible exact ext_refl _) | (with_reducible assumption) | (with_reducible refine Below.setCell ?_ (by first | omega | (simp; done) | (simp; omega)) _) | (with_reducible refine below_drewN ?_ _) | (with_reducible refine Below.drew ?_) | (with_reducible refine ext_trans ?_ (by with_reducible assumption)) | (with_reducible refine ext_trans ?_ (ext_alloc _ _))), row_alloc _ _ _⟩
      case round =>
        obtain ⟨m, hm, rfl, HI, hbel, hrow⟩ := hrel
        have HR := Lib.hid hrow
        have HB := Lib.hid hbel
        by_cases hmk : m < k
        · have hlt2 : m < xs.length := by omega
          have r0 := row_cell (o := 0) hrow
          have r1 := row_cell (o := 1) hrow
          have r2 := row_cell (o := 2) hrow
          have r3 := row_cell (o := 3) hrow
          have r4 := row_cell (o := 4) hrow
          simp only [List.getElem?_toArray, List.getElem?_cons_zero, List.getElem?_cons_succ] at r0 r1 r2 r3 r4
          have hsr : W1.heap.size < wr.heap.size := (Array.getElem?_eq_some_iff.1 hrow).1
          obtain ⟨d0, d1, d2, d3, d4⟩ := HC1.out m hlt2
          have d0 := ext_cell hbel d0
          have d1 := ext_cell hbel d1
          have d2 := ext_cell hbel d2
          have d3 := ext_cell hbel d3
          have d4 := ext_cell hbel d4
          have l1 := World.block_lt_of_cell? _ _ d0
          simp only at l1
          have i2 : (m : Int) < k := by omega
          have i3 : (m : Int) < xs.length := by omega
          clear hbel hrow
          go_wp2_with fail
          refine (impl_Overlaps_c xs[k] (HOK.out _ (List.getElem_mem hlt)) xs[m] (HOK.out _ (List.getElem_mem hlt2)) _).mono ?_
          rintro e w2 ⟨rfl, hb⟩
          have HB2 := Lib.hid hb
          clear hb
          go_wp2
          · have heq : overlapsB xs[k] xs[m] = true := by assumption
            go_ret
            have hE := HB.out
            have hb := HB2.out
            exact ⟨ret_bool (none_hit hlt hlt2 hmk heq).symm, by repeat (first | (with_reducible exact ext_refl _) | (with_reducible assumption) | (with_reducible refine Below.setCell ?_ (by first | omega | (simp; done) | (simp; omega)) _) | (with_reducible refine below_drewN ?_ _) | (with_reducible refine Below.drew ?_) | (with_reducible refine ext_trans ?_ (by with_reducible assumption)) | (with_reducible refine ext_trans ?_ (ext_alloc _ _)))⟩
          · have hne : overlapsB xs[k] xs[m] = false := by assumption
            have hE := HB.out
            have hb := HB2.out
            exact ⟨⟨m + 1, by omega, by go_num, clearIn_step HI.out hlt hlt2 hne, by repeat (first | (with_reducible exact ext_refl _) | (with_reducible assumption) | (with_reducible refine Below.setCell ?_ (by first | omega | (simp; done) | (simp; omega)) _) | (with_reducible refine below_drewN ?_ _) | (with_reducible refine Below.drew ?_) | (with_reducible refine ext_trans ?_ (by with_reducible assumption)) | (with_reducible refine ext_trans ?_ (ext_alloc _ _))), row_ext hb (row_alloc_old _ HR.out)⟩, by simp [intOf]; omega⟩
        · have hmk2 : m = k := by omega
          have HM := Lib.hid hmk2
          clear hmk2 hrow
          have i2 : ¬ (m : Int) < k := by omega
          go_wp2
          exact ⟨⟨k + 1, by omega, by go_num, clearTo_step HP.out HM.out HI.out, hbel⟩, by simp [intOf]; omega⟩
    · have hke : k = xs.length := by omega
      have HK := Lib.hid hke
      clear hke
      have i1 : ¬ (k : Int) < xs.length := by omega
      go_wp2
      go_ret
      exact ⟨ret_bool (none_all HK.out HP.out).symm, hbel⟩

end Go.Proofs.Ytgaljjeglamcmaa
