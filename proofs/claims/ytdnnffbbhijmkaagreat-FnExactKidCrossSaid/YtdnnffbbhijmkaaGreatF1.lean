/- Contracts of small functions of this seat's program: numbers. -/
import Derived.Test.YtdnnffbbhijmkaaGreatB
namespace Go.Proofs.YtdnnffbbhijmkaaGreat
open Go.ChangeShapes Go.WideShapes Go.ChangeAt Go.RowKit
set_option linter.unusedVariables false
set_option linter.unusedSimpArgs false
set_option maxRecDepth 100000

def inB (n a b : Int) : Bool := decide (a ≤ n) && decide (n ≤ b)
theorem inB_iff {n a b : Int} : inB n a b = true ↔ a ≤ n ∧ n ≤ b := by simp [inB]
def brought (n a b : Int) : Int := if b < a ∨ n < a then a else if b < n then b else n
def clamped (n : Int) : Int := brought n 0 1048576
theorem clamped_bd (n : Int) : 0 ≤ clamped n ∧ clamped n ≤ 1048576 := by
  unfold clamped brought; split <;> (try split) <;> omega
theorem brought_bd (n a b : Int) (h : a ≤ b) : a ≤ brought n a b ∧ brought n a b ≤ b := by
  unfold brought; split <;> (try split) <;> omega
def floorDiv (a b : Int) : Int := if b < 1 then 0 else a / b
theorem tdiv_floor (a b : Int) (hb : 1 ≤ b) : a / b = if a.tmod b < 0 then a.tdiv b - 1 else a.tdiv b := by
  have h1 := Int.tmod_add_mul_tdiv a b
  have h2 : a.tmod b < b := Int.tmod_lt_of_pos a (by omega)
  have h3 : -b < a.tmod b := by
    have := Int.tmod_lt_of_pos (-a) (b := b) (by omega)
    rw [Int.neg_tmod] at this
    omega
  by_cases h : a.tmod b < 0
  · rw [if_pos h]
    have e : a = (a.tmod b + b) + b * (a.tdiv b - 1) := by rw [Int.mul_sub, Int.mul_one]; omega
    conv => lhs; rw [e]
    rw [Int.add_mul_ediv_left _ _ (by omega), Int.ediv_eq_zero_of_lt (by omega) (by omega)]
    omega
  · rw [if_neg h]
    have e : a = a.tmod b + b * a.tdiv b := by omega
    conv => lhs; rw [e]
    rw [Int.add_mul_ediv_left _ _ (by omega), Int.ediv_eq_zero_of_lt (by omega) (by omega)]
    omega
theorem tdiv_bd (a b : Int) (hb : 1 ≤ b) : (0 ≤ a → 0 ≤ a.tdiv b ∧ a.tdiv b ≤ a) ∧ (a ≤ 0 → a ≤ a.tdiv b ∧ a.tdiv b ≤ 0) := by
  have h1 := Int.natAbs_tdiv_le_natAbs a b
  refine ⟨fun h => ?_, fun h => ?_⟩
  · have := Int.tdiv_nonneg h (by omega : 0 ≤ b)
    omega
  · have := Int.tdiv_nonneg (by omega : 0 ≤ -a) (by omega : 0 ≤ b)
    rw [Int.neg_tdiv] at this
    omega
theorem tdiv_wrap (a b : Int) (hb : 1 ≤ b) (ha : R64 a) : wrap64 (a.tdiv b) = a.tdiv b := by
  have h := tdiv_bd a b hb
  unfold R64 at ha
  exact IntWalk.wrap64_in _ (by omega)
theorem tdiv_wrap1 (a b : Int) (hb : 1 ≤ b) (ha : R64 a) (hm : a.tmod b < 0) : wrap64 (a.tdiv b - 1) = a.tdiv b - 1 := by
  have h := tdiv_bd a b hb
  have h1 := Int.tmod_add_mul_tdiv a b
  unfold R64 at ha
  have h2 : 2 ≤ b := by
    rcases Int.lt_or_le b 2 with h | h
    · have : b = 1 := by omega
      subst this
      simp at hm
    · exact h
  have h0 : a < 0 := by
    rcases Int.lt_or_le a 0 with h | h
    · exact h
    · have := Int.tmod_nonneg b h; omega
  have h3 : b * a.tdiv b ≤ 2 * a.tdiv b := Int.mul_le_mul_of_nonpos_right h2 (h.2 (by omega)).2
  have h4 : -b < a.tmod b := by
    have := Int.tmod_lt_of_pos (-a) (b := b) (by omega)
    rw [Int.neg_tmod] at this
    omega
  have h5 : a < a.tdiv b := by
    rcases Int.lt_or_le (a.tdiv b) 0 with h | h
    · omega
    · omega
  exact IntWalk.wrap64_in _ (by omega)

theorem impl_in_c (n a b : Int) (w : World) :
    Calls Tryz.prog 154 #[.int .i64 n, .int .i64 a, .int .i64 b] w fun e w' => e = .returned (.bool (inB n a b)) ∧ w = w' := by
  go_enter Tryz.func154, Tryz.ntmps154
  go_wp2
  all_goals go_ret
  all_goals exact ⟨ret_bool (by first | (simp [inB, *]; done) | (simp [inB]; omega)), rfl⟩

theorem spec_l01In_c (n a b : Int) (w : World) :
    Calls Tryz.prog 149 #[.int .i64 n, .int .i64 a, .int .i64 b] w fun e w' => e = .returned (.bool (inB n a b)) ∧ w = w' := by
  go_enter Tryz.func149, Tryz.ntmps149
  go_wp2
  all_goals go_ret
  all_goals exact ⟨ret_bool (by first | (simp [inB, *]; done) | (simp [inB]; omega)), rfl⟩

theorem impl_Brought_c (n a b : Int) (w : World) :
    Calls Tryz.prog 298 #[.int .i64 n, .int .i64 a, .int .i64 b] w fun e w' => e = .returned (.int .i64 (brought n a b)) ∧ w = w' := by
  go_enter Tryz.func298, Tryz.ntmps298
  go_wp2
  all_goals go_ret
  all_goals exact ⟨ret_int (by unfold brought; (repeat' split) <;> omega), rfl⟩

theorem spec_Brought_c (n a b : Int) (w : World) :
    Calls Tryz.prog 282 #[.int .i64 n, .int .i64 a, .int .i64 b] w fun e w' => e = .returned (.int .i64 (brought n a b)) ∧ w = w' := by
  go_enter Tryz.func282, Tryz.ntmps282
  go_wp2
  all_goals go_ret
  all_goals exact ⟨ret_int (by unfold brought; (repeat' split) <;> omega), rfl⟩

theorem impl_Clamped_c (n : Int) (w : World) :
    Calls Tryz.prog 213 #[.int .i64 n] w fun e w' => e = .returned (.int .i64 (clamped n)) ∧ w = w' := by
  go_enter Tryz.func213, Tryz.ntmps213
  go_wp2_with (go_at_call 298; refine (impl_Brought_c _ _ _ _).mono ?_; rintro e w' ⟨rfl, rfl⟩)
  go_ret
  exact ⟨rfl, rfl⟩

theorem spec_Clamped_c (n : Int) (w : World) :
    Calls Tryz.prog 200 #[.int .i64 n] w fun e w' => e = .returned (.int .i64 (clamped n)) ∧ w = w' := by
  go_enter Tryz.func200, Tryz.ntmps200
  go_wp2_with (go_at_call 282; refine (spec_Brought_c _ _ _ _).mono ?_; rintro e w' ⟨rfl, rfl⟩)
  go_ret
  exact ⟨rfl, rfl⟩

theorem impl_FloorDiv_c (a b : Int) (ha : R64 a) (hb : R64 b) (w : World) :
    Calls Tryz.prog 228 #[.int .i64 a, .int .i64 b] w fun e w' => e = .returned (.int .i64 (floorDiv a b)) ∧ w = w' := by
  by_cases h1 : b < 1
  · clear ha hb
    go_enter Tryz.func228, Tryz.ntmps228
    go_wp2
    all_goals go_ret
    all_goals exact ⟨ret_int (by simp [floorDiv, *]), rfl⟩
  · have hd := tdiv_floor a b (by omega)
    have hq := tdiv_wrap a b (by omega) ha
    have hq1 := tdiv_wrap1 a b (by omega) ha
    have HD := Lib.hid hd
    have HQ := Lib.hid hq
    have HQ1 := Lib.hid hq1
    clear hd hq hq1 ha hb
    go_enter Tryz.func228, Tryz.ntmps228
    go_wp2
    all_goals go_ret
    all_goals refine ⟨ret_int ?_, rfl⟩
    · rw [HQ.out, HQ1.out (by assumption)]; unfold floorDiv; rw [if_neg (by omega), HD.out, if_pos (by assumption)]
    · rw [HQ.out]; unfold floorDiv; rw [if_neg (by omega), HD.out, if_neg (by omega)]

theorem spec_FloorDiv_c (a b : Int) (ha : R64 a) (hb : R64 b) (w : World) :
    Calls Tryz.prog 225 #[.int .i64 a, .int .i64 b] w fun e w' => e = .returned (.int .i64 (floorDiv a b)) ∧ w = w' := by
  by_cases h1 : b < 1
  · clear ha hb
    go_enter Tryz.func225, Tryz.ntmps225
    go_wp2
    all_goals go_ret
    all_goals exact ⟨ret_int (by simp [floorDiv, *]), rfl⟩
  · have hd := tdiv_floor a b (by omega)
    have hq := tdiv_wrap a b (by omega) ha
    have hq1 := tdiv_wrap1 a b (by omega) ha
    have HD := Lib.hid hd
    have HQ := Lib.hid hq
    have HQ1 := Lib.hid hq1
    clear hd hq hq1 ha hb
    go_enter Tryz.func225, Tryz.ntmps225
    go_wp2
    all_goals go_ret
    all_goals refine ⟨ret_int ?_, rfl⟩
    · rw [HQ.out, HQ1.out (by assumption)]; unfold floorDiv; rw [if_neg (by omega), HD.out, if_pos (by assumption)]
    · rw [HQ.out]; unfold floorDiv; rw [if_neg (by omega), HD.out, if_neg (by omega)]

def snapTo (n step : Int) : Int := if inB step 1 4096 = true ∧ inB n (-1000000000) 1000000000 = true then floorDiv (2 * n + step) (2 * step) * step else n

end Go.Proofs.YtdnnffbbhijmkaaGreat
