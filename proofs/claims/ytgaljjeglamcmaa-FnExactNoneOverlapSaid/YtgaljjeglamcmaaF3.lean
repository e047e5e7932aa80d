/- Contracts of small functions of this seat's program: sums compared. -/
import Derived.Test.YtgaljjeglamcmaaF2
namespace Go.Proofs.Ytgaljjeglamcmaa
open Go.ChangeShapes Go.WideShapes Go.ChangeAt Go.RowKit
set_option linter.unusedVariables false
set_option linter.unusedSimpArgs false
set_option maxRecDepth 100000

def cmpI (n m : Int) : Int := if n < m then -1 else if m < n then 1 else 0

theorem impl_compareSum_c (n a b : Int) (hn : R64 n) (ha : R64 a) (hb : R64 b) (w : World) :
    Calls Try.prog 107 #[.int .i64 n, .int .i64 a, .int .i64 b] w fun e w' => e = .returned (.int .i64 (cmpI n (a + b))) ∧ w = w' := by
  unfold R64 at hn ha hb
  by_cases h1 : 9223372036854775807 < a + b
  · obtain ⟨s, hs, hneg⟩ : ∃ s, wrap64 (a + b) = s ∧ s < 0 := ⟨_, rfl, by unfold wrap64; omega⟩
    have hout : cmpI n (a + b) = -1 := by unfold cmpI; rw [if_pos (by omega)]
    have HO := Lib.hid hout
    have p1 : 0 < a := by omega
    have p2 : 0 < b := by omega
    clear hout h1 hn ha hb
    go_enter Try.func107, Try.ntmps107
    go_wp2
    go_ret
    exact ⟨ret_int HO.out.symm, rfl⟩
  · by_cases h2 : a + b < -9223372036854775808
    · obtain ⟨s, hs, hpos⟩ : ∃ s, wrap64 (a + b) = s ∧ 0 ≤ s := ⟨_, rfl, by unfold wrap64; omega⟩
      have hout : cmpI n (a + b) = 1 := by unfold cmpI; rw [if_neg (by omega), if_pos (by omega)]
      have HO := Lib.hid hout
      have p1 : a < 0 := by omega
      have p2 : b < 0 := by omega
      clear hout h1 h2 hn ha hb
      go_enter Try.func107, Try.ntmps107
      go_wp2
      go_ret
      exact ⟨ret_int HO.out.symm, rfl⟩
    · obtain ⟨s, hs, hs2⟩ : ∃ s, wrap64 (a + b) = s ∧ s = a + b := ⟨_, rfl, IntWalk.wrap64_in _ (by omega)⟩
      have q1 : 0 < a → 0 < b → 0 ≤ s := by omega
      have q2 : a < 0 → b < 0 → s < 0 := by omega
      have HS := Lib.hid hs2
      clear hs2 h1 h2 hn ha hb
      by_cases p1 : 0 < a
      · by_cases p2 : 0 < b
        · have p3 := q1 p1 p2
          clear q1 q2
          go_enter Try.func107, Try.ntmps107
          go_wp2
          all_goals go_ret
          all_goals exact ⟨ret_int (by have := HS.out; unfold cmpI; (repeat' split) <;> omega), rfl⟩
        · clear q1 q2
          go_enter Try.func107, Try.ntmps107
          go_wp2
          all_goals go_ret
          all_goals exact ⟨ret_int (by have := HS.out; unfold cmpI; (repeat' split) <;> omega), rfl⟩
      · by_cases p2 : a < 0
        · by_cases p3 : b < 0
          · have p4 := q2 p2 p3
            clear q1 q2
            go_enter Try.func107, Try.ntmps107
            go_wp2
            all_goals go_ret
            all_goals exact ⟨ret_int (by have := HS.out; unfold cmpI; (repeat' split) <;> omega), rfl⟩
          · clear q1 q2
            go_enter Try.func107, Try.ntmps107
            go_wp2
            all_goals go_ret
            all_goals exact ⟨ret_int (by have := HS.out; unfold cmpI; (repeat' split) <;> omega), rfl⟩
        · clear q1 q2
          go_enter Try.func107, Try.ntmps107
          go_wp2
          all_goals go_ret
          all_goals exact ⟨ret_int (by have := HS.out; unfold cmpI; (repeat' split) <;> omega), rfl⟩

def beforeB (a b w : Int) : Bool := decide (a < b + w)
theorem spec_l25Before_c (a b x : Int) (ha : R64 a) (hb : R64 b) (hx : R64 x) (w : World) :
    Calls Try.prog 106 #[.int .i64 a, .int .i64 b, .int .i64 x] w fun e w' => e = .returned (.bool (beforeB a b x)) ∧ w = w' := by
  unfold R64 at ha hb hx
  by_cases h1 : 0 < x
  · by_cases h2 : a < b
    · have hout : beforeB a b x = true := by unfold beforeB; simp; omega
      have HO := Lib.hid hout
      clear hout ha hb hx
      go_enter Try.func106, Try.ntmps106
      go_wp2
      all_goals go_ret
      all_goals exact ⟨ret_bool HO.out.symm, rfl⟩
    · have hout : beforeB a b x = decide (a - b < x) := by unfold beforeB; rw [decide_eq_decide]; omega
      have HO := Lib.hid hout
      have e1 : IntKind.u64.wrap (IntKind.u64.wrap a - IntKind.u64.wrap b) = a - b := by simp only [IntKind.wrap_u64]; omega
      have e2 : IntKind.u64.wrap x = x := by simp only [IntKind.wrap_u64]; omega
      clear hout ha hb hx
      go_enter Try.func106, Try.ntmps106
      go_wp2
      all_goals go_ret
      all_goals exact ⟨ret_bool HO.out.symm, rfl⟩
  · by_cases h2 : a < b
    · have hout : beforeB a b x = decide (-x < b - a) := by unfold beforeB; rw [decide_eq_decide]; omega
      have HO := Lib.hid hout
      have e1 : IntKind.u64.wrap (IntKind.u64.wrap b - IntKind.u64.wrap a) = b - a := by simp only [IntKind.wrap_u64]; omega
      have e2 : IntKind.u64.wrap (-IntKind.u64.wrap x) = -x := by simp only [IntKind.wrap_u64]; omega
      clear hout ha hb hx
      go_enter Try.func106, Try.ntmps106
      go_wp2
      all_goals go_ret
      all_goals exact ⟨ret_bool HO.out.symm, rfl⟩
    · have hout : beforeB a b x = false := by unfold beforeB; simp; omega
      have HO := Lib.hid hout
      clear hout ha hb hx
      go_enter Try.func106, Try.ntmps106
      go_wp2
      all_goals go_ret
      all_goals exact ⟨ret_bool HO.out.symm, rfl⟩

theorem cmp_before (a b x : Int) : decide (cmpI a (b + x) < 0) = decide (a < b + x) := by
  unfold cmpI; rw [decide_eq_decide]; (repeat' split) <;> omega
theorem cmp_ends (m a b : Int) : decide (0 ≤ cmpI m (a + b)) = decide (a + b ≤ m) := by
  unfold cmpI; rw [decide_eq_decide]; (repeat' split) <;> omega
def overlapsB (a b : GFrame) : Bool := decide (a.x < b.x + b.wide) && decide (b.x < a.x + a.wide) && decide (a.y < b.y + b.high) && decide (b.y < a.y + a.high)
def insideB (a : GFrame) (wide high : Int) : Bool := decide (0 ≤ a.x) && decide (0 ≤ a.y) && decide (a.x + a.wide ≤ wide) && decide (a.y + a.high ≤ high)
theorem overlaps_cmp (a b : GFrame) : overlapsB a b = (decide (cmpI a.x (b.x + b.wide) < 0) && decide (cmpI b.x (a.x + a.wide) < 0) && decide (cmpI a.y (b.y + b.high) < 0) && decide (cmpI b.y (a.y + a.high) < 0)) := by
  simp only [cmp_before, overlapsB]
theorem inside_cmp (a : GFrame) (u v : Int) : insideB a u v = (decide (0 ≤ a.x) && decide (0 ≤ a.y) && decide (0 ≤ cmpI u (a.x + a.wide)) && decide (0 ≤ cmpI v (a.y + a.high))) := by
  simp only [cmp_ends, insideB]

theorem impl_Overlaps_c (a : GFrame) (ha : a.ok) (b : GFrame) (hb : b.ok) (w : World) :
    Calls Try.prog 60 #[.agg #[.int .i64 a.node, .int .i64 a.x, .int .i64 a.y, .int .i64 a.wide, .int .i64 a.high], .agg #[.int .i64 b.node, .int .i64 b.x, .int .i64 b.y, .int .i64 b.wide, .int .i64 b.high]] w fun e w' => e = .returned (.bool (overlapsB a b)) ∧ Below w.heap.size w w' := by
  obtain ⟨_, hax, hay, haw, hah⟩ := ha
  obtain ⟨_, hbx, hby, hbw, hbh⟩ := hb
  go_enter Try.func60, Try.ntmps60
  go_wp2_with (go_at_call 107; refine (impl_compareSum_c _ _ _ (by assumption) (by assumption) (by assumption) _).mono ?_; rintro e w' ⟨rfl, rfl⟩)
  all_goals go_ret
  all_goals exact ⟨ret_bool (by rw [overlaps_cmp]; first | (simp [*]; done) | (simp [*]; omega) | (simp; omega)), by repeat (first | (with_reducible exact ext_refl _) | (with_reducible assumption) | (with_reducible refine Below.setCell ?_ (by first | omega | (simp; done) | (simp; omega)) _) | (with_reducible refine below_drewN ?_ _) | (with_reducible refine Below.drew ?_) | (with_reducible refine ext_trans ?_ (by with_reducible assumption)) | (with_reducible refine ext_trans ?_ (ext_alloc _ _)))⟩

theorem overlaps_before (a b : GFrame) : overlapsB a b = (beforeB a.x b.x b.wide && beforeB b.x a.x a.wide && beforeB a.y b.y b.high && beforeB b.y a.y a.high) := rfl
theorem spec_Overlaps_c (a : GFrame) (ha : a.ok) (b : GFrame) (hb : b.ok) (w : World) :
    Calls Try.prog 59 #[.agg #[.int .i64 a.node, .int .i64 a.x, .int .i64 a.y, .int .i64 a.wide, .int .i64 a.high], .agg #[.int .i64 b.node, .int .i64 b.x, .int .i64 b.y, .int .i64 b.wide, .int .i64 b.high]] w fun e w' => e = .returned (.bool (overlapsB a b)) ∧ Below w.heap.size w w' := by
  obtain ⟨_, hax, hay, haw, hah⟩ := ha
  obtain ⟨_, hbx, hby, hbw, hbh⟩ := hb
  go_enter Try.func59, Try.ntmps59
  go_wp2_with (go_at_call 106; refine (spec_l25Before_c _ _ _ (by assumption) (by assumption) (by assumption) _).mono ?_; rintro e w' ⟨rfl, rfl⟩)
  all_goals go_ret
  all_goals exact ⟨ret_bool (by rw [overlaps_before]; simp [*]), by repeat (first | (with_reducible exact ext_refl _) | (with_reducible assumption) | (with_reducible refine Below.setCell ?_ (by first | omega | (simp; done) | (simp; omega)) _) | (with_reducible refine below_drewN ?_ _) | (with_reducible refine Below.drew ?_) | (with_reducible refine ext_trans ?_ (by with_reducible assumption)) | (with_reducible refine ext_trans ?_ (ext_alloc _ _)))⟩

end Go.Proofs.Ytgaljjeglamcmaa
