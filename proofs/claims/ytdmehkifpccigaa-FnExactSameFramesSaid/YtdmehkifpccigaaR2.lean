/- Contracts of functions over frames: compared. -/
import Derived.Test.YtdmehkifpccigaaS
import Derived.Test.YtdmehkifpccigaaI2
import Derived.StillTailTactics
import Derived.Laws.StructEq
namespace Go.Proofs.Ytdmehkifpccigaa
open Go.ChangeShapes Go.WideShapes Go.ChangeAt Go.RowKit
set_option linter.unusedVariables false
set_option linter.unusedSimpArgs false
set_option maxRecDepth 100000

theorem frame_eq (a b : GFrame) (w : World) : (Op.equalIn 10000 25 (.agg #[.int .i64 a.node, .int .i64 a.x, .int .i64 a.y, .int .i64 a.wide, .int .i64 a.high]) (.agg #[.int .i64 b.node, .int .i64 b.x, .int .i64 b.y, .int .i64 b.wide, .int .i64 b.high])).run Try.prog w = .ok (decide (a = b)) w := by
  have u3 := Try.underlying3
  have a3 := Try.isAgg3
  have z3 := Try.sizeOf3
  have hS : Try.prog.underlying 25 = some (.struct (Try.prog.fieldsOf 25)) := by kernel_rfl
  rw [show (10000 : Nat) = 9999 + 1 from rfl, run_equalIn_agg w 9999 25 _ _ hS (by kernel_rfl)]
  simp only [Program.fieldsOf, Try.underlying25]
  go_simp

  by_cases h1 : a.node = b.node <;> by_cases h2 : a.x = b.x <;> by_cases h3 : a.y = b.y <;> by_cases h4 : a.wide = b.wide <;> by_cases h5 : a.high = b.high <;> simp [GFrame.eq_iff, h1, h2, h3, h4, h5]
@[go_sem high] theorem frame_neq (a b : GFrame) (w : World) : (binOp .neq 25 (.agg #[.int .i64 a.node, .int .i64 a.x, .int .i64 a.y, .int .i64 a.wide, .int .i64 a.high]) (.agg #[.int .i64 b.node, .int .i64 b.x, .int .i64 b.y, .int .i64 b.wide, .int .i64 b.high])).run Try.prog w = .ok (.bool (!decide (a = b))) w := by
  rw [run_neq_struct, frame_eq]
  rfl
@[go_sem] theorem frame_guard (op : BinOp) (x y : Operand) (xs ys : Array Value) (w : World) : (eqGuard op 25 x y (.agg xs) (.agg ys)).run Try.prog w = .ok () w :=
  run_eqGuard_agg w op 25 x y xs ys (by kernel_rfl)

set_option maxHeartbeats 4000000 in
theorem spec_SameFrames_c {va vb : Value} {xs ys : List GFrame} (w : World) (ha : RepS 5 GFrame.c w va xs) (hb : RepS 5 GFrame.c w vb ys) :
    Calls Try.prog 43 #[va, vb] w fun e w' => e = .returned (.bool (decide (xs = ys))) ∧ Below w.heap.size w w' := by
  obtain ⟨pa, ca, rfl, hla, hma, hca⟩ := GFrame.rep ha
  obtain ⟨pb, cb, rfl, hlb, hmb, hcb⟩ := GFrame.rep hb
  unfold maxLen at hma hmb
  clear ha hb
  by_cases hl : xs.length = ys.length
  · have hd : ((xs.length : Int) == (ys.length : Int)) = true := by simp [hl]
    have hd' : ((xs.length : Int) != (ys.length : Int)) = false := by simp [hl]
    have HL := Lib.hid hl
    have HCA := Lib.hid hca
    have HCB := Lib.hid hcb
    clear hl hca hcb
    go_enter Try.func43, Try.ntmps43
    go_wp2
    go_loopw [5] (fun i wr => ∃ k : Nat, k ≤ xs.length ∧ i = .int .i64 k ∧ Hid (xs.take k = ys.take k) ∧ Below w.heap.size w wr) (fun i _ => xs.length - (intOf i).toNat)
    case atStart => exact ⟨0, Nat.zero_le _, rfl, rfl, ext_refl _⟩
    case round =>
      obtain ⟨k, hk, rfl, HP, hbel⟩ := hrel
      by_cases hlt : k < xs.length
      · have hlt2 : k < ys.length := by have := HL.out; omega
        obtain ⟨b1, o1, rfl, hc1⟩ := HCA.out (by omega)
        obtain ⟨b2, o2, rfl, hc2⟩ := HCB.out (by omega)
        obtain ⟨c0, c1, c2, c3, c4⟩ := hc1 k hlt
        obtain ⟨d0, d1, d2, d3, d4⟩ := hc2 k hlt2
        have c0 := ext_cell hbel c0
        have d0 := ext_cell hbel d0
        have c1 := ext_cell hbel c1
        have d1 := ext_cell hbel d1
        have c2 := ext_cell hbel c2
        have d2 := ext_cell hbel d2
        have c3 := ext_cell hbel c3
        have d3 := ext_cell hbel d3
        have c4 := ext_cell hbel c4
        have d4 := ext_cell hbel d4
        have l1 := World.block_lt_of_cell? _ _ c0
        have l2 := World.block_lt_of_cell? _ _ d0
        simp only at l1 l2
        clear hc1 hc2
        have i1 : (k : Int) < xs.length := by omega
        have i2 : (k : Int) < ys.length := by omega
        have HB := Lib.hid hbel
        clear hbel
        go_wp2
        refine wp_region_quiet_below (by kernel_rfl) (by kernel_rfl) ?_
        (repeat (go_big_quiet_step (fail)))
        refine wpQuiet_nil ?_
        intro w1 hw1
        have hb := below_of_regrown hw1
        clear hw1
        go_wp2
        · have hne : ¬ xs[k] = ys[k] := by first | assumption | (simpa using ‹(!decide (xs[k] = ys[k])) = true›)
          go_ret
          exact ⟨ret_bool (by rw [decide_eq_false (ne_of_get hlt hlt2 hne)]), HB.out.trans (hb.mono HB.out.size)⟩
        · have heq : xs[k] = ys[k] := by first | assumption | (simpa using ‹(!decide (xs[k] = ys[k])) = false›)
          exact ⟨⟨k + 1, by omega, by go_num, take_eq_step hlt hlt2 HP.out heq, HB.out.trans (hb.mono HB.out.size)⟩, by simp [intOf]; omega⟩
      · have hke : k = xs.length := by omega
        have HK := Lib.hid hke
        clear hke
        have i1 : ¬ (k : Int) < xs.length := by omega
        go_wp2
        go_ret
        exact ⟨ret_bool (by rw [decide_eq_true (eq_of_take HK.out HL.out HP.out)]), hbel⟩
  · have hd : ((xs.length : Int) == (ys.length : Int)) = false := by simp; omega
    have hd' : ((xs.length : Int) != (ys.length : Int)) = true := by simp; omega
    have HL := Lib.hid hl
    clear hl hca hcb
    go_enter Try.func43, Try.ntmps43
    go_wp2
    go_ret
    exact ⟨ret_bool (by rw [decide_eq_false (fun e => HL.out (by rw [e]))]), ext_refl _⟩

set_option maxHeartbeats 4000000 in
theorem impl_SameFrames_c {va vb : Value} {xs ys : List GFrame} (w : World) (ha : RepS 5 GFrame.c w va xs) (hb : RepS 5 GFrame.c w vb ys) :
    Calls Try.prog 44 #[va, vb] w fun e w' => e = .returned (.bool (decide (xs = ys))) ∧ Below w.heap.size w w' := by
  obtain ⟨pa, ca, rfl, hla, hma, hca⟩ := GFrame.rep ha
  obtain ⟨pb, cb, rfl, hlb, hmb, hcb⟩ := GFrame.rep hb
  unfold maxLen at hma hmb
  clear ha hb
  by_cases hl : xs.length = ys.length
  · have hd : ((xs.length : Int) == (ys.length : Int)) = true := by simp [hl]
    have hd' : ((xs.length : Int) != (ys.length : Int)) = false := by simp [hl]
    have HL := Lib.hid hl
    have HCA := Lib.hid hca
    have HCB := Lib.hid hcb
    clear hl hca hcb
    go_enter Try.func44, Try.ntmps44
    go_wp2
    go_loopw [13] (fun i wr => ∃ k : Nat, k ≤ xs.length ∧ i = .int .i64 k ∧ Hid (xs.take k = ys.take k) ∧ Below w.heap.size w wr) (fun i _ => xs.length - (intOf i).toNat)
    case atStart => exact ⟨0, Nat.zero_le _, rfl, rfl, ext_refl _⟩
    case round =>
      obtain ⟨k, hk, rfl, HP, hbel⟩ := hrel
      by_cases hlt : k < xs.length
      · have hlt2 : k < ys.length := by have := HL.out; omega
        obtain ⟨b1, o1, rfl, hc1⟩ := HCA.out (by omega)
        obtain ⟨b2, o2, rfl, hc2⟩ := HCB.out (by omega)
        obtain ⟨c0, c1, c2, c3, c4⟩ := hc1 k hlt
        obtain ⟨d0, d1, d2, d3, d4⟩ := hc2 k hlt2
        have c0 := ext_cell hbel c0
        have d0 := ext_cell hbel d0
        have c1 := ext_cell hbel c1
        have d1 := ext_cell hbel d1
        have c2 := ext_cell hbel c2
        have d2 := ext_cell hbel d2
        have c3 := ext_cell hbel c3
        have d3 := ext_cell hbel d3
        have c4 := ext_cell hbel c4
        have d4 := ext_cell hbel d4
        have l1 := World.block_lt_of_cell? _ _ c0
        have l2 := World.block_lt_of_cell? _ _ d0
        simp only at l1 l2
        clear hc1 hc2
        have i1 : (k : Int) < xs.length := by omega
        have i2 : (k : Int) < ys.length := by omega
        have HB := Lib.hid hbel
        clear hbel
        go_wp2
        refine wp_region_quiet_below (by kernel_rfl) (by kernel_rfl) ?_
        (repeat (go_big_quiet_step (fail)))
        refine wpQuiet_nil ?_
        intro w1 hw1
        have hb := below_of_regrown hw1
        clear hw1
        go_wp2
        · have hne : ¬ xs[k] = ys[k] := by first | assumption | (simpa using ‹(!decide (xs[k] = ys[k])) = true›)
          go_ret
          exact ⟨ret_bool (by rw [decide_eq_false (ne_of_get hlt hlt2 hne)]), HB.out.trans (hb.mono HB.out.size)⟩
        · have heq : xs[k] = ys[k] := by first | assumption | (simpa using ‹(!decide (xs[k] = ys[k])) = false›)
          exact ⟨⟨k + 1, by omega, by go_num, take_eq_step hlt hlt2 HP.out heq, HB.out.trans (hb.mono HB.out.size)⟩, by simp [intOf]; omega⟩
      · have hke : k = xs.length := by omega
        have HK := Lib.hid hke
        clear hke
        have i1 : ¬ (k : Int) < xs.length := by omega
        go_wp2
        go_ret
        exact ⟨ret_bool (by rw [decide_eq_true (eq_of_take HK.out HL.out HP.out)]), hbel⟩
  · have hd : ((xs.length : Int) == (ys.length : Int)) = false := by simp; omega
    have hd' : ((xs.length : Int) != (ys.length : Int)) = true := by simp; omega
    have HL := Lib.hid hl
    clear hl hca hcb
    go_enter Try.func44, Try.ntmps44
    go_wp2
    go_ret
    exact ⟨ret_bool (by rw [decide_eq_false (fun e => HL.out (by rw [e]))]), ext_refl _⟩

end Go.Proofs.Ytdmehkifpccigaa
