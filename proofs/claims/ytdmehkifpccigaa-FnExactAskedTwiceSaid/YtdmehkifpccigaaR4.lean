/- Contracts of AskedTwice. -/
import Derived.Test.YtdmehkifpccigaaS
import Derived.Test.YtdmehkifpccigaaI2
import Derived.Laws.StructEq
namespace Go.Proofs.Ytdmehkifpccigaa
open Go.ChangeShapes Go.WideShapes Go.ChangeAt Go.RowKit
set_option linter.unusedVariables false
set_option linter.unusedSimpArgs false
set_option maxRecDepth 100000

def askedTwice (xs : List GAsked) : Bool := decide (¬ xs.Nodup)
def CleanIn (xs : List GAsked) (k m : Nat) : Prop := ∀ j, j < m → xs[k]? ≠ xs[j]?
def CleanTo (xs : List GAsked) (k : Nat) : Prop := ∀ i, i < k → CleanIn xs i i
theorem twice_hit {xs : List GAsked} {i j : Nat} (hi : i < xs.length) (hj : j < xs.length) (hlt : j < i) (h : xs[i] = xs[j]) : askedTwice xs = true :=
  decide_eq_true (fun hn => (List.pairwise_iff_getElem.1 hn) j i hj hi hlt h.symm)
theorem twice_none {xs : List GAsked} {k : Nat} (hk : k = xs.length) (h : CleanTo xs k) : askedTwice xs = false :=
  decide_eq_false (fun hn => hn (List.pairwise_iff_getElem.2 (fun j i hj hi hlt he => h i (by omega) j hlt (by rw [List.getElem?_eq_getElem hi, List.getElem?_eq_getElem hj, he]))))
theorem cleanIn_step {xs : List GAsked} {k m : Nat} (h : CleanIn xs k m) (hk : k < xs.length) (hm : m < xs.length) (hne : ¬ xs[k] = xs[m]) : CleanIn xs k (m + 1) := fun j hj => by
  by_cases he : j = m
  · subst he; rw [List.getElem?_eq_getElem hk, List.getElem?_eq_getElem hm]; intro hs; exact hne (Option.some.inj hs)
  · exact h j (by omega)
theorem cleanTo_step {xs : List GAsked} {k m : Nat} (h : CleanTo xs k) (hm : m = k) (h2 : CleanIn xs k m) : CleanTo xs (k + 1) := fun i hi => by
  by_cases he : i = k
  · subst he; subst hm; exact h2
  · exact h i (by omega)
theorem space_eq (a b c d : Int) (w : World) : (Op.equalIn 9999 85 (.agg #[.int .i64 a, .int .i64 b]) (.agg #[.int .i64 c, .int .i64 d])).run Try.prog w = .ok (decide (a = c ∧ b = d)) w := by
  have u3 := Try.underlying3
  have a3 := Try.isAgg3
  have z3 := Try.sizeOf3
  rw [show (9999 : Nat) = 9998 + 1 from rfl, run_equalIn_agg w 9998 85 _ _ (by kernel_rfl) (by kernel_rfl)]
  simp only [Program.fieldsOf, Try.underlying85]
  go_simp
  by_cases h1 : a = c <;> by_cases h2 : b = d <;> simp [h1, h2]
theorem asked_eq (a b : GAsked) (w : World) : (Op.equalIn 10000 87 (.agg #[.int .i64 a.node, .int .i64 a.wide.mode, .int .i64 a.wide.n, .int .i64 a.high.mode, .int .i64 a.high.n, .bool a.rtl]) (.agg #[.int .i64 b.node, .int .i64 b.wide.mode, .int .i64 b.wide.n, .int .i64 b.high.mode, .int .i64 b.high.n, .bool b.rtl])).run Try.prog w = .ok (decide (a = b)) w := by
  have u3 := Try.underlying3
  have a3 := Try.isAgg3
  have z3 := Try.sizeOf3
  have se := space_eq
  rw [show (10000 : Nat) = 9999 + 1 from rfl, run_equalIn_agg w 9999 87 _ _ (by kernel_rfl) (by kernel_rfl)]
  simp only [Program.fieldsOf, Try.underlying87]
  go_simp
  by_cases h1 : a.node = b.node <;> by_cases h2 : a.wide.mode = b.wide.mode <;> by_cases h3 : a.wide.n = b.wide.n <;> by_cases h4 : a.high.mode = b.high.mode <;> by_cases h5 : a.high.n = b.high.n <;> by_cases h6 : a.rtl = b.rtl <;> simp [GAsked.eq_iff, GSpace.eq_iff, h1, h2, h3, h4, h5, h6]
@[go_sem high] theorem asked_eql (a b : GAsked) (w : World) : (binOp .eql 87 (.agg #[.int .i64 a.node, .int .i64 a.wide.mode, .int .i64 a.wide.n, .int .i64 a.high.mode, .int .i64 a.high.n, .bool a.rtl]) (.agg #[.int .i64 b.node, .int .i64 b.wide.mode, .int .i64 b.wide.n, .int .i64 b.high.mode, .int .i64 b.high.n, .bool b.rtl])).run Try.prog w = .ok (.bool (decide (a = b))) w := by
  rw [run_eql_struct, asked_eq]
  rfl
@[go_sem] theorem asked_guard (op : BinOp) (x y : Operand) (xs ys : Array Value) (w : World) : (eqGuard op 87 x y (.agg xs) (.agg ys)).run Try.prog w = .ok () w :=
  run_eqGuard_agg w op 87 x y xs ys (by kernel_rfl)

set_option maxHeartbeats 4000000 in
theorem spec_AskedTwice_c {va : Value} {xs : List GAsked} (w : World) (ha : RepS 6 GAsked.c w va xs) :
    Calls Try.prog 46 #[va] w fun e w' => e = .returned (.bool (askedTwice xs)) ∧ Below w.heap.size w w' := by
  obtain ⟨pa, ca, rfl, hla, hma, hca⟩ := GAsked.rep ha
  unfold maxLen at hma
  have HCA := Lib.hid hca
  clear ha hca
  go_enter Try.func46, Try.ntmps46
  go_wp2
  go_loopw [3] (fun i wr => ∃ k : Nat, k ≤ xs.length ∧ i = .int .i64 k ∧ Hid (CleanTo xs k) ∧ Below w.heap.size w wr) (fun i _ => xs.length - (intOf i).toNat)
  case atStart => exact ⟨0, Nat.zero_le _, rfl, fun i h => absurd h (Nat.not_lt_zero _), ext_refl _⟩
  case round =>
    obtain ⟨k, hk, rfl, HP, hbel⟩ := hrel
    by_cases hlt : k < xs.length
    · obtain ⟨b1, o1, rfl, hc1⟩ := HCA.out (by omega)
      have HC1 := Lib.hid hc1
      have HB0 := Lib.hid hbel
      clear hc1 hbel
      have i1 : (k : Int) < xs.length := by omega
      go_wp2
      go_loopw [4] (fun i wr => ∃ m : Nat, m ≤ k ∧ i = .int .i64 m ∧ Hid (CleanIn xs k m) ∧ Below w.heap.size w wr) (fun i _ => k - (intOf i).toNat)
      case atStart => exact ⟨0, Nat.zero_le _, rfl, fun i h => absurd h (Nat.not_lt_zero _), HB0.out⟩
      case round =>
        obtain ⟨m, hm, rfl, HI, hbel⟩ := hrel
        by_cases hmk : m < k
        · have hlt2 : m < xs.length := by omega
          obtain ⟨c0, c1, c2, c3, c4, c5⟩ := HC1.out k hlt
          obtain ⟨d0, d1, d2, d3, d4, d5⟩ := HC1.out m hlt2
          have c0 := ext_cell hbel c0
          have d0 := ext_cell hbel d0
          have c1 := ext_cell hbel c1
          have d1 := ext_cell hbel d1
          have c2 := ext_cell hbel c2
          have d2 := ext_cell hbel d2
          have c3 := ext_cell hbel c3
          have d3 := ext_cell hbel d3
          have c4 := ext_cell hbel c4
          have d4 := ext_cell hbel d4
          have c5 := ext_cell hbel c5
          have d5 := ext_cell hbel d5
          have l1 := World.block_lt_of_cell? _ _ c0
          simp only at l1
          have i2 : (m : Int) < k := by omega
          have i3 : (m : Int) < xs.length := by omega
          have HB := Lib.hid hbel
          clear hbel
          go_wp2
          refine wp_region_quiet_below (by kernel_rfl) (by kernel_rfl) ?_
          (repeat (go_big_quiet_step (fail)))
          refine wpQuiet_nil ?_
          intro w1 hw1
          have hb := below_of_regrown hw1
          clear hw1
          go_wp2
          · have heq : xs[k] = xs[m] := by first | assumption | (simpa using ‹decide (xs[k] = xs[m]) = true›)
            go_ret
            exact ⟨ret_bool (twice_hit hlt hlt2 hmk heq).symm, HB.out.trans (hb.mono HB.out.size)⟩
          · have hne : ¬ xs[k] = xs[m] := by first | assumption | (simpa using ‹decide (xs[k] = xs[m]) = false›)
            exact ⟨⟨m + 1, by omega, by go_num, cleanIn_step HI.out hlt hlt2 hne, HB.out.trans (hb.mono HB.out.size)⟩, by simp [intOf]; omega⟩
        · have hmk2 : m = k := by omega
          have HM := Lib.hid hmk2
          clear hmk2
          have i2 : ¬ (m : Int) < k := by omega
          go_wp2
          exact ⟨⟨k + 1, by omega, by go_num, cleanTo_step HP.out HM.out HI.out, hbel⟩, by simp [intOf]; omega⟩
    · have hke : k = xs.length := by omega
      have HK := Lib.hid hke
      clear hke
      have i1 : ¬ (k : Int) < xs.length := by omega
      go_wp2
      go_ret
      exact ⟨ret_bool (twice_none HK.out HP.out).symm, hbel⟩

set_option maxHeartbeats 4000000 in
theorem impl_AskedTwice_c {va : Value} {xs : List GAsked} (w : World) (ha : RepS 6 GAsked.c w va xs) :
    Calls Try.prog 48 #[va] w fun e w' => e = .returned (.bool (askedTwice xs)) ∧ Below w.heap.size w w' := by
  obtain ⟨pa, ca, rfl, hla, hma, hca⟩ := GAsked.rep ha
  unfold maxLen at hma
  have HCA := Lib.hid hca
  clear ha hca
  go_enter Try.func48, Try.ntmps48
  go_wp2
  go_loopw [9] (fun i wr => ∃ k : Nat, k ≤ xs.length ∧ i = .int .i64 k ∧ Hid (CleanTo xs k) ∧ Below w.heap.size w wr) (fun i _ => xs.length - (intOf i).toNat)
  case atStart => exact ⟨0, Nat.zero_le _, rfl, fun i h => absurd h (Nat.not_lt_zero _), ext_refl _⟩
  case round =>
    obtain ⟨k, hk, rfl, HP, hbel⟩ := hrel
    obtain ⟨W1, hW1⟩ : ∃ W1, W1 = wr := ⟨_, rfl⟩
    subst hW1
    by_cases hlt : k < xs.length
    · obtain ⟨b1, o1, rfl, hc1⟩ := HCA.out (by omega)
      have HC1 := Lib.hid hc1
      obtain ⟨c0, c1, c2, c3, c4, c5⟩ := hc1 k hlt
      have c0 := ext_cell hbel c0
      have c1 := ext_cell hbel c1
      have c2 := ext_cell hbel c2
      have c3 := ext_cell hbel c3
      have c4 := ext_cell hbel c4
      have c5 := ext_cell hbel c5
      have HB0 := Lib.hid hbel
      have hsz := hbel.size
      clear hc1 hbel
      have i1 : (k : Int) < xs.length := by omega
      have i4 : (k : Int) ≤ ca := by omega
      go_wp2
      go_loopw [18] (fun i wr2 => ∃ m : Nat, m ≤ k ∧ i = .int .i64 m ∧ Hid (CleanIn xs k m) ∧ Below w.heap.size w wr2 ∧ wr2.heap[W1.heap.size]? = some (.cells #[.int .i64 xs[k].node, .int .i64 xs[k].wide.mode, .int .i64 xs[k].wide.n, .int .i64 xs[k].high.mode, .int .i64 xs[k].high.n, .bool xs[k].rtl] 87 (0, 0))) (fun i _ => k - (intOf i).toNat)
      case atStart =>
        have hE := HB0.out
        exact ⟨0, Nat.zero_le _, rfl, fun i h => absurd h (Nat.not_lt_zero _), by repeat (first | (with_reducible exact ext_refl _) | (with_reducible assumption) | (with_reducible refine Below.setCell ?_ (by first | omega | (simp; done) | (simp; omega)) _) | (with_reducible refine below_drewN ?_ _) | (with_reducible refine Below.drew ?_) | (with_reducible refine ext_trans ?_ (by with_reducible assumption)) | (with_reducible refine ext_trans ?_ (ext_alloc _ _))), row_alloc _ _ _⟩
      case round =>
        obtain ⟨m, hm, rfl, HI, hbel, hrow⟩ := hrel
        have HR := Lib.hid hrow
        have HB := Lib.hid hbel
        by_cases hmk : m < k
        · have hlt2 : m < xs.length := by omega
          have r0 := row_cell (o := 0) hrow
          have r1 := row_cell (o := 1) hrow
          have r2 := row_cell (o := 2) hrow
          have r3 := row_cell (o := 3) hrow
          have r4 := row_cell (o := 4) hrow
          have r5 := row_cell (o := 5) hrow
          simp only [List.getElem?_toArray, List.getElem?_cons_zero, List.getElem?_cons_succ] at r0 r1 r2 r3 r4 r5
          have hsr : W1.heap.size < wr.heap.size := (Array.getElem?_eq_some_iff.1 hrow).1
          obtain ⟨d0, d1, d2, d3, d4, d5⟩ := HC1.out m hlt2
          have d0 := ext_cell hbel d0
          have d1 := ext_cell hbel d1
          have d2 := ext_cell hbel d2
          have d3 := ext_cell hbel d3
          have d4 := ext_cell hbel d4
          have d5 := ext_cell hbel d5
          have l1 := World.block_lt_of_cell? _ _ d0
          simp only at l1
          have i2 : (m : Int) < k := by omega
          have i3 : (m : Int) < xs.length := by omega
          clear hbel hrow
          go_wp2
          · have heq : xs[k] = xs[m] := by first | assumption | (simpa using ‹decide (xs[k] = xs[m]) = true›)
            go_ret
            have hE := HB.out
            exact ⟨ret_bool (twice_hit hlt hlt2 hmk heq).symm, by repeat (first | (with_reducible exact ext_refl _) | (with_reducible assumption) | (with_reducible refine Below.setCell ?_ (by first | omega | (simp; done) | (simp; omega)) _) | (with_reducible refine below_drewN ?_ _) | (with_reducible refine Below.drew ?_) | (with_reducible refine ext_trans ?_ (by with_reducible assumption)) | (with_reducible refine ext_trans ?_ (ext_alloc _ _)))⟩
          · have hne : ¬ xs[k] = xs[m] := by first | assumption | (simpa using ‹decide (xs[k] = xs[m]) = false›)
            have hE := HB.out
            exact ⟨⟨m + 1, by omega, by go_num, cleanIn_step HI.out hlt hlt2 hne, by repeat (first | (with_reducible exact ext_refl _) | (with_reducible assumption) | (with_reducible refine Below.setCell ?_ (by first | omega | (simp; done) | (simp; omega)) _) | (with_reducible refine below_drewN ?_ _) | (with_reducible refine Below.drew ?_) | (with_reducible refine ext_trans ?_ (by with_reducible assumption)) | (with_reducible refine ext_trans ?_ (ext_alloc _ _))), row_alloc_old _ HR.out⟩, by simp [intOf]; omega⟩
        · have hmk2 : m = k := by omega
          have HM := Lib.hid hmk2
          clear hmk2 hrow
          have i2 : ¬ (m : Int) < k := by omega
          go_wp2
          exact ⟨⟨k + 1, by omega, by go_num, cleanTo_step HP.out HM.out HI.out, hbel⟩, by simp [intOf]; omega⟩
    · have hke : k = xs.length := by omega
      have HK := Lib.hid hke
      clear hke
      have i1 : ¬ (k : Int) < xs.length := by omega
      go_wp2
      go_ret
      exact ⟨ret_bool (twice_none HK.out HP.out).symm, hbel⟩

end Go.Proofs.Ytdmehkifpccigaa
