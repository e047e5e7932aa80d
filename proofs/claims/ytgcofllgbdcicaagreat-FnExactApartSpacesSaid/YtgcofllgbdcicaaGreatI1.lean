/- Contracts of the laws' own helpers over slices of ints. -/
import Derived.Test.YtgcofllgbdcicaaGreatB
namespace Go.Proofs.YtgcofllgbdcicaaGreat
open Go.ChangeShapes Go.WideShapes Go.ChangeAt Go.RowKit
set_option linter.unusedVariables false
set_option linter.unusedSimpArgs false
set_option maxRecDepth 100000

theorem laws_eqIntS_c {va vb : Value} {xs ys : List Int} (w : World) (ha : RepI w va xs) (hb : RepI w vb ys) :
    Calls Tryz.prog 112 #[va, vb] w fun e w' => e = .returned (.bool (decide (xs = ys))) ∧ Below w.heap.size w w' := by
  obtain ⟨pa, ca, rfl, hla, hma, hca⟩ := ha.at
  obtain ⟨pb, cb, rfl, hlb, hmb, hcb⟩ := hb.at
  unfold maxLen at hma hmb
  clear ha hb
  by_cases hl : xs.length = ys.length
  · have hd : ((xs.length : Int) == (ys.length : Int)) = true := by simp [hl]
    have hd' : ((xs.length : Int) != (ys.length : Int)) = false := by simp [hl]
    have HL := Lib.hid hl
    have HCA := Lib.hid hca
    have HCB := Lib.hid hcb
    clear hl hca hcb
    go_enter Tryz.func112, Tryz.ntmps112
    go_wp2
    go_loopw [5] (fun i wr => ∃ k : Nat, k ≤ xs.length ∧ i = .int .i64 k ∧ xs.take k = ys.take k ∧ Below w.heap.size w wr) (fun i _ => xs.length - (intOf i).toNat)
    case atStart => exact ⟨0, Nat.zero_le _, rfl, rfl, ext_refl _⟩
    case round =>
      obtain ⟨k, hk, rfl, hpre, hbel⟩ := hrel
      have HP := Lib.hid hpre
      clear hpre
      by_cases hlt : k < xs.length
      · have hlt2 : k < ys.length := by have := HL.out; omega
        obtain ⟨b1, o1, rfl, hc1⟩ := HCA.out (by omega)
        obtain ⟨b2, o2, rfl, hc2⟩ := HCB.out (by omega)
        have e1 := ext_cell hbel (hc1 k hlt)
        have e2 := ext_cell hbel (hc2 k hlt2)
        clear hc1 hc2
        have i1 : (k : Int) < xs.length := by omega
        have i2 : (k : Int) < ys.length := by omega
        go_wp2
        go_quiet (fail)
        go_wp2
        · have hne : xs[k] ≠ ys[k] := by simpa using ‹(xs[k] != ys[k]) = true›
          go_ret
          exact ⟨ret_bool (by rw [decide_eq_false (ne_of_get hlt hlt2 hne)]), by repeat (first | (with_reducible exact ext_refl _) | (with_reducible assumption) | (with_reducible refine Below.setCell ?_ (by first | omega | (simp; done) | (simp; omega)) _) | (with_reducible refine below_drewN ?_ _) | (with_reducible refine Below.drew ?_) | (with_reducible refine ext_trans ?_ (by with_reducible assumption)) | (with_reducible refine ext_trans ?_ (ext_alloc _ _)))⟩
        · have heq : xs[k] = ys[k] := by simpa using ‹(xs[k] != ys[k]) = false›
          go_roundw
          case rel => exact ⟨k + 1, by omega, by go_num, take_eq_step hlt hlt2 HP.out heq, by repeat (first | (with_reducible exact ext_refl _) | (with_reducible assumption) | (with_reducible refine Below.setCell ?_ (by first | omega | (simp; done) | (simp; omega)) _) | (with_reducible refine below_drewN ?_ _) | (with_reducible refine Below.drew ?_) | (with_reducible refine ext_trans ?_ (by with_reducible assumption)) | (with_reducible refine ext_trans ?_ (ext_alloc _ _)))⟩
          case measure => simp [intOf]; omega
      · have hke : k = xs.length := by omega
        have HK := Lib.hid hke
        clear hke
        have i1 : ¬ (k : Int) < xs.length := by omega
        go_wp2
        go_ret
        exact ⟨ret_bool (by rw [decide_eq_true (eq_of_take HK.out HL.out HP.out)]), by repeat (first | (with_reducible exact ext_refl _) | (with_reducible assumption) | (with_reducible refine Below.setCell ?_ (by first | omega | (simp; done) | (simp; omega)) _) | (with_reducible refine below_drewN ?_ _) | (with_reducible refine Below.drew ?_) | (with_reducible refine ext_trans ?_ (by with_reducible assumption)) | (with_reducible refine ext_trans ?_ (ext_alloc _ _)))⟩
  · have hd : ((xs.length : Int) == (ys.length : Int)) = false := by simp; omega
    have hd' : ((xs.length : Int) != (ys.length : Int)) = true := by simp; omega
    have HL := Lib.hid hl
    clear hl hca hcb
    go_enter Tryz.func112, Tryz.ntmps112
    go_wp2
    go_ret
    exact ⟨ret_bool (by rw [decide_eq_false (fun e => HL.out (by rw [e]))]), ext_refl _⟩

theorem laws_toIntS_c {v : Value} {xs : List Int} (w : World) (ha : RepI w v xs) (hlen : xs.length ≤ 1048576) :
    Calls Tryz.prog 97 #[v] w (NewS 3 1 intC w xs) := by
  obtain ⟨pa, ca, rfl, hla, hma, hca⟩ := ha.at
  have HCA := Lib.hid hca
  clear ha hca hma hla
  obtain ⟨i0, hi, hz0, hz1, hz2⟩ := info_parts (show (Tryz.prog.info? 3).map (fun i => (i.zero, i.size, i.bytes)) = some (some (.int .i64 0), 1, 8) by kernel_rfl)
  have hmk : ∀ W : World, (Instr.makeSlice 44 (.int .i64 (xs.length : Int)) (.int .i64 (xs.length : Int))).run Tryz.prog W = .ok (.slice (some ⟨W.heap.size, 0, none⟩) xs.length xs.length) (W.alloc (.cells (madeCells #[.int .i64 0] (xs.length * 1)) 3)) := by
    intro W
    have := run_make (P := Tryz.prog) W 44 3 i0 (.int .i64 0) Tryz.underlying44 hi hz0 .i64 .i64 xs.length xs.length (by omega) (Int.le_refl _) (by rw [hz2]; omega) (by omega)
    simpa [hz1, Value.cells] using this
  have hfree : xs.length ≤ maxLen := by unfold maxLen; omega
  have HF := Lib.hid hfree
  clear hfree hi hz0 hz1 hz2
  go_enter Tryz.func97, Tryz.ntmps97
  go_wp2
  go_loopw [4] (fun i wr => ∃ k : Nat, k ≤ xs.length ∧ i = .int .i64 k ∧ Below w.heap.size w wr ∧ ∃ cur, wr.heap[w.heap.size]? = some (.cells cur 3 (0, 0)) ∧ Filled 1 intC xs k cur) (fun i _ => xs.length - (intOf i).toNat)
  case atStart => exact ⟨0, Nat.zero_le _, rfl, by repeat (first | (with_reducible exact ext_refl _) | (with_reducible assumption) | (with_reducible refine Below.setCell ?_ (by first | omega | (simp; done) | (simp; omega)) _) | (with_reducible refine below_drewN ?_ _) | (with_reducible refine Below.drew ?_) | (with_reducible refine ext_trans ?_ (by with_reducible assumption)) | (with_reducible refine ext_trans ?_ (ext_alloc _ _))), _, row_alloc _ _ _, Filled.zero (by simp [madeCells])⟩
  case round =>
    obtain ⟨k, hk, rfl, hbel, cur, hrow, hfill⟩ := hrel
    by_cases hlt : k < xs.length
    · obtain ⟨b, o, rfl, hc⟩ := HCA.out (by omega)
      have e1 := ext_cell hbel (hc k hlt)
      obtain ⟨u, e2⟩ := row_there (o := k) hrow (by rw [hfill.1]; omega)
      have e3 := row_free (o := k) hrow
      have HR := Lib.hid hrow
      have i1 : (k : Int) < xs.length := by omega
      clear hc hrow
      go_wp2
      exact ⟨⟨k + 1, by omega, by go_num, hbel.setCell (Nat.le_refl _) _, _, heap_setCell HR.out, hfill.one hlt⟩, by simp [intOf]; omega⟩
    · obtain rfl : k = xs.length := by omega
      have HR := Lib.hid hrow
      have i1 : ¬ (xs.length : Int) < xs.length := by omega
      clear hrow
      go_wp2
      go_ret
      exact NewS.mk (hfill.own HR.out (Nat.le_refl _) HF.out) hbel

end Go.Proofs.YtgcofllgbdcicaaGreat
