/- Contracts of the laws' own helpers over slices of ints. -/
import Derived.Test.YtdnnffbbhijmkaaGreatB
namespace Go.Proofs.YtdnnffbbhijmkaaGreat
open Go.ChangeShapes Go.WideShapes Go.ChangeAt Go.RowKit
set_option linter.unusedVariables false
set_option linter.unusedSimpArgs false
set_option maxRecDepth 100000

theorem laws_eqIntS_c {va vb : Value} {xs ys : List Int} (w : World) (ha : RepI w va xs) (hb : RepI w vb ys) :
    Calls Tryz.prog 33 #[va, vb] w fun e w' => e = .returned (.bool (decide (xs = ys))) ∧ Below w.heap.size w w' := by
  obtain ⟨pa, ca, rfl, hla, hma, hca⟩ := ha.at
  obtain ⟨pb, cb, rfl, hlb, hmb, hcb⟩ := hb.at
  unfold maxLen at hma hmb
  clear ha hb
  by_cases hl : xs.length = ys.length
  · have hd : ((xs.length : Int) == (ys.length : Int)) = true := by simp [hl]
    have hd' : ((xs.length : Int) != (ys.length : Int)) = false := by simp [hl]
    have HL := Lib.hid hl
    have HCA := Lib.hid hca
    have HCB := Lib.hid hcb
    clear hl hca hcb
    go_enter Tryz.func33, Tryz.ntmps33
    go_wp2
    go_loopw [5] (fun i wr => ∃ k : Nat, k ≤ xs.length ∧ i = .int .i64 k ∧ xs.take k = ys.take k ∧ Below w.heap.size w wr) (fun i _ => xs.length - (intOf i).toNat)
    case atStart => exact ⟨0, Nat.zero_le _, rfl, rfl, ext_refl _⟩
    case round =>
      obtain ⟨k, hk, rfl, hpre, hbel⟩ := hrel
      have HP := Lib.hid hpre
      clear hpre
      by_cases hlt : k < xs.length
      · have hlt2 : k < ys.length := by have := HL.out; omega
        obtain ⟨b1, o1, rfl, hc1⟩ := HCA.out (by omega)
        obtain ⟨b2, o2, rfl, hc2⟩ := HCB.out (by omega)
        have e1 := ext_cell hbel (hc1 k hlt)
        have e2 := ext_cell hbel (hc2 k hlt2)
        clear hc1 hc2
        have i1 : (k : Int) < xs.length := by omega
        have i2 : (k : Int) < ys.length := by omega
        go_wp2
        go_quiet (fail)
        go_wp2
        · have hne : xs[k] ≠ ys[k] := by simpa using ‹(xs[k] != ys[k]) = true›
          go_ret
          exact ⟨ret_bool (by rw [decide_eq_false (ne_of_get hlt hlt2 hne)]), by repeat (first | (with_reducible exact ext_refl _) | (with_reducible assumption) | (with_reducible refine Below.setCell ?_ (by first | omega | (simp; done) | (simp; omega)) _) | (with_reducible refine below_drewN ?_ _) | (with_reducible refine Below.drew ?_) | (with_reducible refine ext_trans ?_ (by with_reducible assumption)) | (with_reducible refine ext_trans ?_ (ext_alloc _ _)))⟩
        · have heq : xs[k] = ys[k] := by simpa using ‹(xs[k] != ys[k]) = false›
          go_roundw
          case rel => exact ⟨k + 1, by omega, by go_num, take_eq_step hlt hlt2 HP.out heq, by repeat (first | (with_reducible exact ext_refl _) | (with_reducible assumption) | (with_reducible refine Below.setCell ?_ (by first | omega | (simp; done) | (simp; omega)) _) | (with_reducible refine below_drewN ?_ _) | (with_reducible refine Below.drew ?_) | (with_reducible refine ext_trans ?_ (by with_reducible assumption)) | (with_reducible refine ext_trans ?_ (ext_alloc _ _)))⟩
          case measure => simp [intOf]; omega
      · have hke : k = xs.length := by omega
        have HK := Lib.hid hke
        clear hke
        have i1 : ¬ (k : Int) < xs.length := by omega
        go_wp2
        go_ret
        exact ⟨ret_bool (by rw [decide_eq_true (eq_of_take HK.out HL.out HP.out)]), by repeat (first | (with_reducible exact ext_refl _) | (with_reducible assumption) | (with_reducible refine Below.setCell ?_ (by first | omega | (simp; done) | (simp; omega)) _) | (with_reducible refine below_drewN ?_ _) | (with_reducible refine Below.drew ?_) | (with_reducible refine ext_trans ?_ (by with_reducible assumption)) | (with_reducible refine ext_trans ?_ (ext_alloc _ _)))⟩
  · have hd : ((xs.length : Int) == (ys.length : Int)) = false := by simp; omega
    have hd' : ((xs.length : Int) != (ys.length : Int)) = true := by simp; omega
    have HL := Lib.hid hl
    clear hl hca hcb
    go_enter Tryz.func33, Tryz.ntmps33
    go_wp2
    go_ret
    exact ⟨ret_bool (by rw [decide_eq_false (fun e => HL.out (by rw [e]))]), ext_refl _⟩

theorem laws_toIntS_c {v : Value} {xs : List Int} (w : World) (ha : RepI w v xs) (hlen : xs.length ≤ 1048576) :
    Calls Tryz.prog 205 #[v] w (NewS 3 1 intC w xs) := by
  obtain ⟨pa, ca, rfl, hla, hma, hca⟩ := ha.at
  have HCA := Lib.hid hca
  clear ha hca hma hla
  obtain ⟨i0, hi, hz0, hz1, hz2⟩ := info_parts (show (Tryz.prog.info? 3).map (fun i => (i.zero, i.size, i.bytes)) = some (some (.int .i64 0), 1, 8) by kernel_rfl)
  have hmk : ∀ W : World, (Instr.makeSlice 49 (.int .i64 (xs.length : Int)) (.int .i64 (xs.length : Int))).run Tryz.prog W = .ok (.slice (some ⟨W.heap.size, 0, none⟩) xs.length xs.length) (W.alloc (.cells (madeCells #[.int .i64 0] (xs.length * 1)) 3)) := by
    intro W
    have := run_make (P := Tryz.prog) W 49 3 i0 (.int .i64 0) Tryz.underlying49 hi hz0 .i64 .i64 xs.length xs.length (by omega) (Int.le_refl _) (by rw [hz2]; omega) (by omega)
    simpa [hz1, Value.cells] using this
  have hfree : xs.length ≤ maxLen := by unfold maxLen; omega
  have HF := Lib.hid hfree
  clear hfree hi hz0 hz1 hz2
  go_enter Tryz.func205, Tryz.ntmps205
  go_wp2
  go_loopw [4] (fun i wr => ∃ k : Nat, k ≤ xs.length ∧ i = .int .i64 k ∧ Below w.heap.size w wr ∧ ∃ cur, wr.heap[w.heap.size]? = some (.cells cur 3 (0, 0)) ∧ Filled 1 intC xs k cur) (fun i _ => xs.length - (intOf i).toNat)
  case atStart => exact ⟨0, Nat.zero_le _, rfl, by repeat (first | (with_reducible exact ext_refl _) | (with_reducible assumption) | (with_reducible refine Below.setCell ?_ (by first | omega | (simp; done) | (simp; omega)) _) | (with_reducible refine below_drewN ?_ _) | (with_reducible refine Below.drew ?_) | (with_reducible refine ext_trans ?_ (by with_reducible assumption)) | (with_reducible refine ext_trans ?_ (ext_alloc _ _))), _, row_alloc _ _ _, Filled.zero (by simp [madeCells])⟩
  case round =>
    obtain ⟨k, hk, rfl, hbel, cur, hrow, hfill⟩ := hrel
    by_cases hlt : k < xs.length
    · obtain ⟨b, o, rfl, hc⟩ := HCA.out (by omega)
      have e1 := ext_cell hbel (hc k hlt)
      obtain ⟨u, e2⟩ := row_there (o := k) hrow (by rw [hfill.1]; omega)
      have e3 := row_free (o := k) hrow
      have HR := Lib.hid hrow
      have i1 : (k : Int) < xs.length := by omega
      clear hc hrow
      go_wp2
      exact ⟨⟨k + 1, by omega, by go_num, hbel.setCell (Nat.le_refl _) _, _, heap_setCell HR.out, hfill.one hlt⟩, by simp [intOf]; omega⟩
    · obtain rfl : k = xs.length := by omega
      have HR := Lib.hid hrow
      have i1 : ¬ (xs.length : Int) < xs.length := by omega
      clear hrow
      go_wp2
      go_ret
      exact NewS.mk (hfill.own HR.out (Nat.le_refl _) HF.out) hbel

theorem laws_markIntS_c {B : Nat} {v : Value} {xs : List Int} (w : World) (hv : OwnS 3 1 intC B w v xs) (k0 : Int) (h0 : 0 ≤ k0) (hk : k0 + xs.length ≤ 4611686018427387904) :
    Calls Tryz.prog 35 #[v, .int .i64 k0] w fun e w' => e = .returned (.int .i64 (k0 + xs.length)) ∧ OwnS 3 1 intC B w' v (marks k0 xs.length) ∧ Below B w w' := by
  rcases hv with ⟨rfl, rfl⟩ | ⟨b, cap, cur0, rfl, hB, hr0, hn, hm, hs, -⟩
  · go_enter Tryz.func35, Tryz.ntmps35
    go_wp2
    refine wp_loop_rounds 1 ?_
    rw [rounds_succ]
    go_wp2
    go_ret
    exact ⟨ret_int (by simp), .inl ⟨rfl, rfl⟩, Below.refl _ _⟩
  · have H := Lib.hid (And.intro hB (And.intro hn (And.intro hm hs)))
    have hsz : xs.length ≤ cap := hn
    clear hB hn hm
    generalize hN : xs.length = n at *
    clear hN xs
    have HR0 := Lib.hid hr0
    clear hr0
    go_enter Tryz.func35, Tryz.ntmps35
    go_wp2
    go_loopw [1, 5] (fun kk i wr => ∃ m : Nat, m ≤ n ∧ i = .int .i64 m ∧ kk = .int .i64 (k0 + m) ∧ Below B w wr ∧ ∃ cur, wr.heap[b]? = some (.cells cur 3 (0, 0)) ∧ cur.size = cap * 1 ∧ ∀ i, i < m → cur[i]? = some (.int .i64 (k0 + i))) (fun _ i _ => n - (intOf i).toNat)
    case atStart => exact ⟨0, Nat.zero_le _, rfl, by simp, Below.refl _ _, _, HR0.out, hs, fun i hi => absurd hi (Nat.not_lt_zero _)⟩
    case round =>
      obtain ⟨m, hmn, rfl, rfl, hbel, cur, hrow, hcs, hmk⟩ := hrel
      have HM := Lib.hid hmk
      by_cases hlt : m < n
      · obtain ⟨u, e2⟩ := row_there (o := m) hrow (by omega)
        have e3 := row_free (o := m) hrow
        have HR := Lib.hid hrow
        have HS := Lib.hid hcs
        have i1 : (m : Int) < n := by omega
        clear hrow hcs hmk hs
        go_wp2
        refine ⟨⟨m + 1, by omega, by go_num, by congr 1; omega, hbel.setCell H.out.1 _, _, heap_setCell HR.out, by simp [HS.out], fun i hi => ?_⟩, by simp [intOf]; omega⟩
        by_cases he : i = m
        · subst he
          rw [Array.getElem?_setIfInBounds, if_pos rfl, if_pos (by have := HS.out; omega)]
        · rw [Array.getElem?_setIfInBounds, if_neg (by omega)]
          exact HM.out i (by omega)
      · obtain rfl : m = n := by omega
        have HR := Lib.hid hrow
        have HS := Lib.hid hcs
        have i1 : ¬ (m : Int) < m := by omega
        clear hrow hcs hmk hs
        go_wp2
        go_ret
        exact ⟨rfl, mark_own HR.out H.out.1 H.out.2.1 H.out.2.2.1 HS.out HM.out, hbel⟩

theorem laws_heldIntS_c {v : Value} {n : Nat} {k0 : Int} (w : World) (hv : RepI w v (marks k0 n)) (h0 : 0 ≤ k0) (hk : k0 + n ≤ 4611686018427387904) :
    Calls Tryz.prog 36 #[v, .int .i64 k0] w fun e w' => e = .returned (.int .i64 (k0 + n)) ∧ w = w' := by
  obtain ⟨pa, ca, rfl, hla, hma, hca⟩ := hv.at
  have hN := marks_length k0 n
  have hca' : 0 < n → ∃ b o, pa = some ⟨b, o, none⟩ ∧ ∀ i : Nat, i < n → w.cell? ⟨b, o + i, none⟩ = some (.int .i64 (k0 + i)) := fun h => by
    obtain ⟨b, o, hp, hc⟩ := hca (by omega)
    exact ⟨b, o, hp, fun i hi => by rw [hc i (by omega), marks_get]⟩
  rw [hN]
  have HCA := Lib.hid hca'
  clear hca hca' hN hv hma hla
  go_enter Tryz.func36, Tryz.ntmps36
  go_wp2
  go_loop [1, 5] (fun kk i => ∃ m : Nat, m ≤ n ∧ i = .int .i64 m ∧ kk = .int .i64 (k0 + m)) (fun _ i => n - (intOf i).toNat)
  case atStart => exact ⟨0, Nat.zero_le _, rfl, by simp⟩
  case round =>
    obtain ⟨m, hmn, rfl, rfl⟩ := hrel
    by_cases hlt : m < n
    · obtain ⟨b, o, rfl, hc⟩ := HCA.out (by omega)
      have e1 := hc m hlt
      have i1 : (m : Int) < n := by omega
      clear hc
      go_wp2
      exact ⟨⟨m + 1, by omega, by go_num, by congr 1; omega⟩, by simp [intOf]; omega⟩
    · obtain rfl : m = n := by omega
      have i1 : ¬ (m : Int) < m := by omega
      go_wp2
      go_ret
      exact ⟨rfl, rfl⟩

end Go.Proofs.YtdnnffbbhijmkaaGreat
