/- Contracts of the laws' own helpers over flat structs and over slices of them. -/
import Derived.Test.YtdnnffbbhijmkaaGreatI1
import Derived.Test.YtdnnffbbhijmkaaGreatF2
namespace Go.Proofs.YtdnnffbbhijmkaaGreat
open Go.ChangeShapes Go.WideShapes Go.ChangeAt Go.RowKit
set_option linter.unusedVariables false
set_option linter.unusedSimpArgs false
set_option maxRecDepth 100000

theorem filled_step {α : Type} {k : Nat} {c : α → Array Value} {xs : List α} {m : Nat} {cur cur' : Array Value} (h : Filled k c xs m cur) (hm : m < xs.length) (hs : cur'.size = cur.size)
    (hn : ∀ j, j < k → ∃ u, (c xs[m])[j]? = some u ∧ cur'[m * k + j]? = some u) (ho : ∀ i, i < m → ∀ j, j < k → cur'[i * k + j]? = cur[i * k + j]?) : Filled k c xs (m + 1) cur' := by
  obtain ⟨h1, h2⟩ := h
  refine ⟨by rw [hs, h1], fun i hi him j hj => ?_⟩
  by_cases he : i = m
  · subst he
    exact hn j hj
  · rw [ho i (by omega) j hj]
    exact h2 i hi (by omega) j hj


/-- A slice of these, in the walk's own terms. -/
def GSpace.At (w : World) (b o : Nat) (xs : List GSpace) : Prop := ∀ (i : Nat) (h : i < xs.length), w.cell? ⟨b, o + i * 2, none⟩ = some (.int .i64 (xs[i]).mode) ∧ w.cell? ⟨b, o + i * 2 + 1, none⟩ = some (.int .i64 (xs[i]).n)
theorem GSpace.rep {w : World} {v : Value} {xs : List GSpace} (h : RepS 2 GSpace.c w v xs) : ∃ p cap, v = .slice p xs.length cap ∧ xs.length ≤ cap ∧ cap ≤ maxLen ∧
    (0 < xs.length → ∃ b o, p = some ⟨b, o, none⟩ ∧ GSpace.At w b o xs) := by
  obtain ⟨p, cap, hv, h1, h2, h3⟩ := h
  refine ⟨p, cap, hv, h1, h2, fun h0 => ?_⟩
  obtain ⟨b, o, hp, hc⟩ := h3 h0
  refine ⟨b, o, hp, fun i hi => ⟨?_, ?_⟩⟩
  · obtain ⟨u, hu, hcu⟩ := hc i hi 0 (by omega); simp [GSpace.c] at hu; subst hu; exact hcu
  · obtain ⟨u, hu, hcu⟩ := hc i hi 1 (by omega); simp [GSpace.c] at hu; subst hu; exact hcu
theorem GSpace.fill {xs : List GSpace} {m : Nat} {cur : Array Value} (h : Filled 2 GSpace.c xs m cur) (hm : m < xs.length) : Filled 2 GSpace.c xs (m + 1) ((cur.setIfInBounds (m * 2) (.int .i64 (xs[m]).mode)).setIfInBounds (m * 2 + 1) (.int .i64 (xs[m]).n)) := by
  have hsz := h.1
  refine filled_step h hm (by simp) (fun j hj => ?_) (fun i hi j hj => ?_)
  · have hb : m * 2 + 2 ≤ cur.size := by omega
    match j, hj with
    | 0, _ => exact ⟨.int .i64 (xs[m]).mode, rfl, by rw [Array.getElem?_setIfInBounds, if_neg (by omega)]; rw [Array.getElem?_setIfInBounds, if_pos (by omega), if_pos (by (try simp only [Array.size_setIfInBounds]); omega)]⟩
    | 1, _ => exact ⟨.int .i64 (xs[m]).n, rfl, by rw [Array.getElem?_setIfInBounds, if_pos (by omega), if_pos (by (try simp only [Array.size_setIfInBounds]); omega)]⟩
  · rw [Array.getElem?_setIfInBounds, if_neg (by omega)]; rw [Array.getElem?_setIfInBounds, if_neg (by omega)]


set_option maxHeartbeats 4000000 in
theorem laws_toSpace_c (x : GSpace) (w : World) :
    Calls Tryz.prog 18 #[.agg #[.int .i64 x.mode, .int .i64 x.n]] w fun e w' => e = .returned (.agg #[.int .i64 x.mode, .int .i64 x.n]) ∧ Below w.heap.size w w' := by
  go_enter Tryz.func18, Tryz.ntmps18
  go_wp2
  refine bodyPost_ret (v := .agg #[.int .i64 x.mode, .int .i64 x.n]) (by simp [results, Tryz.results18, go_sem, *]) rfl ⟨rfl, by repeat (first | (with_reducible exact ext_refl _) | (with_reducible assumption) | (with_reducible refine Below.setCell ?_ (by first | omega | (simp; done) | (simp; omega)) _) | (with_reducible refine below_drewN ?_ _) | (with_reducible refine Below.drew ?_) | (with_reducible refine ext_trans ?_ (by with_reducible assumption)) | (with_reducible refine ext_trans ?_ (ext_alloc _ _)))⟩

theorem GSpace.eq_iff (a b : GSpace) : a = b ↔ a.mode = b.mode ∧ a.n = b.n := by
  cases a; cases b; simp
theorem laws_eqSpace_c (a b : GSpace) (w : World) :
    Calls Tryz.prog 20 #[.agg #[.int .i64 a.mode, .int .i64 a.n], .agg #[.int .i64 b.mode, .int .i64 b.n]] w fun e w' => e = .returned (.bool (decide (a = b))) ∧ Below w.heap.size w w' := by
  go_enter Tryz.func20, Tryz.ntmps20
  go_wp2
  all_goals go_ret
  all_goals exact ⟨ret_bool (by first | (exact (decide_eq_false (fun e => (show ¬ a.mode = b.mode by first | assumption | (simpa using ‹(a.mode != b.mode) = true›)) (by rw [e]))).symm) | (exact (decide_eq_false (fun e => (show ¬ a.n = b.n by first | assumption | (simpa using ‹(a.n != b.n) = true›)) (by rw [e]))).symm) | (exact (decide_eq_true ((GSpace.eq_iff a b).2 ⟨by first | assumption | (simpa using ‹(a.mode != b.mode) = false›), by first | assumption | (simpa using ‹(a.n != b.n) = false›)⟩)).symm)), by repeat (first | (with_reducible exact ext_refl _) | (with_reducible assumption) | (with_reducible refine Below.setCell ?_ (by first | omega | (simp; done) | (simp; omega)) _) | (with_reducible refine below_drewN ?_ _) | (with_reducible refine Below.drew ?_) | (with_reducible refine ext_trans ?_ (by with_reducible assumption)) | (with_reducible refine ext_trans ?_ (ext_alloc _ _)))⟩

/-- A slice of these, in the walk's own terms. -/
def GFrame.At (w : World) (b o : Nat) (xs : List GFrame) : Prop := ∀ (i : Nat) (h : i < xs.length), w.cell? ⟨b, o + i * 5, none⟩ = some (.int .i64 (xs[i]).node) ∧ w.cell? ⟨b, o + i * 5 + 1, none⟩ = some (.int .i64 (xs[i]).x) ∧ w.cell? ⟨b, o + i * 5 + 2, none⟩ = some (.int .i64 (xs[i]).y) ∧ w.cell? ⟨b, o + i * 5 + 3, none⟩ = some (.int .i64 (xs[i]).wide) ∧ w.cell? ⟨b, o + i * 5 + 4, none⟩ = some (.int .i64 (xs[i]).high)
theorem GFrame.rep {w : World} {v : Value} {xs : List GFrame} (h : RepS 5 GFrame.c w v xs) : ∃ p cap, v = .slice p xs.length cap ∧ xs.length ≤ cap ∧ cap ≤ maxLen ∧
    (0 < xs.length → ∃ b o, p = some ⟨b, o, none⟩ ∧ GFrame.At w b o xs) := by
  obtain ⟨p, cap, hv, h1, h2, h3⟩ := h
  refine ⟨p, cap, hv, h1, h2, fun h0 => ?_⟩
  obtain ⟨b, o, hp, hc⟩ := h3 h0
  refine ⟨b, o, hp, fun i hi => ⟨?_, ?_, ?_, ?_, ?_⟩⟩
  · obtain ⟨u, hu, hcu⟩ := hc i hi 0 (by omega); simp [GFrame.c] at hu; subst hu; exact hcu
  · obtain ⟨u, hu, hcu⟩ := hc i hi 1 (by omega); simp [GFrame.c] at hu; subst hu; exact hcu
  · obtain ⟨u, hu, hcu⟩ := hc i hi 2 (by omega); simp [GFrame.c] at hu; subst hu; exact hcu
  · obtain ⟨u, hu, hcu⟩ := hc i hi 3 (by omega); simp [GFrame.c] at hu; subst hu; exact hcu
  · obtain ⟨u, hu, hcu⟩ := hc i hi 4 (by omega); simp [GFrame.c] at hu; subst hu; exact hcu
theorem GFrame.fill {xs : List GFrame} {m : Nat} {cur : Array Value} (h : Filled 5 GFrame.c xs m cur) (hm : m < xs.length) : Filled 5 GFrame.c xs (m + 1) (((((cur.setIfInBounds (m * 5) (.int .i64 (xs[m]).node)).setIfInBounds (m * 5 + 1) (.int .i64 (xs[m]).x)).setIfInBounds (m * 5 + 2) (.int .i64 (xs[m]).y)).setIfInBounds (m * 5 + 3) (.int .i64 (xs[m]).wide)).setIfInBounds (m * 5 + 4) (.int .i64 (xs[m]).high)) := by
  have hsz := h.1
  refine filled_step h hm (by simp) (fun j hj => ?_) (fun i hi j hj => ?_)
  · have hb : m * 5 + 5 ≤ cur.size := by omega
    match j, hj with
    | 0, _ => exact ⟨.int .i64 (xs[m]).node, rfl, by rw [Array.getElem?_setIfInBounds, if_neg (by omega)]; rw [Array.getElem?_setIfInBounds, if_neg (by omega)]; rw [Array.getElem?_setIfInBounds, if_neg (by omega)]; rw [Array.getElem?_setIfInBounds, if_neg (by omega)]; rw [Array.getElem?_setIfInBounds, if_pos (by omega), if_pos (by (try simp only [Array.size_setIfInBounds]); omega)]⟩
    | 1, _ => exact ⟨.int .i64 (xs[m]).x, rfl, by rw [Array.getElem?_setIfInBounds, if_neg (by omega)]; rw [Array.getElem?_setIfInBounds, if_neg (by omega)]; rw [Array.getElem?_setIfInBounds, if_neg (by omega)]; rw [Array.getElem?_setIfInBounds, if_pos (by omega), if_pos (by (try simp only [Array.size_setIfInBounds]); omega)]⟩
    | 2, _ => exact ⟨.int .i64 (xs[m]).y, rfl, by rw [Array.getElem?_setIfInBounds, if_neg (by omega)]; rw [Array.getElem?_setIfInBounds, if_neg (by omega)]; rw [Array.getElem?_setIfInBounds, if_pos (by omega), if_pos (by (try simp only [Array.size_setIfInBounds]); omega)]⟩
    | 3, _ => exact ⟨.int .i64 (xs[m]).wide, rfl, by rw [Array.getElem?_setIfInBounds, if_neg (by omega)]; rw [Array.getElem?_setIfInBounds, if_pos (by omega), if_pos (by (try simp only [Array.size_setIfInBounds]); omega)]⟩
    | 4, _ => exact ⟨.int .i64 (xs[m]).high, rfl, by rw [Array.getElem?_setIfInBounds, if_pos (by omega), if_pos (by (try simp only [Array.size_setIfInBounds]); omega)]⟩
  · rw [Array.getElem?_setIfInBounds, if_neg (by omega)]; rw [Array.getElem?_setIfInBounds, if_neg (by omega)]; rw [Array.getElem?_setIfInBounds, if_neg (by omega)]; rw [Array.getElem?_setIfInBounds, if_neg (by omega)]; rw [Array.getElem?_setIfInBounds, if_neg (by omega)]


theorem GFrame.eq_iff (a b : GFrame) : a = b ↔ a.node = b.node ∧ a.x = b.x ∧ a.y = b.y ∧ a.wide = b.wide ∧ a.high = b.high := by
  cases a; cases b; simp
theorem laws_eqFrame_c (a b : GFrame) (w : World) :
    Calls Tryz.prog 30 #[.agg #[.int .i64 a.node, .int .i64 a.x, .int .i64 a.y, .int .i64 a.wide, .int .i64 a.high], .agg #[.int .i64 b.node, .int .i64 b.x, .int .i64 b.y, .int .i64 b.wide, .int .i64 b.high]] w fun e w' => e = .returned (.bool (decide (a = b))) ∧ Below w.heap.size w w' := by
  go_enter Tryz.func30, Tryz.ntmps30
  go_wp2
  all_goals go_ret
  all_goals exact ⟨ret_bool (by first | (exact (decide_eq_false (fun e => (show ¬ a.node = b.node by first | assumption | (simpa using ‹(a.node != b.node) = true›)) (by rw [e]))).symm) | (exact (decide_eq_false (fun e => (show ¬ a.x = b.x by first | assumption | (simpa using ‹(a.x != b.x) = true›)) (by rw [e]))).symm) | (exact (decide_eq_false (fun e => (show ¬ a.y = b.y by first | assumption | (simpa using ‹(a.y != b.y) = true›)) (by rw [e]))).symm) | (exact (decide_eq_false (fun e => (show ¬ a.wide = b.wide by first | assumption | (simpa using ‹(a.wide != b.wide) = true›)) (by rw [e]))).symm) | (exact (decide_eq_false (fun e => (show ¬ a.high = b.high by first | assumption | (simpa using ‹(a.high != b.high) = true›)) (by rw [e]))).symm) | (exact (decide_eq_true ((GFrame.eq_iff a b).2 ⟨by first | assumption | (simpa using ‹(a.node != b.node) = false›), by first | assumption | (simpa using ‹(a.x != b.x) = false›), by first | assumption | (simpa using ‹(a.y != b.y) = false›), by first | assumption | (simpa using ‹(a.wide != b.wide) = false›), by first | assumption | (simpa using ‹(a.high != b.high) = false›)⟩)).symm)), by repeat (first | (with_reducible exact ext_refl _) | (with_reducible assumption) | (with_reducible refine Below.setCell ?_ (by first | omega | (simp; done) | (simp; omega)) _) | (with_reducible refine below_drewN ?_ _) | (with_reducible refine Below.drew ?_) | (with_reducible refine ext_trans ?_ (by with_reducible assumption)) | (with_reducible refine ext_trans ?_ (ext_alloc _ _)))⟩

set_option maxHeartbeats 4000000 in
theorem laws_eqFrameS_c {va vb : Value} {xs ys : List GFrame} (w : World) (ha : RepS 5 GFrame.c w va xs) (hb : RepS 5 GFrame.c w vb ys) :
    Calls Tryz.prog 54 #[va, vb] w fun e w' => e = .returned (.bool (decide (xs = ys))) ∧ Below w.heap.size w w' := by
  obtain ⟨pa, ca, rfl, hla, hma, hca⟩ := GFrame.rep ha
  obtain ⟨pb, cb, rfl, hlb, hmb, hcb⟩ := GFrame.rep hb
  unfold maxLen at hma hmb
  clear ha hb
  by_cases hl : xs.length = ys.length
  · have hd : ((xs.length : Int) == (ys.length : Int)) = true := by simp [hl]
    have hd' : ((xs.length : Int) != (ys.length : Int)) = false := by simp [hl]
    have HL := Lib.hid hl
    have HCA := Lib.hid hca
    have HCB := Lib.hid hcb
    clear hl hca hcb
    go_enter Tryz.func54, Tryz.ntmps54
    go_wp2
    go_loopw [5] (fun i wr => ∃ k : Nat, k ≤ xs.length ∧ i = .int .i64 k ∧ Hid (xs.take k = ys.take k) ∧ Below w.heap.size w wr) (fun i _ => xs.length - (intOf i).toNat)
    case atStart => exact ⟨0, Nat.zero_le _, rfl, rfl, ext_refl _⟩
    case round =>
      obtain ⟨k, hk, rfl, HP, hbel⟩ := hrel
      by_cases hlt : k < xs.length
      · have hlt2 : k < ys.length := by have := HL.out; omega
        obtain ⟨b1, o1, rfl, hc1⟩ := HCA.out (by omega)
        obtain ⟨b2, o2, rfl, hc2⟩ := HCB.out (by omega)
        obtain ⟨c0, c1, c2, c3, c4⟩ := hc1 k hlt
        obtain ⟨d0, d1, d2, d3, d4⟩ := hc2 k hlt2
        have c0 := ext_cell hbel c0
        have d0 := ext_cell hbel d0
        have c1 := ext_cell hbel c1
        have d1 := ext_cell hbel d1
        have c2 := ext_cell hbel c2
        have d2 := ext_cell hbel d2
        have c3 := ext_cell hbel c3
        have d3 := ext_cell hbel d3
        have c4 := ext_cell hbel c4
        have d4 := ext_cell hbel d4
        have l1 := World.block_lt_of_cell? _ _ c0
        have l2 := World.block_lt_of_cell? _ _ d0
        simp only at l1 l2
        clear hc1 hc2
        have i1 : (k : Int) < xs.length := by omega
        have i2 : (k : Int) < ys.length := by omega
        have HB := Lib.hid hbel
        clear hbel
        go_wp2
        refine wp_region_quiet_below (by kernel_rfl) (by kernel_rfl) ?_
        (repeat (go_big_quiet_step ((go_at_call 30; exact Calls.regrown_of (laws_eqFrame_c xs[k] ys[k] _)))))
        refine wpQuiet_nil ?_
        intro w1 hw1
        have hb := below_of_regrown hw1
        clear hw1
        go_wp2
        · have hne : ¬ xs[k] = ys[k] := by first | assumption | (simpa using ‹(!decide (xs[k] = ys[k])) = true›)
          go_ret
          exact ⟨ret_bool (by rw [decide_eq_false (ne_of_get hlt hlt2 hne)]), HB.out.trans (hb.mono HB.out.size)⟩
        · have heq : xs[k] = ys[k] := by first | assumption | (simpa using ‹(!decide (xs[k] = ys[k])) = false›)
          exact ⟨⟨k + 1, by omega, by go_num, take_eq_step hlt hlt2 HP.out heq, HB.out.trans (hb.mono HB.out.size)⟩, by simp [intOf]; omega⟩
      · have hke : k = xs.length := by omega
        have HK := Lib.hid hke
        clear hke
        have i1 : ¬ (k : Int) < xs.length := by omega
        go_wp2
        go_ret
        exact ⟨ret_bool (by rw [decide_eq_true (eq_of_take HK.out HL.out HP.out)]), hbel⟩
  · have hd : ((xs.length : Int) == (ys.length : Int)) = false := by simp; omega
    have hd' : ((xs.length : Int) != (ys.length : Int)) = true := by simp; omega
    have HL := Lib.hid hl
    clear hl hca hcb
    go_enter Tryz.func54, Tryz.ntmps54
    go_wp2
    go_ret
    exact ⟨ret_bool (by rw [decide_eq_false (fun e => HL.out (by rw [e]))]), ext_refl _⟩

/-- A slice of these, in the walk's own terms. -/
def GAsked.At (w : World) (b o : Nat) (xs : List GAsked) : Prop := ∀ (i : Nat) (h : i < xs.length), w.cell? ⟨b, o + i * 6, none⟩ = some (.int .i64 (xs[i]).node) ∧ w.cell? ⟨b, o + i * 6 + 1, none⟩ = some (.int .i64 (xs[i]).wide.mode) ∧ w.cell? ⟨b, o + i * 6 + 2, none⟩ = some (.int .i64 (xs[i]).wide.n) ∧ w.cell? ⟨b, o + i * 6 + 3, none⟩ = some (.int .i64 (xs[i]).high.mode) ∧ w.cell? ⟨b, o + i * 6 + 4, none⟩ = some (.int .i64 (xs[i]).high.n) ∧ w.cell? ⟨b, o + i * 6 + 5, none⟩ = some (.bool (xs[i]).rtl)
theorem GAsked.rep {w : World} {v : Value} {xs : List GAsked} (h : RepS 6 GAsked.c w v xs) : ∃ p cap, v = .slice p xs.length cap ∧ xs.length ≤ cap ∧ cap ≤ maxLen ∧
    (0 < xs.length → ∃ b o, p = some ⟨b, o, none⟩ ∧ GAsked.At w b o xs) := by
  obtain ⟨p, cap, hv, h1, h2, h3⟩ := h
  refine ⟨p, cap, hv, h1, h2, fun h0 => ?_⟩
  obtain ⟨b, o, hp, hc⟩ := h3 h0
  refine ⟨b, o, hp, fun i hi => ⟨?_, ?_, ?_, ?_, ?_, ?_⟩⟩
  · obtain ⟨u, hu, hcu⟩ := hc i hi 0 (by omega); simp [GAsked.c] at hu; subst hu; exact hcu
  · obtain ⟨u, hu, hcu⟩ := hc i hi 1 (by omega); simp [GAsked.c] at hu; subst hu; exact hcu
  · obtain ⟨u, hu, hcu⟩ := hc i hi 2 (by omega); simp [GAsked.c] at hu; subst hu; exact hcu
  · obtain ⟨u, hu, hcu⟩ := hc i hi 3 (by omega); simp [GAsked.c] at hu; subst hu; exact hcu
  · obtain ⟨u, hu, hcu⟩ := hc i hi 4 (by omega); simp [GAsked.c] at hu; subst hu; exact hcu
  · obtain ⟨u, hu, hcu⟩ := hc i hi 5 (by omega); simp [GAsked.c] at hu; subst hu; exact hcu
theorem GAsked.fill {xs : List GAsked} {m : Nat} {cur : Array Value} (h : Filled 6 GAsked.c xs m cur) (hm : m < xs.length) : Filled 6 GAsked.c xs (m + 1) ((((((cur.setIfInBounds (m * 6) (.int .i64 (xs[m]).node)).setIfInBounds (m * 6 + 1) (.int .i64 (xs[m]).wide.mode)).setIfInBounds (m * 6 + 2) (.int .i64 (xs[m]).wide.n)).setIfInBounds (m * 6 + 3) (.int .i64 (xs[m]).high.mode)).setIfInBounds (m * 6 + 4) (.int .i64 (xs[m]).high.n)).setIfInBounds (m * 6 + 5) (.bool (xs[m]).rtl)) := by
  have hsz := h.1
  refine filled_step h hm (by simp) (fun j hj => ?_) (fun i hi j hj => ?_)
  · have hb : m * 6 + 6 ≤ cur.size := by omega
    match j, hj with
    | 0, _ => exact ⟨.int .i64 (xs[m]).node, rfl, by rw [Array.getElem?_setIfInBounds, if_neg (by omega)]; rw [Array.getElem?_setIfInBounds, if_neg (by omega)]; rw [Array.getElem?_setIfInBounds, if_neg (by omega)]; rw [Array.getElem?_setIfInBounds, if_neg (by omega)]; rw [Array.getElem?_setIfInBounds, if_neg (by omega)]; rw [Array.getElem?_setIfInBounds, if_pos (by omega), if_pos (by (try simp only [Array.size_setIfInBounds]); omega)]⟩
    | 1, _ => exact ⟨.int .i64 (xs[m]).wide.mode, rfl, by rw [Array.getElem?_setIfInBounds, if_neg (by omega)]; rw [Array.getElem?_setIfInBounds, if_neg (by omega)]; rw [Array.getElem?_setIfInBounds, if_neg (by omega)]; rw [Array.getElem?_setIfInBounds, if_neg (by omega)]; rw [Array.getElem?_setIfInBounds, if_pos (by omega), if_pos (by (try simp only [Array.size_setIfInBounds]); omega)]⟩
    | 2, _ => exact ⟨.int .i64 (xs[m]).wide.n, rfl, by rw [Array.getElem?_setIfInBounds, if_neg (by omega)]; rw [Array.getElem?_setIfInBounds, if_neg (by omega)]; rw [Array.getElem?_setIfInBounds, if_neg (by omega)]; rw [Array.getElem?_setIfInBounds, if_pos (by omega), if_pos (by (try simp only [Array.size_setIfInBounds]); omega)]⟩
    | 3, _ => exact ⟨.int .i64 (xs[m]).high.mode, rfl, by rw [Array.getElem?_setIfInBounds, if_neg (by omega)]; rw [Array.getElem?_setIfInBounds, if_neg (by omega)]; rw [Array.getElem?_setIfInBounds, if_pos (by omega), if_pos (by (try simp only [Array.size_setIfInBounds]); omega)]⟩
    | 4, _ => exact ⟨.int .i64 (xs[m]).high.n, rfl, by rw [Array.getElem?_setIfInBounds, if_neg (by omega)]; rw [Array.getElem?_setIfInBounds, if_pos (by omega), if_pos (by (try simp only [Array.size_setIfInBounds]); omega)]⟩
    | 5, _ => exact ⟨.bool (xs[m]).rtl, rfl, by rw [Array.getElem?_setIfInBounds, if_pos (by omega), if_pos (by (try simp only [Array.size_setIfInBounds]); omega)]⟩
  · rw [Array.getElem?_setIfInBounds, if_neg (by omega)]; rw [Array.getElem?_setIfInBounds, if_neg (by omega)]; rw [Array.getElem?_setIfInBounds, if_neg (by omega)]; rw [Array.getElem?_setIfInBounds, if_neg (by omega)]; rw [Array.getElem?_setIfInBounds, if_neg (by omega)]; rw [Array.getElem?_setIfInBounds, if_neg (by omega)]


/-- A slice of these, in the walk's own terms. -/
def GItem.At (w : World) (b o : Nat) (xs : List GItem) : Prop := ∀ (i : Nat) (h : i < xs.length), w.cell? ⟨b, o + i * 9, none⟩ = some (.int .i64 (xs[i]).base) ∧ w.cell? ⟨b, o + i * 9 + 1, none⟩ = some (.int .i64 (xs[i]).least) ∧ w.cell? ⟨b, o + i * 9 + 2, none⟩ = some (.int .i64 (xs[i]).most) ∧ w.cell? ⟨b, o + i * 9 + 3, none⟩ = some (.int .i64 (xs[i]).grow) ∧ w.cell? ⟨b, o + i * 9 + 4, none⟩ = some (.int .i64 (xs[i]).shrink) ∧ w.cell? ⟨b, o + i * 9 + 5, none⟩ = some (.int .i64 (xs[i]).before) ∧ w.cell? ⟨b, o + i * 9 + 6, none⟩ = some (.int .i64 (xs[i]).behind) ∧ w.cell? ⟨b, o + i * 9 + 7, none⟩ = some (.bool (xs[i]).autoBefore) ∧ w.cell? ⟨b, o + i * 9 + 8, none⟩ = some (.bool (xs[i]).autoBehind)
theorem GItem.rep {w : World} {v : Value} {xs : List GItem} (h : RepS 9 GItem.c w v xs) : ∃ p cap, v = .slice p xs.length cap ∧ xs.length ≤ cap ∧ cap ≤ maxLen ∧
    (0 < xs.length → ∃ b o, p = some ⟨b, o, none⟩ ∧ GItem.At w b o xs) := by
  obtain ⟨p, cap, hv, h1, h2, h3⟩ := h
  refine ⟨p, cap, hv, h1, h2, fun h0 => ?_⟩
  obtain ⟨b, o, hp, hc⟩ := h3 h0
  refine ⟨b, o, hp, fun i hi => ⟨?_, ?_, ?_, ?_, ?_, ?_, ?_, ?_, ?_⟩⟩
  · obtain ⟨u, hu, hcu⟩ := hc i hi 0 (by omega); simp [GItem.c] at hu; subst hu; exact hcu
  · obtain ⟨u, hu, hcu⟩ := hc i hi 1 (by omega); simp [GItem.c] at hu; subst hu; exact hcu
  · obtain ⟨u, hu, hcu⟩ := hc i hi 2 (by omega); simp [GItem.c] at hu; subst hu; exact hcu
  · obtain ⟨u, hu, hcu⟩ := hc i hi 3 (by omega); simp [GItem.c] at hu; subst hu; exact hcu
  · obtain ⟨u, hu, hcu⟩ := hc i hi 4 (by omega); simp [GItem.c] at hu; subst hu; exact hcu
  · obtain ⟨u, hu, hcu⟩ := hc i hi 5 (by omega); simp [GItem.c] at hu; subst hu; exact hcu
  · obtain ⟨u, hu, hcu⟩ := hc i hi 6 (by omega); simp [GItem.c] at hu; subst hu; exact hcu
  · obtain ⟨u, hu, hcu⟩ := hc i hi 7 (by omega); simp [GItem.c] at hu; subst hu; exact hcu
  · obtain ⟨u, hu, hcu⟩ := hc i hi 8 (by omega); simp [GItem.c] at hu; subst hu; exact hcu
theorem GItem.fill {xs : List GItem} {m : Nat} {cur : Array Value} (h : Filled 9 GItem.c xs m cur) (hm : m < xs.length) : Filled 9 GItem.c xs (m + 1) (((((((((cur.setIfInBounds (m * 9) (.int .i64 (xs[m]).base)).setIfInBounds (m * 9 + 1) (.int .i64 (xs[m]).least)).setIfInBounds (m * 9 + 2) (.int .i64 (xs[m]).most)).setIfInBounds (m * 9 + 3) (.int .i64 (xs[m]).grow)).setIfInBounds (m * 9 + 4) (.int .i64 (xs[m]).shrink)).setIfInBounds (m * 9 + 5) (.int .i64 (xs[m]).before)).setIfInBounds (m * 9 + 6) (.int .i64 (xs[m]).behind)).setIfInBounds (m * 9 + 7) (.bool (xs[m]).autoBefore)).setIfInBounds (m * 9 + 8) (.bool (xs[m]).autoBehind)) := by
  have hsz := h.1
  refine filled_step h hm (by simp) (fun j hj => ?_) (fun i hi j hj => ?_)
  · have hb : m * 9 + 9 ≤ cur.size := by omega
    match j, hj with
    | 0, _ => exact ⟨.int .i64 (xs[m]).base, rfl, by rw [Array.getElem?_setIfInBounds, if_neg (by omega)]; rw [Array.getElem?_setIfInBounds, if_neg (by omega)]; rw [Array.getElem?_setIfInBounds, if_neg (by omega)]; rw [Array.getElem?_setIfInBounds, if_neg (by omega)]; rw [Array.getElem?_setIfInBounds, if_neg (by omega)]; rw [Array.getElem?_setIfInBounds, if_neg (by omega)]; rw [Array.getElem?_setIfInBounds, if_neg (by omega)]; rw [Array.getElem?_setIfInBounds, if_neg (by omega)]; rw [Array.getElem?_setIfInBounds, if_pos (by omega), if_pos (by (try simp only [Array.size_setIfInBounds]); omega)]⟩
    | 1, _ => exact ⟨.int .i64 (xs[m]).least, rfl, by rw [Array.getElem?_setIfInBounds, if_neg (by omega)]; rw [Array.getElem?_setIfInBounds, if_neg (by omega)]; rw [Array.getElem?_setIfInBounds, if_neg (by omega)]; rw [Array.getElem?_setIfInBounds, if_neg (by omega)]; rw [Array.getElem?_setIfInBounds, if_neg (by omega)]; rw [Array.getElem?_setIfInBounds, if_neg (by omega)]; rw [Array.getElem?_setIfInBounds, if_neg (by omega)]; rw [Array.getElem?_setIfInBounds, if_pos (by omega), if_pos (by (try simp only [Array.size_setIfInBounds]); omega)]⟩
    | 2, _ => exact ⟨.int .i64 (xs[m]).most, rfl, by rw [Array.getElem?_setIfInBounds, if_neg (by omega)]; rw [Array.getElem?_setIfInBounds, if_neg (by omega)]; rw [Array.getElem?_setIfInBounds, if_neg (by omega)]; rw [Array.getElem?_setIfInBounds, if_neg (by omega)]; rw [Array.getElem?_setIfInBounds, if_neg (by omega)]; rw [Array.getElem?_setIfInBounds, if_neg (by omega)]; rw [Array.getElem?_setIfInBounds, if_pos (by omega), if_pos (by (try simp only [Array.size_setIfInBounds]); omega)]⟩
    | 3, _ => exact ⟨.int .i64 (xs[m]).grow, rfl, by rw [Array.getElem?_setIfInBounds, if_neg (by omega)]; rw [Array.getElem?_setIfInBounds, if_neg (by omega)]; rw [Array.getElem?_setIfInBounds, if_neg (by omega)]; rw [Array.getElem?_setIfInBounds, if_neg (by omega)]; rw [Array.getElem?_setIfInBounds, if_neg (by omega)]; rw [Array.getElem?_setIfInBounds, if_pos (by omega), if_pos (by (try simp only [Array.size_setIfInBounds]); omega)]⟩
    | 4, _ => exact ⟨.int .i64 (xs[m]).shrink, rfl, by rw [Array.getElem?_setIfInBounds, if_neg (by omega)]; rw [Array.getElem?_setIfInBounds, if_neg (by omega)]; rw [Array.getElem?_setIfInBounds, if_neg (by omega)]; rw [Array.getElem?_setIfInBounds, if_neg (by omega)]; rw [Array.getElem?_setIfInBounds, if_pos (by omega), if_pos (by (try simp only [Array.size_setIfInBounds]); omega)]⟩
    | 5, _ => exact ⟨.int .i64 (xs[m]).before, rfl, by rw [Array.getElem?_setIfInBounds, if_neg (by omega)]; rw [Array.getElem?_setIfInBounds, if_neg (by omega)]; rw [Array.getElem?_setIfInBounds, if_neg (by omega)]; rw [Array.getElem?_setIfInBounds, if_pos (by omega), if_pos (by (try simp only [Array.size_setIfInBounds]); omega)]⟩
    | 6, _ => exact ⟨.int .i64 (xs[m]).behind, rfl, by rw [Array.getElem?_setIfInBounds, if_neg (by omega)]; rw [Array.getElem?_setIfInBounds, if_neg (by omega)]; rw [Array.getElem?_setIfInBounds, if_pos (by omega), if_pos (by (try simp only [Array.size_setIfInBounds]); omega)]⟩
    | 7, _ => exact ⟨.bool (xs[m]).autoBefore, rfl, by rw [Array.getElem?_setIfInBounds, if_neg (by omega)]; rw [Array.getElem?_setIfInBounds, if_pos (by omega), if_pos (by (try simp only [Array.size_setIfInBounds]); omega)]⟩
    | 8, _ => exact ⟨.bool (xs[m]).autoBehind, rfl, by rw [Array.getElem?_setIfInBounds, if_pos (by omega), if_pos (by (try simp only [Array.size_setIfInBounds]); omega)]⟩
  · rw [Array.getElem?_setIfInBounds, if_neg (by omega)]; rw [Array.getElem?_setIfInBounds, if_neg (by omega)]; rw [Array.getElem?_setIfInBounds, if_neg (by omega)]; rw [Array.getElem?_setIfInBounds, if_neg (by omega)]; rw [Array.getElem?_setIfInBounds, if_neg (by omega)]; rw [Array.getElem?_setIfInBounds, if_neg (by omega)]; rw [Array.getElem?_setIfInBounds, if_neg (by omega)]; rw [Array.getElem?_setIfInBounds, if_neg (by omega)]; rw [Array.getElem?_setIfInBounds, if_neg (by omega)]


theorem GItem.eq_iff (a b : GItem) : a = b ↔ a.base = b.base ∧ a.least = b.least ∧ a.most = b.most ∧ a.grow = b.grow ∧ a.shrink = b.shrink ∧ a.before = b.before ∧ a.behind = b.behind ∧ a.autoBefore = b.autoBefore ∧ a.autoBehind = b.autoBehind := by
  cases a; cases b; simp
theorem laws_eqItem_c (a b : GItem) (w : World) :
    Calls Tryz.prog 95 #[.agg #[.int .i64 a.base, .int .i64 a.least, .int .i64 a.most, .int .i64 a.grow, .int .i64 a.shrink, .int .i64 a.before, .int .i64 a.behind, .bool a.autoBefore, .bool a.autoBehind], .agg #[.int .i64 b.base, .int .i64 b.least, .int .i64 b.most, .int .i64 b.grow, .int .i64 b.shrink, .int .i64 b.before, .int .i64 b.behind, .bool b.autoBefore, .bool b.autoBehind]] w fun e w' => e = .returned (.bool (decide (a = b))) ∧ Below w.heap.size w w' := by
  go_enter Tryz.func95, Tryz.ntmps95
  go_wp2
  all_goals go_ret
  all_goals exact ⟨ret_bool (by first | (exact (decide_eq_false (fun e => (show ¬ a.base = b.base by first | assumption | (simpa using ‹(a.base != b.base) = true›)) (by rw [e]))).symm) | (exact (decide_eq_false (fun e => (show ¬ a.least = b.least by first | assumption | (simpa using ‹(a.least != b.least) = true›)) (by rw [e]))).symm) | (exact (decide_eq_false (fun e => (show ¬ a.most = b.most by first | assumption | (simpa using ‹(a.most != b.most) = true›)) (by rw [e]))).symm) | (exact (decide_eq_false (fun e => (show ¬ a.grow = b.grow by first | assumption | (simpa using ‹(a.grow != b.grow) = true›)) (by rw [e]))).symm) | (exact (decide_eq_false (fun e => (show ¬ a.shrink = b.shrink by first | assumption | (simpa using ‹(a.shrink != b.shrink) = true›)) (by rw [e]))).symm) | (exact (decide_eq_false (fun e => (show ¬ a.before = b.before by first | assumption | (simpa using ‹(a.before != b.before) = true›)) (by rw [e]))).symm) | (exact (decide_eq_false (fun e => (show ¬ a.behind = b.behind by first | assumption | (simpa using ‹(a.behind != b.behind) = true›)) (by rw [e]))).symm) | (exact (decide_eq_false (fun e => (show ¬ a.autoBefore = b.autoBefore by first | assumption | (simpa using ‹(a.autoBefore != b.autoBefore) = true›)) (by rw [e]))).symm) | (exact (decide_eq_false (fun e => (show ¬ a.autoBehind = b.autoBehind by first | assumption | (simpa using ‹(a.autoBehind != b.autoBehind) = true›)) (by rw [e]))).symm) | (exact (decide_eq_true ((GItem.eq_iff a b).2 ⟨by first | assumption | (simpa using ‹(a.base != b.base) = false›), by first | assumption | (simpa using ‹(a.least != b.least) = false›), by first | assumption | (simpa using ‹(a.most != b.most) = false›), by first | assumption | (simpa using ‹(a.grow != b.grow) = false›), by first | assumption | (simpa using ‹(a.shrink != b.shrink) = false›), by first | assumption | (simpa using ‹(a.before != b.before) = false›), by first | assumption | (simpa using ‹(a.behind != b.behind) = false›), by first | assumption | (simpa using ‹(a.autoBefore != b.autoBefore) = false›), by first | assumption | (simpa using ‹(a.autoBehind != b.autoBehind) = false›)⟩)).symm)), by repeat (first | (with_reducible exact ext_refl _) | (with_reducible assumption) | (with_reducible refine Below.setCell ?_ (by first | omega | (simp; done) | (simp; omega)) _) | (with_reducible refine below_drewN ?_ _) | (with_reducible refine Below.drew ?_) | (with_reducible refine ext_trans ?_ (by with_reducible assumption)) | (with_reducible refine ext_trans ?_ (ext_alloc _ _)))⟩

set_option maxHeartbeats 4000000 in
theorem laws_eqItemS_c {va vb : Value} {xs ys : List GItem} (w : World) (ha : RepS 9 GItem.c w va xs) (hb : RepS 9 GItem.c w vb ys) :
    Calls Tryz.prog 39 #[va, vb] w fun e w' => e = .returned (.bool (decide (xs = ys))) ∧ Below w.heap.size w w' := by
  obtain ⟨pa, ca, rfl, hla, hma, hca⟩ := GItem.rep ha
  obtain ⟨pb, cb, rfl, hlb, hmb, hcb⟩ := GItem.rep hb
  unfold maxLen at hma hmb
  clear ha hb
  by_cases hl : xs.length = ys.length
  · have hd : ((xs.length : Int) == (ys.length : Int)) = true := by simp [hl]
    have hd' : ((xs.length : Int) != (ys.length : Int)) = false := by simp [hl]
    have HL := Lib.hid hl
    have HCA := Lib.hid hca
    have HCB := Lib.hid hcb
    clear hl hca hcb
    go_enter Tryz.func39, Tryz.ntmps39
    go_wp2
    go_loopw [5] (fun i wr => ∃ k : Nat, k ≤ xs.length ∧ i = .int .i64 k ∧ Hid (xs.take k = ys.take k) ∧ Below w.heap.size w wr) (fun i _ => xs.length - (intOf i).toNat)
    case atStart => exact ⟨0, Nat.zero_le _, rfl, rfl, ext_refl _⟩
    case round =>
      obtain ⟨k, hk, rfl, HP, hbel⟩ := hrel
      by_cases hlt : k < xs.length
      · have hlt2 : k < ys.length := by have := HL.out; omega
        obtain ⟨b1, o1, rfl, hc1⟩ := HCA.out (by omega)
        obtain ⟨b2, o2, rfl, hc2⟩ := HCB.out (by omega)
        obtain ⟨c0, c1, c2, c3, c4, c5, c6, c7, c8⟩ := hc1 k hlt
        obtain ⟨d0, d1, d2, d3, d4, d5, d6, d7, d8⟩ := hc2 k hlt2
        have c0 := ext_cell hbel c0
        have d0 := ext_cell hbel d0
        have c1 := ext_cell hbel c1
        have d1 := ext_cell hbel d1
        have c2 := ext_cell hbel c2
        have d2 := ext_cell hbel d2
        have c3 := ext_cell hbel c3
        have d3 := ext_cell hbel d3
        have c4 := ext_cell hbel c4
        have d4 := ext_cell hbel d4
        have c5 := ext_cell hbel c5
        have d5 := ext_cell hbel d5
        have c6 := ext_cell hbel c6
        have d6 := ext_cell hbel d6
        have c7 := ext_cell hbel c7
        have d7 := ext_cell hbel d7
        have c8 := ext_cell hbel c8
        have d8 := ext_cell hbel d8
        have l1 := World.block_lt_of_cell? _ _ c0
        have l2 := World.block_lt_of_cell? _ _ d0
        simp only at l1 l2
        clear hc1 hc2
        have i1 : (k : Int) < xs.length := by omega
        have i2 : (k : Int) < ys.length := by omega
        have HB := Lib.hid hbel
        clear hbel
        go_wp2
        refine wp_region_quiet_below (by kernel_rfl) (by kernel_rfl) ?_
        (repeat (go_big_quiet_step ((go_at_call 95; exact Calls.regrown_of (laws_eqItem_c xs[k] ys[k] _)))))
        refine wpQuiet_nil ?_
        intro w1 hw1
        have hb := below_of_regrown hw1
        clear hw1
        go_wp2
        · have hne : ¬ xs[k] = ys[k] := by first | assumption | (simpa using ‹(!decide (xs[k] = ys[k])) = true›)
          go_ret
          exact ⟨ret_bool (by rw [decide_eq_false (ne_of_get hlt hlt2 hne)]), HB.out.trans (hb.mono HB.out.size)⟩
        · have heq : xs[k] = ys[k] := by first | assumption | (simpa using ‹(!decide (xs[k] = ys[k])) = false›)
          exact ⟨⟨k + 1, by omega, by go_num, take_eq_step hlt hlt2 HP.out heq, HB.out.trans (hb.mono HB.out.size)⟩, by simp [intOf]; omega⟩
      · have hke : k = xs.length := by omega
        have HK := Lib.hid hke
        clear hke
        have i1 : ¬ (k : Int) < xs.length := by omega
        go_wp2
        go_ret
        exact ⟨ret_bool (by rw [decide_eq_true (eq_of_take HK.out HL.out HP.out)]), hbel⟩
  · have hd : ((xs.length : Int) == (ys.length : Int)) = false := by simp; omega
    have hd' : ((xs.length : Int) != (ys.length : Int)) = true := by simp; omega
    have HL := Lib.hid hl
    clear hl hca hcb
    go_enter Tryz.func39, Tryz.ntmps39
    go_wp2
    go_ret
    exact ⟨ret_bool (by rw [decide_eq_false (fun e => HL.out (by rw [e]))]), ext_refl _⟩

/-- A slice of these, in the walk's own terms. -/
def GRule.At (w : World) (b o : Nat) (xs : List GRule) : Prop := ∀ (i : Nat) (h : i < xs.length), w.cell? ⟨b, o + i * 3, none⟩ = some (.int .i64 (xs[i]).room) ∧ w.cell? ⟨b, o + i * 3 + 1, none⟩ = some (.int .i64 (xs[i]).wide) ∧ w.cell? ⟨b, o + i * 3 + 2, none⟩ = some (.int .i64 (xs[i]).high)
theorem GRule.rep {w : World} {v : Value} {xs : List GRule} (h : RepS 3 GRule.c w v xs) : ∃ p cap, v = .slice p xs.length cap ∧ xs.length ≤ cap ∧ cap ≤ maxLen ∧
    (0 < xs.length → ∃ b o, p = some ⟨b, o, none⟩ ∧ GRule.At w b o xs) := by
  obtain ⟨p, cap, hv, h1, h2, h3⟩ := h
  refine ⟨p, cap, hv, h1, h2, fun h0 => ?_⟩
  obtain ⟨b, o, hp, hc⟩ := h3 h0
  refine ⟨b, o, hp, fun i hi => ⟨?_, ?_, ?_⟩⟩
  · obtain ⟨u, hu, hcu⟩ := hc i hi 0 (by omega); simp [GRule.c] at hu; subst hu; exact hcu
  · obtain ⟨u, hu, hcu⟩ := hc i hi 1 (by omega); simp [GRule.c] at hu; subst hu; exact hcu
  · obtain ⟨u, hu, hcu⟩ := hc i hi 2 (by omega); simp [GRule.c] at hu; subst hu; exact hcu
theorem GRule.fill {xs : List GRule} {m : Nat} {cur : Array Value} (h : Filled 3 GRule.c xs m cur) (hm : m < xs.length) : Filled 3 GRule.c xs (m + 1) (((cur.setIfInBounds (m * 3) (.int .i64 (xs[m]).room)).setIfInBounds (m * 3 + 1) (.int .i64 (xs[m]).wide)).setIfInBounds (m * 3 + 2) (.int .i64 (xs[m]).high)) := by
  have hsz := h.1
  refine filled_step h hm (by simp) (fun j hj => ?_) (fun i hi j hj => ?_)
  · have hb : m * 3 + 3 ≤ cur.size := by omega
    match j, hj with
    | 0, _ => exact ⟨.int .i64 (xs[m]).room, rfl, by rw [Array.getElem?_setIfInBounds, if_neg (by omega)]; rw [Array.getElem?_setIfInBounds, if_neg (by omega)]; rw [Array.getElem?_setIfInBounds, if_pos (by omega), if_pos (by (try simp only [Array.size_setIfInBounds]); omega)]⟩
    | 1, _ => exact ⟨.int .i64 (xs[m]).wide, rfl, by rw [Array.getElem?_setIfInBounds, if_neg (by omega)]; rw [Array.getElem?_setIfInBounds, if_pos (by omega), if_pos (by (try simp only [Array.size_setIfInBounds]); omega)]⟩
    | 2, _ => exact ⟨.int .i64 (xs[m]).high, rfl, by rw [Array.getElem?_setIfInBounds, if_pos (by omega), if_pos (by (try simp only [Array.size_setIfInBounds]); omega)]⟩
  · rw [Array.getElem?_setIfInBounds, if_neg (by omega)]; rw [Array.getElem?_setIfInBounds, if_neg (by omega)]; rw [Array.getElem?_setIfInBounds, if_neg (by omega)]


set_option maxHeartbeats 4000000 in
theorem laws_toRule_c (x : GRule) (w : World) :
    Calls Tryz.prog 334 #[.agg #[.int .i64 x.room, .int .i64 x.wide, .int .i64 x.high]] w fun e w' => e = .returned (.agg #[.int .i64 x.room, .int .i64 x.wide, .int .i64 x.high]) ∧ Below w.heap.size w w' := by
  go_enter Tryz.func334, Tryz.ntmps334
  go_wp2
  refine bodyPost_ret (v := .agg #[.int .i64 x.room, .int .i64 x.wide, .int .i64 x.high]) (by simp [results, Tryz.results334, go_sem, *]) rfl ⟨rfl, by repeat (first | (with_reducible exact ext_refl _) | (with_reducible assumption) | (with_reducible refine Below.setCell ?_ (by first | omega | (simp; done) | (simp; omega)) _) | (with_reducible refine below_drewN ?_ _) | (with_reducible refine Below.drew ?_) | (with_reducible refine ext_trans ?_ (by with_reducible assumption)) | (with_reducible refine ext_trans ?_ (ext_alloc _ _)))⟩

theorem GRule.eq_iff (a b : GRule) : a = b ↔ a.room = b.room ∧ a.wide = b.wide ∧ a.high = b.high := by
  cases a; cases b; simp
theorem laws_eqRule_c (a b : GRule) (w : World) :
    Calls Tryz.prog 336 #[.agg #[.int .i64 a.room, .int .i64 a.wide, .int .i64 a.high], .agg #[.int .i64 b.room, .int .i64 b.wide, .int .i64 b.high]] w fun e w' => e = .returned (.bool (decide (a = b))) ∧ Below w.heap.size w w' := by
  go_enter Tryz.func336, Tryz.ntmps336
  go_wp2
  all_goals go_ret
  all_goals exact ⟨ret_bool (by first | (exact (decide_eq_false (fun e => (show ¬ a.room = b.room by first | assumption | (simpa using ‹(a.room != b.room) = true›)) (by rw [e]))).symm) | (exact (decide_eq_false (fun e => (show ¬ a.wide = b.wide by first | assumption | (simpa using ‹(a.wide != b.wide) = true›)) (by rw [e]))).symm) | (exact (decide_eq_false (fun e => (show ¬ a.high = b.high by first | assumption | (simpa using ‹(a.high != b.high) = true›)) (by rw [e]))).symm) | (exact (decide_eq_true ((GRule.eq_iff a b).2 ⟨by first | assumption | (simpa using ‹(a.room != b.room) = false›), by first | assumption | (simpa using ‹(a.wide != b.wide) = false›), by first | assumption | (simpa using ‹(a.high != b.high) = false›)⟩)).symm)), by repeat (first | (with_reducible exact ext_refl _) | (with_reducible assumption) | (with_reducible refine Below.setCell ?_ (by first | omega | (simp; done) | (simp; omega)) _) | (with_reducible refine below_drewN ?_ _) | (with_reducible refine Below.drew ?_) | (with_reducible refine ext_trans ?_ (by with_reducible assumption)) | (with_reducible refine ext_trans ?_ (ext_alloc _ _)))⟩

theorem laws_szRuleS_c {xs : List GRule} {v : Value} (w : World) (hv : RepS 3 GRule.c w v xs) (left : Int) (h0 : 0 ≤ left) (h1 : left ≤ 1048576) :
    Calls Tryz.prog 276 #[v, .int .i64 left] w fun e w' => e = .returned (.int .i64 (if left < xs.length then -1 else left - xs.length)) ∧ w = w' := by
  obtain ⟨p, cap, rfl, hl, hm, -⟩ := GRule.rep hv
  unfold maxLen at hm
  by_cases h2 : left < xs.length
  · rw [if_pos h2]
    have hm2 : (xs.length : Int) ≤ 9223372036854775807 := by omega
    clear hv hl hm
    go_enter Tryz.func276, Tryz.ntmps276
    go_wp2
    go_ret
    exact ⟨rfl, rfl⟩
  · rw [if_neg h2]
    clear hv hl hm
    go_enter Tryz.func276, Tryz.ntmps276
    go_wp2
    go_ret
    exact ⟨rfl, rfl⟩

set_option maxHeartbeats 4000000 in
theorem laws_toRuleS_c {v : Value} {xs : List GRule} (w : World) (ha : RepS 3 GRule.c w v xs) (hlen : xs.length ≤ 1048576) :
    Calls Tryz.prog 286 #[v] w (NewS 239 3 GRule.c w xs) := by
  obtain ⟨pa, ca, rfl, hla, hma, hca⟩ := GRule.rep ha
  have HCA := Lib.hid hca
  clear ha hca hma hla
  have hmk : ∀ W : World, (Instr.makeSlice 144 (.int .i64 (xs.length : Int)) (.int .i64 (xs.length : Int))).run Tryz.prog W = .ok (.slice (some ⟨W.heap.size, 0, none⟩) xs.length xs.length) (W.alloc (.cells (madeCells #[.int .i64 0, .int .i64 0, .int .i64 0] (xs.length * 3)) 239)) :=
    fun W => make_rows Tryz.underlying144 (z := .agg #[.int .i64 0, .int .i64 0, .int .i64 0]) (k := 3) (by kernel_rfl) W hlen
  have hfree : xs.length ≤ maxLen := by unfold maxLen; omega
  have HF := Lib.hid hfree
  clear hfree
  go_enter Tryz.func286, Tryz.ntmps286
  go_wp2
  go_loopw [4] (fun i wr => ∃ k : Nat, k ≤ xs.length ∧ i = .int .i64 k ∧ Below w.heap.size w wr ∧ ∃ cur, wr.heap[w.heap.size]? = some (.cells cur 239 (0, 0)) ∧ Filled 3 GRule.c xs k cur) (fun i _ => xs.length - (intOf i).toNat)
  case atStart => exact ⟨0, Nat.zero_le _, rfl, by repeat (first | (with_reducible exact ext_refl _) | (with_reducible assumption) | (with_reducible refine Below.setCell ?_ (by first | omega | (simp; done) | (simp; omega)) _) | (with_reducible refine below_drewN ?_ _) | (with_reducible refine Below.drew ?_) | (with_reducible refine ext_trans ?_ (by with_reducible assumption)) | (with_reducible refine ext_trans ?_ (ext_alloc _ _))), _, row_alloc _ _ _, Filled.zero (by simp [madeCells])⟩
  case round =>
    obtain ⟨k, hk, rfl, hbel, cur, hrow, hfill⟩ := hrel
    by_cases hlt : k < xs.length
    · obtain ⟨b, o, rfl, hc⟩ := HCA.out (by omega)
      obtain ⟨c0, c1, c2⟩ := hc k hlt
      have c0 := ext_cell hbel c0
      have c1 := ext_cell hbel c1
      have c2 := ext_cell hbel c2
      have HR := Lib.hid hrow
      have HB := Lib.hid hbel
      have i1 : (k : Int) < xs.length := by omega
      have hsz := hfill.1
      clear hc hbel hrow
      go_wp2_with fail
      refine (laws_toRule_c xs[k] _).mono ?_
      rintro e w2 ⟨rfl, hb⟩
      have hrow2 := row_ext hb HR.out
      have HB2 := Lib.hid (HB.out.trans (hb.mono HB.out.size))
      have HR2 := Lib.hid hrow2
      obtain ⟨u0, t0⟩ := row_there (o := k * 3) hrow2 (by omega)
      have f0 := row_free (o := k * 3) hrow2
      obtain ⟨u1, t1⟩ := row_there (o := k * 3 + 1) hrow2 (by omega)
      have f1 := row_free (o := k * 3 + 1) hrow2
      obtain ⟨u2, t2⟩ := row_there (o := k * 3 + 2) hrow2 (by omega)
      have f2 := row_free (o := k * 3 + 2) hrow2
      clear hrow2 hb hsz
      go_wp2
      refine ⟨⟨k + 1, by omega, by go_num, ?_, _, ?_, GRule.fill hfill hlt⟩, by simp [intOf]; omega⟩
      · repeat (refine Below.setCell ?_ (by exact Nat.le_refl _) _)
        exact HB2.out
      · repeat (refine heap_setCell ?_)
        exact HR2.out
    · obtain rfl : k = xs.length := by omega
      have HR := Lib.hid hrow
      have i1 : ¬ (xs.length : Int) < xs.length := by omega
      clear hrow
      go_wp2
      go_ret
      exact NewS.mk (hfill.own HR.out (Nat.le_refl _) HF.out) hbel

set_option maxHeartbeats 4000000 in
theorem laws_eqRuleS_c {va vb : Value} {xs ys : List GRule} (w : World) (ha : RepS 3 GRule.c w va xs) (hb : RepS 3 GRule.c w vb ys) :
    Calls Tryz.prog 303 #[va, vb] w fun e w' => e = .returned (.bool (decide (xs = ys))) ∧ Below w.heap.size w w' := by
  obtain ⟨pa, ca, rfl, hla, hma, hca⟩ := GRule.rep ha
  obtain ⟨pb, cb, rfl, hlb, hmb, hcb⟩ := GRule.rep hb
  unfold maxLen at hma hmb
  clear ha hb
  by_cases hl : xs.length = ys.length
  · have hd : ((xs.length : Int) == (ys.length : Int)) = true := by simp [hl]
    have hd' : ((xs.length : Int) != (ys.length : Int)) = false := by simp [hl]
    have HL := Lib.hid hl
    have HCA := Lib.hid hca
    have HCB := Lib.hid hcb
    clear hl hca hcb
    go_enter Tryz.func303, Tryz.ntmps303
    go_wp2
    go_loopw [5] (fun i wr => ∃ k : Nat, k ≤ xs.length ∧ i = .int .i64 k ∧ Hid (xs.take k = ys.take k) ∧ Below w.heap.size w wr) (fun i _ => xs.length - (intOf i).toNat)
    case atStart => exact ⟨0, Nat.zero_le _, rfl, rfl, ext_refl _⟩
    case round =>
      obtain ⟨k, hk, rfl, HP, hbel⟩ := hrel
      by_cases hlt : k < xs.length
      · have hlt2 : k < ys.length := by have := HL.out; omega
        obtain ⟨b1, o1, rfl, hc1⟩ := HCA.out (by omega)
        obtain ⟨b2, o2, rfl, hc2⟩ := HCB.out (by omega)
        obtain ⟨c0, c1, c2⟩ := hc1 k hlt
        obtain ⟨d0, d1, d2⟩ := hc2 k hlt2
        have c0 := ext_cell hbel c0
        have d0 := ext_cell hbel d0
        have c1 := ext_cell hbel c1
        have d1 := ext_cell hbel d1
        have c2 := ext_cell hbel c2
        have d2 := ext_cell hbel d2
        have l1 := World.block_lt_of_cell? _ _ c0
        have l2 := World.block_lt_of_cell? _ _ d0
        simp only at l1 l2
        clear hc1 hc2
        have i1 : (k : Int) < xs.length := by omega
        have i2 : (k : Int) < ys.length := by omega
        have HB := Lib.hid hbel
        clear hbel
        go_wp2
        refine wp_region_quiet_below (by kernel_rfl) (by kernel_rfl) ?_
        (repeat (go_big_quiet_step ((go_at_call 336; exact Calls.regrown_of (laws_eqRule_c xs[k] ys[k] _)))))
        refine wpQuiet_nil ?_
        intro w1 hw1
        have hb := below_of_regrown hw1
        clear hw1
        go_wp2
        · have hne : ¬ xs[k] = ys[k] := by first | assumption | (simpa using ‹(!decide (xs[k] = ys[k])) = true›)
          go_ret
          exact ⟨ret_bool (by rw [decide_eq_false (ne_of_get hlt hlt2 hne)]), HB.out.trans (hb.mono HB.out.size)⟩
        · have heq : xs[k] = ys[k] := by first | assumption | (simpa using ‹(!decide (xs[k] = ys[k])) = false›)
          exact ⟨⟨k + 1, by omega, by go_num, take_eq_step hlt hlt2 HP.out heq, HB.out.trans (hb.mono HB.out.size)⟩, by simp [intOf]; omega⟩
      · have hke : k = xs.length := by omega
        have HK := Lib.hid hke
        clear hke
        have i1 : ¬ (k : Int) < xs.length := by omega
        go_wp2
        go_ret
        exact ⟨ret_bool (by rw [decide_eq_true (eq_of_take HK.out HL.out HP.out)]), hbel⟩
  · have hd : ((xs.length : Int) == (ys.length : Int)) = false := by simp; omega
    have hd' : ((xs.length : Int) != (ys.length : Int)) = true := by simp; omega
    have HL := Lib.hid hl
    clear hl hca hcb
    go_enter Tryz.func303, Tryz.ntmps303
    go_wp2
    go_ret
    exact ⟨ret_bool (by rw [decide_eq_false (fun e => HL.out (by rw [e]))]), ext_refl _⟩

/-- A slice of these, in the walk's own terms. -/
def GSide.At (w : World) (b o : Nat) (xs : List GSide) : Prop := ∀ (i : Nat) (h : i < xs.length), w.cell? ⟨b, o + i * 7, none⟩ = some (.int .i64 (xs[i]).size) ∧ w.cell? ⟨b, o + i * 7 + 1, none⟩ = some (.int .i64 (xs[i]).before) ∧ w.cell? ⟨b, o + i * 7 + 2, none⟩ = some (.int .i64 (xs[i]).behind) ∧ w.cell? ⟨b, o + i * 7 + 3, none⟩ = some (.bool (xs[i]).autoBefore) ∧ w.cell? ⟨b, o + i * 7 + 4, none⟩ = some (.bool (xs[i]).autoBehind) ∧ w.cell? ⟨b, o + i * 7 + 5, none⟩ = some (.int .i64 (xs[i]).align) ∧ w.cell? ⟨b, o + i * 7 + 6, none⟩ = some (.int .i64 (xs[i]).base)
theorem GSide.rep {w : World} {v : Value} {xs : List GSide} (h : RepS 7 GSide.c w v xs) : ∃ p cap, v = .slice p xs.length cap ∧ xs.length ≤ cap ∧ cap ≤ maxLen ∧
    (0 < xs.length → ∃ b o, p = some ⟨b, o, none⟩ ∧ GSide.At w b o xs) := by
  obtain ⟨p, cap, hv, h1, h2, h3⟩ := h
  refine ⟨p, cap, hv, h1, h2, fun h0 => ?_⟩
  obtain ⟨b, o, hp, hc⟩ := h3 h0
  refine ⟨b, o, hp, fun i hi => ⟨?_, ?_, ?_, ?_, ?_, ?_, ?_⟩⟩
  · obtain ⟨u, hu, hcu⟩ := hc i hi 0 (by omega); simp [GSide.c] at hu; subst hu; exact hcu
  · obtain ⟨u, hu, hcu⟩ := hc i hi 1 (by omega); simp [GSide.c] at hu; subst hu; exact hcu
  · obtain ⟨u, hu, hcu⟩ := hc i hi 2 (by omega); simp [GSide.c] at hu; subst hu; exact hcu
  · obtain ⟨u, hu, hcu⟩ := hc i hi 3 (by omega); simp [GSide.c] at hu; subst hu; exact hcu
  · obtain ⟨u, hu, hcu⟩ := hc i hi 4 (by omega); simp [GSide.c] at hu; subst hu; exact hcu
  · obtain ⟨u, hu, hcu⟩ := hc i hi 5 (by omega); simp [GSide.c] at hu; subst hu; exact hcu
  · obtain ⟨u, hu, hcu⟩ := hc i hi 6 (by omega); simp [GSide.c] at hu; subst hu; exact hcu
theorem GSide.fill {xs : List GSide} {m : Nat} {cur : Array Value} (h : Filled 7 GSide.c xs m cur) (hm : m < xs.length) : Filled 7 GSide.c xs (m + 1) (((((((cur.setIfInBounds (m * 7) (.int .i64 (xs[m]).size)).setIfInBounds (m * 7 + 1) (.int .i64 (xs[m]).before)).setIfInBounds (m * 7 + 2) (.int .i64 (xs[m]).behind)).setIfInBounds (m * 7 + 3) (.bool (xs[m]).autoBefore)).setIfInBounds (m * 7 + 4) (.bool (xs[m]).autoBehind)).setIfInBounds (m * 7 + 5) (.int .i64 (xs[m]).align)).setIfInBounds (m * 7 + 6) (.int .i64 (xs[m]).base)) := by
  have hsz := h.1
  refine filled_step h hm (by simp) (fun j hj => ?_) (fun i hi j hj => ?_)
  · have hb : m * 7 + 7 ≤ cur.size := by omega
    match j, hj with
    | 0, _ => exact ⟨.int .i64 (xs[m]).size, rfl, by rw [Array.getElem?_setIfInBounds, if_neg (by omega)]; rw [Array.getElem?_setIfInBounds, if_neg (by omega)]; rw [Array.getElem?_setIfInBounds, if_neg (by omega)]; rw [Array.getElem?_setIfInBounds, if_neg (by omega)]; rw [Array.getElem?_setIfInBounds, if_neg (by omega)]; rw [Array.getElem?_setIfInBounds, if_neg (by omega)]; rw [Array.getElem?_setIfInBounds, if_pos (by omega), if_pos (by (try simp only [Array.size_setIfInBounds]); omega)]⟩
    | 1, _ => exact ⟨.int .i64 (xs[m]).before, rfl, by rw [Array.getElem?_setIfInBounds, if_neg (by omega)]; rw [Array.getElem?_setIfInBounds, if_neg (by omega)]; rw [Array.getElem?_setIfInBounds, if_neg (by omega)]; rw [Array.getElem?_setIfInBounds, if_neg (by omega)]; rw [Array.getElem?_setIfInBounds, if_neg (by omega)]; rw [Array.getElem?_setIfInBounds, if_pos (by omega), if_pos (by (try simp only [Array.size_setIfInBounds]); omega)]⟩
    | 2, _ => exact ⟨.int .i64 (xs[m]).behind, rfl, by rw [Array.getElem?_setIfInBounds, if_neg (by omega)]; rw [Array.getElem?_setIfInBounds, if_neg (by omega)]; rw [Array.getElem?_setIfInBounds, if_neg (by omega)]; rw [Array.getElem?_setIfInBounds, if_neg (by omega)]; rw [Array.getElem?_setIfInBounds, if_pos (by omega), if_pos (by (try simp only [Array.size_setIfInBounds]); omega)]⟩
    | 3, _ => exact ⟨.bool (xs[m]).autoBefore, rfl, by rw [Array.getElem?_setIfInBounds, if_neg (by omega)]; rw [Array.getElem?_setIfInBounds, if_neg (by omega)]; rw [Array.getElem?_setIfInBounds, if_neg (by omega)]; rw [Array.getElem?_setIfInBounds, if_pos (by omega), if_pos (by (try simp only [Array.size_setIfInBounds]); omega)]⟩
    | 4, _ => exact ⟨.bool (xs[m]).autoBehind, rfl, by rw [Array.getElem?_setIfInBounds, if_neg (by omega)]; rw [Array.getElem?_setIfInBounds, if_neg (by omega)]; rw [Array.getElem?_setIfInBounds, if_pos (by omega), if_pos (by (try simp only [Array.size_setIfInBounds]); omega)]⟩
    | 5, _ => exact ⟨.int .i64 (xs[m]).align, rfl, by rw [Array.getElem?_setIfInBounds, if_neg (by omega)]; rw [Array.getElem?_setIfInBounds, if_pos (by omega), if_pos (by (try simp only [Array.size_setIfInBounds]); omega)]⟩
    | 6, _ => exact ⟨.int .i64 (xs[m]).base, rfl, by rw [Array.getElem?_setIfInBounds, if_pos (by omega), if_pos (by (try simp only [Array.size_setIfInBounds]); omega)]⟩
  · rw [Array.getElem?_setIfInBounds, if_neg (by omega)]; rw [Array.getElem?_setIfInBounds, if_neg (by omega)]; rw [Array.getElem?_setIfInBounds, if_neg (by omega)]; rw [Array.getElem?_setIfInBounds, if_neg (by omega)]; rw [Array.getElem?_setIfInBounds, if_neg (by omega)]; rw [Array.getElem?_setIfInBounds, if_neg (by omega)]; rw [Array.getElem?_setIfInBounds, if_neg (by omega)]


theorem GSide.eq_iff (a b : GSide) : a = b ↔ a.size = b.size ∧ a.before = b.before ∧ a.behind = b.behind ∧ a.autoBefore = b.autoBefore ∧ a.autoBehind = b.autoBehind ∧ a.align = b.align ∧ a.base = b.base := by
  cases a; cases b; simp
theorem laws_eqSide_c (a b : GSide) (w : World) :
    Calls Tryz.prog 98 #[.agg #[.int .i64 a.size, .int .i64 a.before, .int .i64 a.behind, .bool a.autoBefore, .bool a.autoBehind, .int .i64 a.align, .int .i64 a.base], .agg #[.int .i64 b.size, .int .i64 b.before, .int .i64 b.behind, .bool b.autoBefore, .bool b.autoBehind, .int .i64 b.align, .int .i64 b.base]] w fun e w' => e = .returned (.bool (decide (a = b))) ∧ Below w.heap.size w w' := by
  go_enter Tryz.func98, Tryz.ntmps98
  go_wp2
  all_goals go_ret
  all_goals exact ⟨ret_bool (by first | (exact (decide_eq_false (fun e => (show ¬ a.size = b.size by first | assumption | (simpa using ‹(a.size != b.size) = true›)) (by rw [e]))).symm) | (exact (decide_eq_false (fun e => (show ¬ a.before = b.before by first | assumption | (simpa using ‹(a.before != b.before) = true›)) (by rw [e]))).symm) | (exact (decide_eq_false (fun e => (show ¬ a.behind = b.behind by first | assumption | (simpa using ‹(a.behind != b.behind) = true›)) (by rw [e]))).symm) | (exact (decide_eq_false (fun e => (show ¬ a.autoBefore = b.autoBefore by first | assumption | (simpa using ‹(a.autoBefore != b.autoBefore) = true›)) (by rw [e]))).symm) | (exact (decide_eq_false (fun e => (show ¬ a.autoBehind = b.autoBehind by first | assumption | (simpa using ‹(a.autoBehind != b.autoBehind) = true›)) (by rw [e]))).symm) | (exact (decide_eq_false (fun e => (show ¬ a.align = b.align by first | assumption | (simpa using ‹(a.align != b.align) = true›)) (by rw [e]))).symm) | (exact (decide_eq_false (fun e => (show ¬ a.base = b.base by first | assumption | (simpa using ‹(a.base != b.base) = true›)) (by rw [e]))).symm) | (exact (decide_eq_true ((GSide.eq_iff a b).2 ⟨by first | assumption | (simpa using ‹(a.size != b.size) = false›), by first | assumption | (simpa using ‹(a.before != b.before) = false›), by first | assumption | (simpa using ‹(a.behind != b.behind) = false›), by first | assumption | (simpa using ‹(a.autoBefore != b.autoBefore) = false›), by first | assumption | (simpa using ‹(a.autoBehind != b.autoBehind) = false›), by first | assumption | (simpa using ‹(a.align != b.align) = false›), by first | assumption | (simpa using ‹(a.base != b.base) = false›)⟩)).symm)), by repeat (first | (with_reducible exact ext_refl _) | (with_reducible assumption) | (with_reducible refine Below.setCell ?_ (by first | omega | (simp; done) | (simp; omega)) _) | (with_reducible refine below_drewN ?_ _) | (with_reducible refine Below.drew ?_) | (with_reducible refine ext_trans ?_ (by with_reducible assumption)) | (with_reducible refine ext_trans ?_ (ext_alloc _ _)))⟩

set_option maxHeartbeats 4000000 in
theorem laws_eqSideS_c {va vb : Value} {xs ys : List GSide} (w : World) (ha : RepS 7 GSide.c w va xs) (hb : RepS 7 GSide.c w vb ys) :
    Calls Tryz.prog 44 #[va, vb] w fun e w' => e = .returned (.bool (decide (xs = ys))) ∧ Below w.heap.size w w' := by
  obtain ⟨pa, ca, rfl, hla, hma, hca⟩ := GSide.rep ha
  obtain ⟨pb, cb, rfl, hlb, hmb, hcb⟩ := GSide.rep hb
  unfold maxLen at hma hmb
  clear ha hb
  by_cases hl : xs.length = ys.length
  · have hd : ((xs.length : Int) == (ys.length : Int)) = true := by simp [hl]
    have hd' : ((xs.length : Int) != (ys.length : Int)) = false := by simp [hl]
    have HL := Lib.hid hl
    have HCA := Lib.hid hca
    have HCB := Lib.hid hcb
    clear hl hca hcb
    go_enter Tryz.func44, Tryz.ntmps44
    go_wp2
    go_loopw [5] (fun i wr => ∃ k : Nat, k ≤ xs.length ∧ i = .int .i64 k ∧ Hid (xs.take k = ys.take k) ∧ Below w.heap.size w wr) (fun i _ => xs.length - (intOf i).toNat)
    case atStart => exact ⟨0, Nat.zero_le _, rfl, rfl, ext_refl _⟩
    case round =>
      obtain ⟨k, hk, rfl, HP, hbel⟩ := hrel
      by_cases hlt : k < xs.length
      · have hlt2 : k < ys.length := by have := HL.out; omega
        obtain ⟨b1, o1, rfl, hc1⟩ := HCA.out (by omega)
        obtain ⟨b2, o2, rfl, hc2⟩ := HCB.out (by omega)
        obtain ⟨c0, c1, c2, c3, c4, c5, c6⟩ := hc1 k hlt
        obtain ⟨d0, d1, d2, d3, d4, d5, d6⟩ := hc2 k hlt2
        have c0 := ext_cell hbel c0
        have d0 := ext_cell hbel d0
        have c1 := ext_cell hbel c1
        have d1 := ext_cell hbel d1
        have c2 := ext_cell hbel c2
        have d2 := ext_cell hbel d2
        have c3 := ext_cell hbel c3
        have d3 := ext_cell hbel d3
        have c4 := ext_cell hbel c4
        have d4 := ext_cell hbel d4
        have c5 := ext_cell hbel c5
        have d5 := ext_cell hbel d5
        have c6 := ext_cell hbel c6
        have d6 := ext_cell hbel d6
        have l1 := World.block_lt_of_cell? _ _ c0
        have l2 := World.block_lt_of_cell? _ _ d0
        simp only at l1 l2
        clear hc1 hc2
        have i1 : (k : Int) < xs.length := by omega
        have i2 : (k : Int) < ys.length := by omega
        have HB := Lib.hid hbel
        clear hbel
        go_wp2
        refine wp_region_quiet_below (by kernel_rfl) (by kernel_rfl) ?_
        (repeat (go_big_quiet_step ((go_at_call 98; exact Calls.regrown_of (laws_eqSide_c xs[k] ys[k] _)))))
        refine wpQuiet_nil ?_
        intro w1 hw1
        have hb := below_of_regrown hw1
        clear hw1
        go_wp2
        · have hne : ¬ xs[k] = ys[k] := by first | assumption | (simpa using ‹(!decide (xs[k] = ys[k])) = true›)
          go_ret
          exact ⟨ret_bool (by rw [decide_eq_false (ne_of_get hlt hlt2 hne)]), HB.out.trans (hb.mono HB.out.size)⟩
        · have heq : xs[k] = ys[k] := by first | assumption | (simpa using ‹(!decide (xs[k] = ys[k])) = false›)
          exact ⟨⟨k + 1, by omega, by go_num, take_eq_step hlt hlt2 HP.out heq, HB.out.trans (hb.mono HB.out.size)⟩, by simp [intOf]; omega⟩
      · have hke : k = xs.length := by omega
        have HK := Lib.hid hke
        clear hke
        have i1 : ¬ (k : Int) < xs.length := by omega
        go_wp2
        go_ret
        exact ⟨ret_bool (by rw [decide_eq_true (eq_of_take HK.out HL.out HP.out)]), hbel⟩
  · have hd : ((xs.length : Int) == (ys.length : Int)) = false := by simp; omega
    have hd' : ((xs.length : Int) != (ys.length : Int)) = true := by simp; omega
    have HL := Lib.hid hl
    clear hl hca hcb
    go_enter Tryz.func44, Tryz.ntmps44
    go_wp2
    go_ret
    exact ⟨ret_bool (by rw [decide_eq_false (fun e => HL.out (by rw [e]))]), ext_refl _⟩

end Go.Proofs.YtdnnffbbhijmkaaGreat
