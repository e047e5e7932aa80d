/- Contracts of functions over slices of ints, and of those that make one. -/
import Derived.Test.YtdmehkifpccigaaI1
import Derived.Test.YtdmehkifpccigaaF2
namespace Go.Proofs.Ytdmehkifpccigaa
open Go.ChangeShapes Go.WideShapes Go.ChangeAt Go.RowKit
set_option linter.unusedVariables false
set_option linter.unusedSimpArgs false
set_option maxRecDepth 100000

def edgesL (f : GFrame) : List Int := [f.x, f.y, wrap64 (f.x + f.wide), wrap64 (f.y + f.high)]
theorem own_lit {α : Type} {T k : Nat} {c : α → Array Value} {B b : Nat} {w : World} {cur : Array Value} {xs : List α} (hr : w.heap[b]? = some (.cells cur T (0, 0))) (hB : B ≤ b) (hm : xs.length ≤ maxLen) (hs : cur.size = xs.length * k)
    (h : ∀ i (h : i < xs.length) j, j < k → ∃ u, (c xs[i])[j]? = some u ∧ cur[i * k + j]? = some u) : OwnS T k c B w (.slice (some ⟨b, 0, none⟩) xs.length xs.length) xs :=
  .inr ⟨b, _, cur, rfl, hB, hr, Nat.le_refl _, hm, hs, h⟩

theorem impl_EdgesOf_c (f : GFrame) (w : World) :
    Calls Try.prog 28 #[.agg #[.int .i64 f.node, .int .i64 f.x, .int .i64 f.y, .int .i64 f.wide, .int .i64 f.high]] w (NewS 3 1 intC w (edgesL f)) := by
  go_enter Try.func28, Try.ntmps28
  go_wp2
  go_ret
  refine NewS.mk ?_ (by repeat (first | (with_reducible exact ext_refl _) | (with_reducible assumption) | (with_reducible refine Below.setCell ?_ (by first | omega | (simp; done) | (simp; omega)) _) | (with_reducible refine below_drewN ?_ _) | (with_reducible refine Below.drew ?_) | (with_reducible refine ext_trans ?_ (by with_reducible assumption)) | (with_reducible refine ext_trans ?_ (ext_alloc _ _))))
  refine own_lit (xs := edgesL f) (row_at (by simp)) (by simp) (by simp [edgesL, maxLen]) rfl (fun i hi j hj => ?_)
  obtain rfl : j = 0 := by omega
  have : i < 4 := hi
  match i, this with
  | 0, _ => exact ⟨_, rfl, rfl⟩
  | 1, _ => exact ⟨_, rfl, rfl⟩
  | 2, _ => exact ⟨_, rfl, rfl⟩
  | 3, _ => exact ⟨_, rfl, rfl⟩

theorem spec_EdgesOf_c (f : GFrame) (w : World) :
    Calls Try.prog 27 #[.agg #[.int .i64 f.node, .int .i64 f.x, .int .i64 f.y, .int .i64 f.wide, .int .i64 f.high]] w (NewS 3 1 intC w (edgesL f)) := by
  go_enter Try.func27, Try.ntmps27
  go_wp2
  go_ret
  refine NewS.mk ?_ (by repeat (first | (with_reducible exact ext_refl _) | (with_reducible assumption) | (with_reducible refine Below.setCell ?_ (by first | omega | (simp; done) | (simp; omega)) _) | (with_reducible refine below_drewN ?_ _) | (with_reducible refine Below.drew ?_) | (with_reducible refine ext_trans ?_ (by with_reducible assumption)) | (with_reducible refine ext_trans ?_ (ext_alloc _ _))))
  refine own_lit (xs := edgesL f) (row_at (by simp)) (by simp) (by simp [edgesL, maxLen]) rfl (fun i hi j hj => ?_)
  obtain rfl : j = 0 := by omega
  have : i < 4 := hi
  match i, this with
  | 0, _ => exact ⟨_, rfl, rfl⟩
  | 1, _ => exact ⟨_, rfl, rfl⟩
  | 2, _ => exact ⟨_, rfl, rfl⟩
  | 3, _ => exact ⟨_, rfl, rfl⟩

noncomputable def pB (p : Prop) : Bool := @decide p (Classical.propDecidable p)
theorem pB_true {p : Prop} (h : p) : pB p = true := by simp [pB, h]
theorem pB_false {p : Prop} (h : ¬ p) : pB p = false := by simp [pB, h]
/-- No place of a list lies before the end of the one ahead of it. -/
def Apart (ps ss : List Int) : Prop := ps.length = ss.length ∧ ∀ i (h : i + 1 < ps.length) (h' : i < ss.length), wrap64 (ps[i] + ss[i]) ≤ ps[i + 1]
def ApartTo (ps ss : List Int) (k : Nat) : Prop := ∀ i (h : i + 1 < ps.length) (h' : i < ss.length), i < k → wrap64 (ps[i] + ss[i]) ≤ ps[i + 1]

theorem impl_Apartly_c {va vb : Value} {xs ys : List Int} (w : World) (ha : RepI w va xs) (hb : RepI w vb ys) :
    Calls Try.prog 34 #[va, vb] w fun e w' => e = .returned (.bool (pB (Apart xs ys))) ∧ Below w.heap.size w w' := by
  obtain ⟨pa, ca, rfl, hla, hma, hca⟩ := ha.at
  obtain ⟨pb, cb, rfl, hlb, hmb, hcb⟩ := hb.at
  unfold maxLen at hma hmb
  clear ha hb
  by_cases hl : xs.length = ys.length
  · have hd : ((xs.length : Int) == (ys.length : Int)) = true := by simp [hl]
    have hd' : ((xs.length : Int) != (ys.length : Int)) = false := by simp [hl]
    have HL := Lib.hid hl
    have HCA := Lib.hid hca
    have HCB := Lib.hid hcb
    clear hl hca hcb
    go_enter Try.func34, Try.ntmps34
    go_wp2
    go_loopw [5] (fun i wr => ∃ k : Nat, (k = 0 ∨ k < xs.length) ∧ i = .int .i64 (k + 1) ∧ ApartTo xs ys k ∧ Below w.heap.size w wr) (fun i _ => xs.length + 1 - (intOf i).toNat)
    case atStart => exact ⟨0, .inl rfl, rfl, fun i h h' h0 => absurd h0 (Nat.not_lt_zero _), ext_refl _⟩
    case round =>
      obtain ⟨k, hk, rfl, HP, hbel⟩ := hrel
      have hk : k ≤ xs.length := by omega
      by_cases hlt : k + 1 < xs.length
      · have hlt2 : k < ys.length := by have := HL.out; omega
        obtain ⟨b1, o1, rfl, hc1⟩ := HCA.out (by omega)
        obtain ⟨b2, o2, rfl, hc2⟩ := HCB.out (by omega)
        have e1 := ext_cell hbel (hc1 (k + 1) hlt)
        have e2 := ext_cell hbel (hc1 k (by omega))
        have e3 := ext_cell hbel (hc2 k hlt2)
        clear hc1 hc2
        have i1 : (k : Int) + 1 < xs.length := by omega
        have i2 : (k : Int) < ys.length := by omega
        have i3 : (k : Int) < xs.length := by omega
        go_wp2
        go_quiet (fail)
        go_wp2
        · have hlt3 : ¬ wrap64 (xs[k] + ys[k]) ≤ xs[k + 1] := by omega
          go_ret
          exact ⟨ret_bool (pB_false (fun h => hlt3 (h.2 k hlt hlt2))).symm, by repeat (first | (with_reducible exact ext_refl _) | (with_reducible assumption) | (with_reducible refine Below.setCell ?_ (by first | omega | (simp; done) | (simp; omega)) _) | (with_reducible refine below_drewN ?_ _) | (with_reducible refine Below.drew ?_) | (with_reducible refine ext_trans ?_ (by with_reducible assumption)) | (with_reducible refine ext_trans ?_ (ext_alloc _ _)))⟩
        · have hle : wrap64 (xs[k] + ys[k]) ≤ xs[k + 1] := by assumption
          refine ⟨⟨k + 1, .inr hlt, by go_num, fun i h h' hi => ?_, by repeat (first | (with_reducible exact ext_refl _) | (with_reducible assumption) | (with_reducible refine Below.setCell ?_ (by first | omega | (simp; done) | (simp; omega)) _) | (with_reducible refine below_drewN ?_ _) | (with_reducible refine Below.drew ?_) | (with_reducible refine ext_trans ?_ (by with_reducible assumption)) | (with_reducible refine ext_trans ?_ (ext_alloc _ _)))⟩, by simp [intOf]; omega⟩
          by_cases he : i = k
          · subst he; exact hle
          · exact HP i h h' (by omega)
      · have i1 : ¬ (k : Int) + 1 < xs.length := by omega
        go_wp2
        go_ret
        exact ⟨ret_bool (pB_true ⟨HL.out, fun i h h' => HP i h h' (by omega)⟩).symm, by repeat (first | (with_reducible exact ext_refl _) | (with_reducible assumption) | (with_reducible refine Below.setCell ?_ (by first | omega | (simp; done) | (simp; omega)) _) | (with_reducible refine below_drewN ?_ _) | (with_reducible refine Below.drew ?_) | (with_reducible refine ext_trans ?_ (by with_reducible assumption)) | (with_reducible refine ext_trans ?_ (ext_alloc _ _)))⟩
  · have hd : ((xs.length : Int) == (ys.length : Int)) = false := by simp; omega
    have hd' : ((xs.length : Int) != (ys.length : Int)) = true := by simp; omega
    have HL := Lib.hid hl
    clear hl hca hcb
    go_enter Try.func34, Try.ntmps34
    go_wp2
    go_ret
    exact ⟨ret_bool (pB_false (fun h => HL.out h.1)).symm, ext_refl _⟩

theorem spec_Apartly_c {va vb : Value} {xs ys : List Int} (w : World) (ha : RepI w va xs) (hb : RepI w vb ys) :
    Calls Try.prog 32 #[va, vb] w fun e w' => e = .returned (.bool (pB (Apart xs ys))) ∧ Below w.heap.size w w' := by
  obtain ⟨pa, ca, rfl, hla, hma, hca⟩ := ha.at
  obtain ⟨pb, cb, rfl, hlb, hmb, hcb⟩ := hb.at
  unfold maxLen at hma hmb
  clear ha hb
  by_cases hl : xs.length = ys.length
  · have hd : ((xs.length : Int) == (ys.length : Int)) = true := by simp [hl]
    have hd' : ((xs.length : Int) != (ys.length : Int)) = false := by simp [hl]
    have HL := Lib.hid hl
    have HCA := Lib.hid hca
    have HCB := Lib.hid hcb
    clear hl hca hcb
    go_enter Try.func32, Try.ntmps32
    go_wp2
    go_loopw [5] (fun i wr => ∃ k : Nat, (k = 0 ∨ k < xs.length) ∧ i = .int .i64 (k + 1) ∧ ApartTo xs ys k ∧ Below w.heap.size w wr) (fun i _ => xs.length + 1 - (intOf i).toNat)
    case atStart => exact ⟨0, .inl rfl, rfl, fun i h h' h0 => absurd h0 (Nat.not_lt_zero _), ext_refl _⟩
    case round =>
      obtain ⟨k, hk, rfl, HP, hbel⟩ := hrel
      have hk : k ≤ xs.length := by omega
      by_cases hlt : k + 1 < xs.length
      · have hlt2 : k < ys.length := by have := HL.out; omega
        obtain ⟨b1, o1, rfl, hc1⟩ := HCA.out (by omega)
        obtain ⟨b2, o2, rfl, hc2⟩ := HCB.out (by omega)
        have e1 := ext_cell hbel (hc1 (k + 1) hlt)
        have e2 := ext_cell hbel (hc1 k (by omega))
        have e3 := ext_cell hbel (hc2 k hlt2)
        clear hc1 hc2
        have i1 : (k : Int) + 1 < xs.length := by omega
        have i2 : (k : Int) < ys.length := by omega
        have i3 : (k : Int) < xs.length := by omega
        go_wp2
        go_quiet (fail)
        go_wp2
        · have hlt3 : ¬ wrap64 (xs[k] + ys[k]) ≤ xs[k + 1] := by omega
          go_ret
          exact ⟨ret_bool (pB_false (fun h => hlt3 (h.2 k hlt hlt2))).symm, by repeat (first | (with_reducible exact ext_refl _) | (with_reducible assumption) | (with_reducible refine Below.setCell ?_ (by first | omega | (simp; done) | (simp; omega)) _) | (with_reducible refine below_drewN ?_ _) | (with_reducible refine Below.drew ?_) | (with_reducible refine ext_trans ?_ (by with_reducible assumption)) | (with_reducible refine ext_trans ?_ (ext_alloc _ _)))⟩
        · have hle : wrap64 (xs[k] + ys[k]) ≤ xs[k + 1] := by assumption
          refine ⟨⟨k + 1, .inr hlt, by go_num, fun i h h' hi => ?_, by repeat (first | (with_reducible exact ext_refl _) | (with_reducible assumption) | (with_reducible refine Below.setCell ?_ (by first | omega | (simp; done) | (simp; omega)) _) | (with_reducible refine below_drewN ?_ _) | (with_reducible refine Below.drew ?_) | (with_reducible refine ext_trans ?_ (by with_reducible assumption)) | (with_reducible refine ext_trans ?_ (ext_alloc _ _)))⟩, by simp [intOf]; omega⟩
          by_cases he : i = k
          · subst he; exact hle
          · exact HP i h h' (by omega)
      · have i1 : ¬ (k : Int) + 1 < xs.length := by omega
        go_wp2
        go_ret
        exact ⟨ret_bool (pB_true ⟨HL.out, fun i h h' => HP i h h' (by omega)⟩).symm, by repeat (first | (with_reducible exact ext_refl _) | (with_reducible assumption) | (with_reducible refine Below.setCell ?_ (by first | omega | (simp; done) | (simp; omega)) _) | (with_reducible refine below_drewN ?_ _) | (with_reducible refine Below.drew ?_) | (with_reducible refine ext_trans ?_ (by with_reducible assumption)) | (with_reducible refine ext_trans ?_ (ext_alloc _ _)))⟩
  · have hd : ((xs.length : Int) == (ys.length : Int)) = false := by simp; omega
    have hd' : ((xs.length : Int) != (ys.length : Int)) = true := by simp; omega
    have HL := Lib.hid hl
    clear hl hca hcb
    go_enter Try.func32, Try.ntmps32
    go_wp2
    go_ret
    exact ⟨ret_bool (pB_false (fun h => HL.out h.1)).symm, ext_refl _⟩

end Go.Proofs.Ytdmehkifpccigaa
