/- Contracts of functions over frames: found, compared, snapped. -/
import Derived.Test.YtdmehkifpccigaaS
import Derived.Test.YtdmehkifpccigaaI2
import Derived.StillTailTactics
namespace Go.Proofs.Ytdmehkifpccigaa
open Go.ChangeShapes Go.WideShapes Go.ChangeAt Go.RowKit
set_option linter.unusedVariables false
set_option linter.unusedSimpArgs false
set_option maxRecDepth 100000

/-- The first frame of a node. -/
def frameAt (xs : List GFrame) (n : Int) : GFrame × Bool :=
  match xs.find? (fun f => f.node == n) with
  | some f => (f, true)
  | none => (⟨0, 0, 0, 0, 0⟩, false)
theorem frameAt_hit {xs : List GFrame} {n : Int} {k : Nat} (hk : k < xs.length) (h0 : ∀ i (h : i < xs.length), i < k → xs[i].node ≠ n) (h1 : xs[k].node = n) : frameAt xs n = (xs[k], true) := by
  have : xs.find? (fun f => f.node == n) = some xs[k] := by
    rw [List.find?_eq_some_iff_getElem]
    exact ⟨by simp [h1], k, hk, rfl, fun j hj => by simp [h0 j (by omega) hj]⟩
  unfold frameAt
  rw [this]
theorem frameAt_none {xs : List GFrame} {n : Int} (h0 : ∀ i (h : i < xs.length), xs[i].node ≠ n) : frameAt xs n = (⟨0, 0, 0, 0, 0⟩, false) := by
  have : xs.find? (fun f => f.node == n) = none := by
    rw [List.find?_eq_none]
    intro x hx
    obtain ⟨i, hi, rfl⟩ := List.getElem_of_mem hx
    simp [h0 i hi]
  unfold frameAt
  rw [this]
def NotYet (xs : List GFrame) (n : Int) (k : Nat) : Prop := ∀ i (h : i < xs.length), i < k → xs[i].node ≠ n
theorem notYet_step {xs : List GFrame} {n : Int} {k : Nat} (h : NotYet xs n k) (hk : k < xs.length) (h1 : xs[k].node ≠ n) : NotYet xs n (k + 1) := fun i hi hik => by
  by_cases he : i = k
  · subst he; exact h1
  · exact h i hi (by omega)
/-- What a call comes to that returns a frame and a bool. -/
def FrameRet (w : World) (r : GFrame × Bool) (e : Ending) (w' : World) : Prop :=
  e = .returned (.tuple #[.agg #[.int .i64 r.1.node, .int .i64 r.1.x, .int .i64 r.1.y, .int .i64 r.1.wide, .int .i64 r.1.high], .bool r.2]) ∧ Below w.heap.size w w'

theorem spec_FrameAt_c {v : Value} {xs : List GFrame} (w : World) (hv : RepS 5 GFrame.c w v xs) (n : Int) :
    Calls Try.prog 36 #[v, .int .i64 n] w (FrameRet w (frameAt xs n)) := by
  obtain ⟨p, cap, rfl, hl, hm, hcs⟩ := GFrame.rep hv
  unfold maxLen at hm
  have HC := Lib.hid hcs
  clear hv hcs
  go_enter Try.func36, Try.ntmps36
  go_wp2
  go_loop [6] (fun i => ∃ k : Nat, k ≤ xs.length ∧ i = .int .i64 k ∧ NotYet xs n k) (fun i => xs.length - (intOf i).toNat)
  case atStart => exact ⟨0, Nat.zero_le _, rfl, fun i h h0 => absurd h0 (Nat.not_lt_zero _)⟩
  case round =>
    obtain ⟨k, hk, rfl, hny⟩ := hrel
    by_cases hlt : k < xs.length
    · obtain ⟨b, o, rfl, hc⟩ := HC.out (by omega)
      obtain ⟨c0, c1, c2, c3, c4⟩ := hc k hlt
      have g0 := ext_cell (ext_alloc w (.cells #[.int .i64 0, .int .i64 0, .int .i64 0, .int .i64 0, .int .i64 0] 25)) c0
      have g1 := ext_cell (ext_alloc w (.cells #[.int .i64 0, .int .i64 0, .int .i64 0, .int .i64 0, .int .i64 0] 25)) c1
      have g2 := ext_cell (ext_alloc w (.cells #[.int .i64 0, .int .i64 0, .int .i64 0, .int .i64 0, .int .i64 0] 25)) c2
      have g3 := ext_cell (ext_alloc w (.cells #[.int .i64 0, .int .i64 0, .int .i64 0, .int .i64 0, .int .i64 0] 25)) c3
      have g4 := ext_cell (ext_alloc w (.cells #[.int .i64 0, .int .i64 0, .int .i64 0, .int .i64 0, .int .i64 0] 25)) c4
      have i1 : (k : Int) < xs.length := by omega
      clear hc c0 c1 c2 c3 c4
      go_wp2
      · have hn : xs[k].node = n := by first | assumption | (simpa using ‹(xs[k].node == n) = true›)
        refine bodyPost_ret (v := .tuple #[.agg #[.int .i64 xs[k].node, .int .i64 xs[k].x, .int .i64 xs[k].y, .int .i64 xs[k].wide, .int .i64 xs[k].high], .bool true]) (by simp [results, Try.results36, go_sem]) rfl ?_
        rw [frameAt_hit hlt hny hn]
        exact ⟨rfl, by repeat (first | (with_reducible exact ext_refl _) | (with_reducible assumption) | (with_reducible refine Below.setCell ?_ (by first | omega | (simp; done) | (simp; omega)) _) | (with_reducible refine below_drewN ?_ _) | (with_reducible refine Below.drew ?_) | (with_reducible refine ext_trans ?_ (by with_reducible assumption)) | (with_reducible refine ext_trans ?_ (ext_alloc _ _)))⟩
      · have hn : ¬ xs[k].node = n := by first | assumption | (simpa using ‹(xs[k].node == n) = false›)
        exact ⟨⟨k + 1, by omega, by go_num, notYet_step hny hlt hn⟩, by simp [intOf]; omega⟩
    · have i1 : ¬ (k : Int) < xs.length := by omega
      have hno : NotYet xs n xs.length := fun i hi _ => hny i hi (by omega)
      have HN := Lib.hid hno
      clear hno hny
      go_wp2
      refine bodyPost_ret (v := .tuple #[.agg #[.int .i64 (⟨0,0,0,0,0⟩:GFrame).node, .int .i64 (⟨0,0,0,0,0⟩:GFrame).x, .int .i64 (⟨0,0,0,0,0⟩:GFrame).y, .int .i64 (⟨0,0,0,0,0⟩:GFrame).wide, .int .i64 (⟨0,0,0,0,0⟩:GFrame).high], .bool false]) (by simp [results, Try.results36, go_sem]) rfl ?_
      rw [frameAt_none (fun i hi => HN.out i hi hi)]
      exact ⟨rfl, by repeat (first | (with_reducible exact ext_refl _) | (with_reducible assumption) | (with_reducible refine Below.setCell ?_ (by first | omega | (simp; done) | (simp; omega)) _) | (with_reducible refine below_drewN ?_ _) | (with_reducible refine Below.drew ?_) | (with_reducible refine ext_trans ?_ (by with_reducible assumption)) | (with_reducible refine ext_trans ?_ (ext_alloc _ _)))⟩

set_option maxHeartbeats 1000000 in
theorem impl_FrameAt_c {v : Value} {xs : List GFrame} (w : World) (hv : RepS 5 GFrame.c w v xs) (n : Int) :
    Calls Try.prog 38 #[v, .int .i64 n] w (FrameRet w (frameAt xs n)) := by
  obtain ⟨p, cap, rfl, hl, hm, hcs⟩ := GFrame.rep hv
  unfold maxLen at hm
  have HC := Lib.hid hcs
  clear hv hcs
  go_enter Try.func38, Try.ntmps38
  go_wp2
  go_loopw [10] (fun i wr => ∃ k : Nat, k ≤ xs.length ∧ i = .int .i64 k ∧ NotYet xs n k ∧ Below w.heap.size w wr ∧ wr.heap[w.heap.size]? = some (.cells #[.int .i64 0, .int .i64 0, .int .i64 0, .int .i64 0, .int .i64 0] 25 (0, 0))) (fun i _ => xs.length - (intOf i).toNat)
  case atStart => exact ⟨0, Nat.zero_le _, rfl, fun i h h0 => absurd h0 (Nat.not_lt_zero _), ext_alloc _ _, row_alloc _ _ _⟩
  case round =>
    obtain ⟨k, hk, rfl, hny, hbel, hrow⟩ := hrel
    have HB := Lib.hid hbel
    have HR := Lib.hid hrow
    have hsz : w.heap.size < wr.heap.size := (Array.getElem?_eq_some_iff.1 hrow).1
    have r0 := row_cell (o := 0) hrow
    have r1 := row_cell (o := 1) hrow
    have r2 := row_cell (o := 2) hrow
    have r3 := row_cell (o := 3) hrow
    have r4 := row_cell (o := 4) hrow
    have f0 := row_free (o := 0) hrow
    have f1 := row_free (o := 1) hrow
    have f2 := row_free (o := 2) hrow
    have f3 := row_free (o := 3) hrow
    have f4 := row_free (o := 4) hrow
    simp only [List.getElem?_toArray, List.getElem?_cons_zero, List.getElem?_cons_succ] at r0 r1 r2 r3 r4
    clear hrow
    by_cases hlt : k < xs.length
    · obtain ⟨b, o, rfl, hc⟩ := HC.out (by omega)
      obtain ⟨c0, c1, c2, c3, c4⟩ := hc k hlt
      have g0 := ext_cell hbel c0
      have g1 := ext_cell hbel c1
      have g2 := ext_cell hbel c2
      have g3 := ext_cell hbel c3
      have g4 := ext_cell hbel c4
      have i1 : (k : Int) < xs.length := by omega
      clear hc c0 c1 c2 c3 c4 hbel
      go_wp2
      · have hn : xs[k].node = n := by first | assumption | (simpa using ‹(xs[k].node == n) = true›)
        refine bodyPost_ret (v := .tuple #[.agg #[.int .i64 xs[k].node, .int .i64 xs[k].x, .int .i64 xs[k].y, .int .i64 xs[k].wide, .int .i64 xs[k].high], .bool true]) (by simp [results, Try.results38, go_sem, *]) rfl ?_
        rw [frameAt_hit hlt hny hn]
        have hE := HB.out
        exact ⟨rfl, by repeat (first | (with_reducible exact ext_refl _) | (with_reducible assumption) | (with_reducible refine Below.setCell ?_ (by first | omega | (simp; done) | (simp; omega)) _) | (with_reducible refine below_drewN ?_ _) | (with_reducible refine Below.drew ?_) | (with_reducible refine ext_trans ?_ (by with_reducible assumption)) | (with_reducible refine ext_trans ?_ (ext_alloc _ _)))⟩
      · have hn : ¬ xs[k].node = n := by first | assumption | (simpa using ‹(xs[k].node == n) = false›)
        have hE := HB.out
        exact ⟨⟨k + 1, by omega, by go_num, notYet_step hny hlt hn, by repeat (first | (with_reducible exact ext_refl _) | (with_reducible assumption) | (with_reducible refine Below.setCell ?_ (by first | omega | (simp; done) | (simp; omega)) _) | (with_reducible refine below_drewN ?_ _) | (with_reducible refine Below.drew ?_) | (with_reducible refine ext_trans ?_ (by with_reducible assumption)) | (with_reducible refine ext_trans ?_ (ext_alloc _ _))), row_alloc_old _ HR.out⟩, by simp [intOf]; omega⟩
    · have i1 : ¬ (k : Int) < xs.length := by omega
      have hno : NotYet xs n xs.length := fun i hi _ => hny i hi (by omega)
      have HN := Lib.hid hno
      clear hno hny hbel
      go_wp2
      refine bodyPost_ret (v := .tuple #[.agg #[.int .i64 (⟨0,0,0,0,0⟩:GFrame).node, .int .i64 (⟨0,0,0,0,0⟩:GFrame).x, .int .i64 (⟨0,0,0,0,0⟩:GFrame).y, .int .i64 (⟨0,0,0,0,0⟩:GFrame).wide, .int .i64 (⟨0,0,0,0,0⟩:GFrame).high], .bool false]) (by simp [results, Try.results38, go_sem, *]) rfl ?_
      rw [frameAt_none (fun i hi => HN.out i hi hi)]
      have hE := HB.out
      exact ⟨rfl, by repeat (first | (with_reducible exact ext_refl _) | (with_reducible assumption) | (with_reducible refine Below.setCell ?_ (by first | omega | (simp; done) | (simp; omega)) _) | (with_reducible refine below_drewN ?_ _) | (with_reducible refine Below.drew ?_) | (with_reducible refine ext_trans ?_ (by with_reducible assumption)) | (with_reducible refine ext_trans ?_ (ext_alloc _ _)))⟩

end Go.Proofs.Ytdmehkifpccigaa
