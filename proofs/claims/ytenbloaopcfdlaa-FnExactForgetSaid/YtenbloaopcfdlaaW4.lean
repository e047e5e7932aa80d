/- A node's frame, sought in turn. -/
import Derived.Test.YtenbloaopcfdlaaW2
import Derived.Test.YtenbloaopcfdlaaN7
import Derived.Test.YtenbloaopcfdlaaN6
import Derived.Test.YtenbloaopcfdlaaT2
import Derived.Test.YtenbloaopcfdlaaM1
namespace Go.Proofs.Ytenbloaopcfdlaa
open Go.ChangeShapes Go.WideShapes Go.ChangeAt Go.RowKit Am
set_option linter.unusedVariables false
set_option linter.unusedSimpArgs false
set_option maxRecDepth 100000

def frF (n : Int) : List GFrame → GFrame × Bool
  | [] => (⟨0, 0, 0, 0, 0⟩, false)
  | f :: fs => if f.node = n then (f, true) else frF n fs
set_option maxHeartbeats 4000000 in
theorem impl_FrameAt_a (xs : List GFrame) (hl : xs.length ≤ 1048576) (n : Int) : PCon Try.prog 51 [.c (.view (vw GFrame.c xs)), ai n] fun res rows => res = .tup [.agg [.imm (.int .i64 (frF n xs).1.node), .imm (.int .i64 (frF n xs).1.x), .imm (.int .i64 (frF n xs).1.y), .imm (.int .i64 (frF n xs).1.wide), .imm (.int .i64 (frF n xs).1.high)], .c (.imm (.bool (frF n xs).2))] ∧ rows = [] := by
  obtain ⟨r, hr⟩ : ∃ r, r = frF n xs := ⟨_, rfl⟩
  rw [← hr]
  obtain ⟨⟨r0, r1, r2, r3, r4⟩, t⟩ := r
  simp only
  obtain ⟨V, hV⟩ : ∃ V, V = vw GFrame.c xs := ⟨_, rfl⟩
  have hVl : V.length = xs.length := by rw [hV, vw_length]
  have iV : immE V = true := by rw [hV]; exact vw_imm _ _
  have kV : ∀ y ∈ V, y.length = 5 := by rw [hV]; exact vw_k (c := GFrame.c) (k := 5) fun _ => rfl
  have dV : ∀ y ∈ V, y.all dat = true := by rw [hV]; exact vw_dat
  rw [← hV]
  refine pcon_run (c := body Try.f51) fits Try.func51 (by kernel_rfl) (by kernel_rfl) (by rfl) (by kernel_rfl) fun g F hg hF => ?_
  cbv
  refine loop_go hg fits (by kernel_rfl) V (fun x => lc (GFrame.c x)) xs hV hl (fun z (s : Unit) => [(1, .t (ai (n))), (4, .t (.c (.ptr 0 0 0))), (5, .t (abl (false))), (8, .t (.c (.view V))), (9, .t (ai (g .ln V))), (10, .t (ai (z)))]) (fun z (s : Unit) => [.bx 79 5 [.imm (.int .i64 0), .imm (.int .i64 0), .imm (.int .i64 0), .imm (.int .i64 0), .imm (.int .i64 0)]]) (fun z (s : Unit) => True) (fun (s : Unit) rest => frF n rest) (((⟨r0, r1, r2, r3, r4⟩ : GFrame), t)) () hr.symm trivial (Wk.weak (wkG [some _] ⟨rfl, rfl, rfl, rfl, rfl, rfl, trivial⟩ ⟨⟨_, _, rfl, rfl, rfl, rfl, .inl ⟨rfl, rfl⟩⟩, trivial⟩ (by decide) no_lt)) (fun z s B hz h0 hi he => ?_) (fun z s x rest B z0 z1 z2 hx hy h0 hi hc e1 hB => ?_)
  · cbv
    rw [he]
    cbv
    obtain ⟨⟨rfl, rfl, rfl, rfl, rfl⟩, rfl⟩ : ((0 : Int) = r0 ∧ (0 : Int) = r1 ∧ (0 : Int) = r2 ∧ (0 : Int) = r3 ∧ (0 : Int) = r4) ∧ false = t := by simpa [frF] using h0
    exact fin0 hF rfl ⟨rfl, rfl⟩
  · obtain ⟨a0, a1, a2, a3, a4⟩ := x
    replace h0 : (if a0 = n then ((⟨a0, a1, a2, a3, a4⟩ : GFrame), true) else frF n rest) = ((⟨r0, r1, r2, r3, r4⟩ : GFrame), t) := h0
    cbv; rw [hc]; cbv; refine goX hg _ z0 hy rfl ?_; cbv
    cases e : g .q .eql a0 n
    case false =>
      rw [goEql hg, beq_eq_false_iff_ne] at e
      rw [if_neg e] at h0
      cbv
      rw [e1]
      exact hB (()) _ _ ⟨h0, trivial⟩ (Wk.weak (wkG [some _] ⟨rfl, rfl, rfl, rfl, rfl, rfl, trivial⟩ ⟨⟨_, _, rfl, rfl, rfl, rfl, .inl ⟨rfl, rfl⟩⟩, trivial⟩ (by decide) no_lt))
    rw [goEql hg, beq_iff_eq] at e
    rw [if_pos e] at h0
    cbv
    obtain ⟨⟨rfl, rfl, rfl, rfl, rfl⟩, rfl⟩ : (a0 = r0 ∧ a1 = r1 ∧ a2 = r2 ∧ a3 = r3 ∧ a4 = r4) ∧ true = t := by simpa using h0
    exact fin0 hF rfl ⟨rfl, rfl⟩
set_option maxHeartbeats 4000000 in
theorem spec_FrameAt_a (xs : List GFrame) (hl : xs.length ≤ 1048576) (n : Int) : PCon Try.prog 44 [.c (.view (vw GFrame.c xs)), ai n] fun res rows => res = .tup [.agg [.imm (.int .i64 (frF n xs).1.node), .imm (.int .i64 (frF n xs).1.x), .imm (.int .i64 (frF n xs).1.y), .imm (.int .i64 (frF n xs).1.wide), .imm (.int .i64 (frF n xs).1.high)], .c (.imm (.bool (frF n xs).2))] ∧ rows = [] := by
  obtain ⟨r, hr⟩ : ∃ r, r = frF n xs := ⟨_, rfl⟩
  rw [← hr]
  obtain ⟨⟨r0, r1, r2, r3, r4⟩, t⟩ := r
  simp only
  obtain ⟨V, hV⟩ : ∃ V, V = vw GFrame.c xs := ⟨_, rfl⟩
  have hVl : V.length = xs.length := by rw [hV, vw_length]
  have iV : immE V = true := by rw [hV]; exact vw_imm _ _
  have kV : ∀ y ∈ V, y.length = 5 := by rw [hV]; exact vw_k (c := GFrame.c) (k := 5) fun _ => rfl
  have dV : ∀ y ∈ V, y.all dat = true := by rw [hV]; exact vw_dat
  rw [← hV]
  refine pcon_run (c := body Try.f44) fits Try.func44 (by kernel_rfl) (by kernel_rfl) (by rfl) (by kernel_rfl) fun g F hg hF => ?_
  cbv
  refine loop_go hg fits (by kernel_rfl) V (fun x => lc (GFrame.c x)) xs hV hl (fun z (s : Unit) => [(0, .t (.c (.view V))), (1, .t (ai (n))), (4, .t (.c (.ptr 0 0 0))), (5, .t (abl (false))), (6, .t (ai (z)))]) (fun z (s : Unit) => [.bx 79 5 [.imm (.int .i64 0), .imm (.int .i64 0), .imm (.int .i64 0), .imm (.int .i64 0), .imm (.int .i64 0)]]) (fun z (s : Unit) => True) (fun (s : Unit) rest => frF n rest) (((⟨r0, r1, r2, r3, r4⟩ : GFrame), t)) () hr.symm trivial (Wk.weak (wkG [some _] ⟨rfl, rfl, rfl, rfl, rfl, trivial⟩ ⟨⟨_, _, rfl, rfl, rfl, rfl, .inl ⟨rfl, rfl⟩⟩, trivial⟩ (by decide) no_lt)) (fun z s B hz h0 hi he => ?_) (fun z s x rest B z0 z1 z2 hx hy h0 hi hc e1 hB => ?_)
  · cbv
    rw [he]
    cbv
    obtain ⟨⟨rfl, rfl, rfl, rfl, rfl⟩, rfl⟩ : ((0 : Int) = r0 ∧ (0 : Int) = r1 ∧ (0 : Int) = r2 ∧ (0 : Int) = r3 ∧ (0 : Int) = r4) ∧ false = t := by simpa [frF] using h0
    exact fin0 hF rfl ⟨rfl, rfl⟩
  · obtain ⟨a0, a1, a2, a3, a4⟩ := x
    replace h0 : (if a0 = n then ((⟨a0, a1, a2, a3, a4⟩ : GFrame), true) else frF n rest) = ((⟨r0, r1, r2, r3, r4⟩ : GFrame), t) := h0
    cbv; rw [hc]; cbv; refine goX hg _ z0 hy rfl ?_; cbv
    cases e : g .q .eql a0 n
    case false =>
      rw [goEql hg, beq_eq_false_iff_ne] at e
      rw [if_neg e] at h0
      cbv
      rw [e1]
      exact hB (()) _ _ ⟨h0, trivial⟩ (Wk.weak (wkG [some _] ⟨rfl, rfl, rfl, rfl, rfl, trivial⟩ ⟨⟨_, _, rfl, rfl, rfl, rfl, .inl ⟨rfl, rfl⟩⟩, trivial⟩ (by decide) no_lt))
    rw [goEql hg, beq_iff_eq] at e
    rw [if_pos e] at h0
    cbv
    refine goX hg _ z0 hy rfl ?_
    cbv
    obtain ⟨⟨rfl, rfl, rfl, rfl, rfl⟩, rfl⟩ : (a0 = r0 ∧ a1 = r1 ∧ a2 = r2 ∧ a3 = r3 ∧ a4 = r4) ∧ true = t := by simpa using h0
    exact fin0 hF rfl ⟨rfl, rfl⟩

end Go.Proofs.Ytenbloaopcfdlaa
