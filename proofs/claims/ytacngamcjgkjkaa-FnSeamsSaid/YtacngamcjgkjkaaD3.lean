/- Overlaps of frames, equal lists of frames, what came in as bytes. -/
import Derived.Test.YtacngamcjgkjkaaD2
import Derived.Test.YtacngamcjgkjkaaOn
namespace Go.Proofs.Ytacngamcjgkjkaa
open Go.ChangeShapes Go.WideShapes Go.ChangeAt Go.RowKit Am
set_option linter.unusedVariables false
set_option linter.unusedSimpArgs false
set_option maxRecDepth 100000

/-- A slice of bytes that came in. -/
theorem open_bytes {H : Type} {enc : TypeId × Value → H} {P : Program} {w : World} {r : Reach} {b0 : Nat} {held : Bool} {T te : TypeId} {v : Value} {d : DataW H} {p : List MemPlace}
    (hl : laidOutB P = true) (hu : P.underlying te = some (.int .u8)) (hlt : te < P.types.size) (ht : P.underlying T = some (.slice te))
    (hft : flatT P 5 te = some [te]) (hC : P.cellsOf te = 1) (h : DataW.Trod enc P w 0 (fun _ => true) held T v d p) (hv : Value.okWide P w r b0 T v) :
    ∃ xs : List Int, RepS 1 bytC w v xs := by
  obtain ⟨a0, n0, c0, rfl⟩ := okWide_slice ht hv
  obtain ⟨fuel, hf⟩ := h
  rcases Go.Deep.open_slice ht hf with ⟨hcs, _⟩ | ⟨a, len, cap, m, n, D, Pl, hcs, hba, hlc, hm, hmm, hx, hel⟩
  · simp [Value.cells] at hcs
    obtain ⟨rfl, rfl, rfl⟩ := hcs
    exact ⟨[], none, 0, rfl, by simp, by simp, by simp⟩
  · simp [Value.cells] at hcs
    obtain ⟨rfl, rfl, rfl⟩ := hcs
    have key : ∀ i, i < n0 → ∃ x : Int, a.spot = none ∧ w.cell? ⟨a.block, a.off + i, none⟩ = some (.int .u8 x) := by
      intro i hi'
      obtain ⟨cs', hc, htr⟩ := hel i (by rw [hmm]; simp; omega)
      rw [hC] at hc
      obtain ⟨_, hcl, hat⟩ := World.cells?_some hc
      have h1 := flat_of_trod hl 5 te _ n _ _ hlt hft htr
      obtain ⟨c, f', y, hci, hy⟩ := h1.2 0 te rfl
      obtain ⟨k, h2, _, _⟩ := DataW.trod_int hu hy
      simp only [List.cons.injEq, and_true] at h2
      subst h2
      have hcell := hat 0 (by omega)
      rw [hci] at hcell
      have hsp : a.spot = none := by
        obtain ⟨cs0, hc0', htr0⟩ := hel 0 (by rw [hmm]; simp; omega)
        rw [hC] at hc0'
        obtain ⟨_, hl0, hat0⟩ := World.cells?_some hc0'
        have h1' := flat_of_trod hl 5 te _ n _ _ hlt hft htr0
        obtain ⟨c', f'', y', hci', _⟩ := h1'.2 0 te rfl
        have h4 := hat0 0 (by omega)
        rw [hci'] at h4
        have h5 := spot_of_cell h4
        simpa [Addr.add] using h5
      refine ⟨k, hsp, ?_⟩
      have := addr_two a hsp (i * 1) 0
      simp only [Nat.mul_one, Nat.add_zero] at this
      rw [← this]
      simpa using hcell
    obtain ⟨f, hf'⟩ : ∃ f : Nat → Int, ∀ i, i < n0 → a.spot = none ∧ w.cell? ⟨a.block, a.off + i, none⟩ = some (.int .u8 (f i)) := Go.Deep.choose_lt key
    refine ⟨(List.range n0).map f, some a, c0, by simp, by simpa using hlc, hm, fun h0 => ?_⟩
    have h0' : 0 < n0 := by simpa using h0
    obtain ⟨hsp, _⟩ := hf' 0 h0'
    refine ⟨a.block, a.off, by obtain ⟨b, o, s⟩ := a; simp only at hsp; subst hsp; rfl, fun i hi' j hj' => ?_⟩
    have hi2 : i < n0 := by simpa using hi'
    obtain ⟨_, h3⟩ := hf' i hi2
    have hj0 : j = 0 := by omega
    subst hj0
    exact ⟨.int .u8 (f i), by simp, by simpa using h3⟩
section
variable {P : Program} {n0 N : Nat} {g : Gd}
theorem goCvU (hg : g = G0 P n0 N) (a : Int) : g .cv .u64 a = IntKind.u64.wrap a := by subst hg; rfl
theorem goSubU (hg : g = G0 P n0 N) (a b : Int) : g .w .sub .u64 a b = IntKind.u64.wrap (a - b) := by subst hg; rfl
theorem goNgU (hg : g = G0 P n0 N) (a : Int) : g .ng .u64 a = IntKind.u64.wrap (0 - a) := by subst hg; rfl
end
/-- Two frames lie over one another. -/
def ovl (a b : GFrame) : Bool := (decide (a.x < b.x + b.wide) && decide (b.x < a.x + a.wide)) && decide (a.y < b.y + b.high) && decide (b.y < a.y + a.high)
theorem spec_l25Before_a (a b x : Int) (ha : R64 a) (hb : R64 b) (hx : R64 x) : PCon Try.prog 62 [ai a, ai b, ai x] fun res rows => res = .t (abl (decide (a < b + x))) ∧ rows = [] := by
  unfold R64 at ha hb hx
  obtain ⟨q, hq⟩ : ∃ q, q = decide (a < b + x) := ⟨_, rfl⟩
  rw [← hq]
  refine pcon_run (c := body Try.f62) fits Try.func62 (by kernel_rfl) (by kernel_rfl) (by rfl) (by kernel_rfl) fun g F hg hF => ?_
  have t0 : g .q .gtr x 0 = decide (0 < x) := by rw [goGtr hg]
  have t1 : g .q .lss a b = decide (a < b) := goLss hg _ _
  have e1 : g .q .lss (g .w .sub .u64 (g .cv .u64 a) (g .cv .u64 b)) (g .cv .u64 x) = decide ((IntKind.u64.wrap (IntKind.u64.wrap a - IntKind.u64.wrap b)) < IntKind.u64.wrap x) := by rw [goLss hg, goSubU hg, goCvU hg, goCvU hg, goCvU hg]
  have e2 : g .q .gtr (g .w .sub .u64 (g .cv .u64 b) (g .cv .u64 a)) (g .ng .u64 (g .cv .u64 x)) = decide (IntKind.u64.wrap (0 - IntKind.u64.wrap x) < (IntKind.u64.wrap (IntKind.u64.wrap b - IntKind.u64.wrap a))) := by rw [goGtr hg, goSubU hg, goCvU hg, goCvU hg, goNgU hg, goCvU hg]
  simp only [IntKind.wrap_u64] at e1 e2
  by_cases h1 : 0 < x
  · cbv
    rw [t0, decide_eq_true h1]
    cbv
    rw [t1]
    by_cases h2 : a < b
    · rw [decide_eq_true h2]
      cbv
      exact fin0b hF (by rw [hq]; symm; rw [decide_eq_true_eq]; omega)
    · rw [decide_eq_false h2]
      cbv
      exact fin0b hF (by rw [hq, e1, decide_eq_decide]; omega)
  · cbv
    rw [t0, decide_eq_false h1]
    cbv
    rw [t1]
    by_cases h2 : a < b
    · rw [decide_eq_true h2]
      cbv
      exact fin0b hF (by rw [hq, e2, decide_eq_decide]; omega)
    · rw [decide_eq_false h2]
      cbv
      exact fin0b hF (by rw [hq]; symm; rw [decide_eq_false_iff_not]; omega)
theorem spec_Overlaps_a (a b : GFrame) (ha : a.ok) (hb : b.ok) : PCon Try.prog 33 [agF a, agF b] fun res rows => res = .t (abl (ovl a b)) ∧ rows = [] := by
  obtain ⟨a0, a1, a2, a3, a4⟩ := a
  obtain ⟨b0, b1, b2, b3, b4⟩ := b
  obtain ⟨_, ha1, ha2, ha3, ha4⟩ := ha
  obtain ⟨_, hb1, hb2, hb3, hb4⟩ := hb
  have c1 := spec_l25Before_a a1 b1 b3 ha1 hb1 hb3
  have c2 := spec_l25Before_a b1 a1 a3 hb1 ha1 ha3
  have c3 := spec_l25Before_a a2 b2 b4 ha2 hb2 hb4
  have c4 := spec_l25Before_a b2 a2 a4 hb2 ha2 ha4
  obtain ⟨o, ho⟩ : ∃ o, o = ovl ⟨a0, a1, a2, a3, a4⟩ ⟨b0, b1, b2, b3, b4⟩ := ⟨_, rfl⟩
  have ho2 : o = ((decide (a1 < b1 + b3) && decide (b1 < a1 + a3)) && decide (a2 < b2 + b4) && decide (b2 < a2 + a4)) := ho
  obtain ⟨q1, hq1⟩ : ∃ q, q = decide (a1 < b1 + b3) := ⟨_, rfl⟩
  obtain ⟨q2, hq2⟩ : ∃ q, q = decide (b1 < a1 + a3) := ⟨_, rfl⟩
  obtain ⟨q3, hq3⟩ : ∃ q, q = decide (a2 < b2 + b4) := ⟨_, rfl⟩
  obtain ⟨q4, hq4⟩ : ∃ q, q = decide (b2 < a2 + a4) := ⟨_, rfl⟩
  rw [← hq1, ← hq2, ← hq3, ← hq4] at ho2
  rw [← hq1] at c1
  rw [← hq2] at c2
  rw [← hq3] at c3
  rw [← hq4] at c4
  rw [← ho]
  refine pcon_run (c := body Try.f33) fits Try.func33 (by kernel_rfl) (by kernel_rfl) (by rfl) (by kernel_rfl) fun g F hg hF => ?_
  cbv
  (first | refine call0 hg (c1) rfl rfl ?_ | refine call0P hg (c1) rfl rfl ?_); cbv
  cases h1 : q1 <;> cbv
  · exact fin0b hF (by rw [ho2, h1]; rfl)
  (first | refine call0 hg (c2) rfl rfl ?_ | refine call0P hg (c2) rfl rfl ?_); cbv
  cases h2 : q2 <;> cbv
  · exact fin0b hF (by rw [ho2, h1, h2]; rfl)
  (first | refine call0 hg (c3) rfl rfl ?_ | refine call0P hg (c3) rfl rfl ?_); cbv
  cases h3 : q3 <;> cbv
  · exact fin0b hF (by rw [ho2, h1, h2, h3]; rfl)
  (first | refine call0 hg (c4) rfl rfl ?_ | refine call0P hg (c4) rfl rfl ?_); cbv
  exact fin0b hF (by rw [ho2, h1, h2, h3]; cases q4 <;> rfl)
theorem goEFD {n0 N : Nat} {g : Gd} (hg : g = G0 Try.prog n0 N) (a0 a1 a2 a3 a4 b0 b1 b2 b3 b4 : Int) {K : Bool → Prop} (hK : K (!(decide ((⟨a0, a1, a2, a3, a4⟩ : GFrame) = ⟨b0, b1, b2, b3, b4⟩)))) :
    g .E .neq 54 [.imm (.int .i64 a0), .imm (.int .i64 a1), .imm (.int .i64 a2), .imm (.int .i64 a3), .imm (.int .i64 a4)] [.imm (.int .i64 b0), .imm (.int .i64 b1), .imm (.int .i64 b2), .imm (.int .i64 b3), .imm (.int .i64 b4)] K := by
  subst hg
  refine ⟨by kernel_rfl, ⟨_, Try.underlying54⟩, [.int .i64 a0, .int .i64 a1, .int .i64 a2, .int .i64 a3, .int .i64 a4], [.int .i64 b0, .int .i64 b1, .int .i64 b2, .int .i64 b3, .int .i64 b4], _, rfl, rfl, ?_, hK⟩
  have h1 : eqT Try.prog 8 54 [.int .i64 a0, .int .i64 a1, .int .i64 a2, .int .i64 a3, .int .i64 a4] [.int .i64 b0, .int .i64 b1, .int .i64 b2, .int .i64 b3, .int .i64 b4] = some ((a0 == b0) && ((a1 == b1) && ((a2 == b2) && ((a3 == b3) && ((a4 == b4) && true))))) := by
    rfl
  rw [h1]
  congr 1
  rw [Bool.eq_iff_iff]
  simp
theorem laws_sameFrames_a (xs : List GFrame) (hl : xs.length ≤ 1048576) : PCon Try.prog 30 [.c (.view (vw GFrame.c xs)), .c (.view (vw GFrame.c xs))] fun res rows => res = .t (abl true) ∧ rows = [] := by
  obtain ⟨V, hV⟩ : ∃ V, V = vw GFrame.c xs := ⟨_, rfl⟩
  have hVl : V.length = xs.length := by rw [hV, vw_length]
  have iV : immE V = true := by rw [hV]; exact vw_imm _ _
  have kV : ∀ y ∈ V, y.length = 5 := by rw [hV]; exact vw_k (c := GFrame.c) (k := 5) fun _ => rfl
  have dV : ∀ y ∈ V, y.all dat = true := by rw [hV]; exact vw_dat
  rw [← hV]
  refine pcon_run (c := body Try.f30) fits Try.func30 (by kernel_rfl) (by kernel_rfl) (by rfl) (by kernel_rfl) fun g F hg hF => ?_
  have t0 : g .q .neq (g .ln V) (g .ln V) = false := by rw [goNeq hg]; simp
  cbv
  rw [t0]
  cbv
  refine loop_go hg fits (by kernel_rfl) V (fun x => lc (GFrame.c x)) xs hV hl (fun z (s : Unit) => [(0, .t (.c (.view V))), (1, .t (.c (.view V))), (5, .t (ai (z)))]) (fun z (s : Unit) => []) (fun z (s : Unit) => True) (fun (s : Unit) rest => ()) (()) () rfl trivial (Wk.weak (wkG [] ⟨rfl, rfl, rfl, trivial⟩ trivial (by decide) no_lt)) (fun z s B hz h0 hi he => ?_) (fun z s x rest B z0 z1 z2 hx hy h0 hi hc e1 hB => ?_)
  · cbv; rw [he]; cbv
    exact fin0b hF rfl
  · obtain ⟨f0, f1, f2, f3, f4⟩ := x
    cbv; rw [hc]; cbv; refine goX hg _ z0 hy rfl ?_; cbv
    refine goX hg _ z0 hy rfl ?_
    cbv
    refine goEFD hg f0 f1 f2 f3 f4 f0 f1 f2 f3 f4 ?_
    rw [decide_eq_true rfl]
    cbv
    rw [e1]
    exact hB (()) _ _ ⟨rfl, trivial⟩ (Wk.weak (wkG [] ⟨rfl, rfl, rfl, trivial⟩ trivial (by decide) no_lt))
theorem laws_big_a (bs : List Int) : PCon Try.prog 6 [.c (.view (vw bytC bs))] fun res rows => res = .t (abl (decide (1048576 < (bs.length : Int)))) ∧ rows = [] := by
  obtain ⟨V, hV⟩ : ∃ V, V = vw bytC bs := ⟨_, rfl⟩
  obtain ⟨q, hq⟩ : ∃ q, q = decide (1048576 < (bs.length : Int)) := ⟨_, rfl⟩
  have hVl : lenI V = (bs.length : Int) := by rw [hV, lenI_eq, vw_length]
  rw [← hV, ← hq]
  rw [← hVl] at hq
  refine pcon_run (c := body Try.f6) fits Try.func6 (by kernel_rfl) (by kernel_rfl) (by rfl) (by kernel_rfl) fun g F hg hF => ?_
  cbv
  exact fin0b hF (by rw [goGtr hg, goLn hg, hq])

end Go.Proofs.Ytacngamcjgkjkaa
