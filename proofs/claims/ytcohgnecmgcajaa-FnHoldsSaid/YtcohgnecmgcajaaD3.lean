/- Overlaps of frames, equal lists of frames, what came in as bytes. -/
import Derived.Test.YtcohgnecmgcajaaD2
import Derived.Test.YtcohgnecmgcajaaOn
namespace Go.Proofs.Ytcohgnecmgcajaa
open Go.ChangeShapes Go.WideShapes Go.ChangeAt Go.RowKit Am
set_option linter.unusedVariables false
set_option linter.unusedSimpArgs false
set_option maxRecDepth 100000

/-- A slice of bytes that came in. -/
theorem open_bytes {H : Type} {enc : TypeId × Value → H} {P : Program} {w : World} {r : Reach} {b0 : Nat} {held : Bool} {T te : TypeId} {v : Value} {d : DataW H} {p : List MemPlace}
    (hl : laidOutB P = true) (hu : P.underlying te = some (.int .u8)) (hlt : te < P.types.size) (ht : P.underlying T = some (.slice te))
    (hft : flatT P 5 te = some [te]) (hC : P.cellsOf te = 1) (h : DataW.Trod enc P w 0 (fun _ => true) held T v d p) (hv : Value.okWide P w r b0 T v) :
    ∃ xs : List Int, RepS 1 bytC w v xs := by
  obtain ⟨a0, n0, c0, rfl⟩ := okWide_slice ht hv
  obtain ⟨fuel, hf⟩ := h
  rcases Go.Deep.open_slice ht hf with ⟨hcs, _⟩ | ⟨a, len, cap, m, n, D, Pl, hcs, hba, hlc, hm, hmm, hx, hel⟩
  · simp [Value.cells] at hcs
    obtain ⟨rfl, rfl, rfl⟩ := hcs
    exact ⟨[], none, 0, rfl, by simp, by simp, by simp⟩
  · simp [Value.cells] at hcs
    obtain ⟨rfl, rfl, rfl⟩ := hcs
    have key : ∀ i, i < n0 → ∃ x : Int, a.spot = none ∧ w.cell? ⟨a.block, a.off + i, none⟩ = some (.int .u8 x) := by
      intro i hi'
      obtain ⟨cs', hc, htr⟩ := hel i (by rw [hmm]; simp; omega)
      rw [hC] at hc
      obtain ⟨_, hcl, hat⟩ := World.cells?_some hc
      have h1 := flat_of_trod hl 5 te _ n _ _ hlt hft htr
      obtain ⟨c, f', y, hci, hy⟩ := h1.2 0 te rfl
      obtain ⟨k, h2, _, _⟩ := DataW.trod_int hu hy
      simp only [List.cons.injEq, and_true] at h2
      subst h2
      have hcell := hat 0 (by omega)
      rw [hci] at hcell
      have hsp : a.spot = none := by
        obtain ⟨cs0, hc0', htr0⟩ := hel 0 (by rw [hmm]; simp; omega)
        rw [hC] at hc0'
        obtain ⟨_, hl0, hat0⟩ := World.cells?_some hc0'
        have h1' := flat_of_trod hl 5 te _ n _ _ hlt hft htr0
        obtain ⟨c', f'', y', hci', _⟩ := h1'.2 0 te rfl
        have h4 := hat0 0 (by omega)
        rw [hci'] at h4
        have h5 := spot_of_cell h4
        simpa [Addr.add] using h5
      refine ⟨k, hsp, ?_⟩
      have := addr_two a hsp (i * 1) 0
      simp only [Nat.mul_one, Nat.add_zero] at this
      rw [← this]
      simpa using hcell
    obtain ⟨f, hf'⟩ : ∃ f : Nat → Int, ∀ i, i < n0 → a.spot = none ∧ w.cell? ⟨a.block, a.off + i, none⟩ = some (.int .u8 (f i)) := Go.Deep.choose_lt key
    refine ⟨(List.range n0).map f, some a, c0, by simp, by simpa using hlc, hm, fun h0 => ?_⟩
    have h0' : 0 < n0 := by simpa using h0
    obtain ⟨hsp, _⟩ := hf' 0 h0'
    refine ⟨a.block, a.off, by obtain ⟨b, o, s⟩ := a; simp only at hsp; subst hsp; rfl, fun i hi' j hj' => ?_⟩
    have hi2 : i < n0 := by simpa using hi'
    obtain ⟨_, h3⟩ := hf' i hi2
    have hj0 : j = 0 := by omega
    subst hj0
    exact ⟨.int .u8 (f i), by simp, by simpa using h3⟩
section
variable {P : Program} {n0 N : Nat} {g : Gd}
theorem goCvU (hg : g = G0 P n0 N) (a : Int) : g .cv .u64 a = IntKind.u64.wrap a := by subst hg; rfl
theorem goSubU (hg : g = G0 P n0 N) (a b : Int) : g .w .sub .u64 a b = IntKind.u64.wrap (a - b) := by subst hg; rfl
theorem goNgU (hg : g = G0 P n0 N) (a : Int) : g .ng .u64 a = IntKind.u64.wrap (0 - a) := by subst hg; rfl
end
/-- Two frames lie over one another. -/
def ovl (a b : GFrame) : Bool := (decide (a.x < b.x + b.wide) && decide (b.x < a.x + a.wide)) && decide (a.y < b.y + b.high) && decide (b.y < a.y + a.high)
theorem laws_big_a (bs : List Int) : PCon Try.prog 4 [.c (.view (vw bytC bs))] fun res rows => res = .t (abl (decide (1048576 < (bs.length : Int)))) ∧ rows = [] := by
  obtain ⟨V, hV⟩ : ∃ V, V = vw bytC bs := ⟨_, rfl⟩
  obtain ⟨q, hq⟩ : ∃ q, q = decide (1048576 < (bs.length : Int)) := ⟨_, rfl⟩
  have hVl : lenI V = (bs.length : Int) := by rw [hV, lenI_eq, vw_length]
  rw [← hV, ← hq]
  rw [← hVl] at hq
  refine pcon_run (c := body Try.f4) fits Try.func4 (by kernel_rfl) (by kernel_rfl) (by rfl) (by kernel_rfl) fun g F hg hF => ?_
  cbv
  exact fin0b hF (by rw [goGtr hg, goLn hg, hq])

end Go.Proofs.Ytcohgnecmgcajaa
