/- A part of AM, a framework of the prover own: functions of any program as maps of data. -/
import Derived.Test.YtgcofllgbdcicaaGreatAmB
namespace Go.Proofs.YtgcofllgbdcicaaGreat.Am
open Go.RowKit
set_option linter.unusedVariables false
set_option linter.unusedSimpArgs false
section
variable {P : Program} {F : Nat → Prop} {w : World} {m : AM} {h : AH} {n : Nat}

theorem addr_at (b o j : Nat) : (⟨b, o, none⟩ : Addr).add j = ⟨b, o + j, none⟩ := by
  unfold Addr.add; split <;> simp_all
theorem zeroOf_spec {t : TypeId} {z : List Value} (hz : zeroOf P t = some z) : ∃ i v, P.info? t = some i ∧ i.zero = some v ∧ z = v.cells.toList := by
  unfold zeroOf at hz
  simp only [Option.map_eq_some_iff, Option.bind_eq_some_iff] at hz
  obtain ⟨v, ⟨i, hi, hv⟩, rfl⟩ := hz
  exact ⟨i, v, hi, hv, rfl⟩
theorem size_spec {t : TypeId} {k : Nat} (hk : sizeOfT P t = some k) : ∃ i, P.info? t = some i ∧ i.size = k := by
  unfold sizeOfT at hk
  simpa using hk
theorem elem_spec {t e : TypeId} {k by_ : Nat} (he : elemOfT P t = some (e, k, by_)) : P.underlying t = some (.slice e) ∧ ∃ i, P.info? e = some i ∧ i.size = k ∧ i.bytes = by_ := by
  unfold elemOfT at he
  split at he
  · rename_i e' hu
    simp only [Option.map_eq_some_iff, Prod.mk.injEq] at he
    obtain ⟨i, hi, rfl, rfl, rfl⟩ := he
    exact ⟨hu, i, hi, rfl, rfl⟩
  · cases he
theorem field_spec {t : TypeId} {i d : Nat} {u : TypeId} (hf : fieldOf P t i = some (d, u)) : ∃ fs f j, P.underlying t = some (.struct fs) ∧ fs[i]? = some f ∧ P.info? f.type = some j ∧ j.size ≠ 0 ∧ f.offset = d ∧ f.type = u := by
  unfold fieldOf at hf
  split at hf
  · rename_i fs hu
    simp only [Option.bind_eq_some_iff] at hf
    obtain ⟨f, hfi, h2⟩ := hf
    split at h2
    · rename_i j hj
      split at h2
      · cases h2
      · simp only [Option.some.injEq, Prod.mk.injEq] at h2
        exact ⟨fs, f, j, hu, hfi, hj, by assumption, h2.1, h2.2⟩
    · cases h2
  · cases hf
theorem agg_spec {t : TypeId} {q : Option Nat} (ha : aggOf P t = some q) : match q with
    | none => (isAgg t).run P w = .ok false w
    | some k => (isAgg t).run P w = .ok true w ∧ (sizeOf t).run P w = .ok k w := by
  unfold aggOf at ha
  split at ha
  · rename_i fs i hu hi
    cases ha
    exact ⟨by simp [isAgg, run_underlying hu], by simp [sizeOf, typeInfo, hi]⟩
  · rename_i a b i hu hi
    cases ha
    exact ⟨by simp [isAgg, run_underlying hu], by simp [sizeOf, typeInfo, hi]⟩
  · rename_i d i hs hA hu hi
    cases ha
    simp only [isAgg, Sem.run_bind, run_underlying hu, Result.andThen_ok]
    rfl
  · cases ha

/-- Cells that lie in a row, read as a part of it. -/
theorem load_part {t : TypeId} {q : Option Nat} (ha : aggOf P t = some q) {b o : Nat} {x : List AC} {K : AV → Prop} {off : Nat}
    (hx : ∀ (j : Nat) (c : AC), x[j]? = some c → ∃ u, w.cell? ⟨b, o + j, none⟩ = some u ∧ one u = true ∧ RC F w m h c u) (hl : ldA q x off K) :
    ∃ res v, K res ∧ (loadVar t ⟨b, o + off, none⟩).run P w = .ok v w ∧ RV F w m h res v := by
  have hs := agg_spec (w := w) ha
  cases q with
  | none =>
    obtain ⟨c, hc, hK⟩ := hl
    obtain ⟨u, hu, ho, hr⟩ := hx off c hc
    refine ⟨_, u, hK, ?_, hr⟩
    simp only at hs
    simp [loadVar, hs, hu]
  | some k =>
    obtain ⟨hle, hK⟩ := hl
    obtain ⟨h1, h2⟩ := hs
    obtain ⟨f, hf⟩ : ∃ f : Nat → Value, ∀ j c, ((x.drop off).take k)[j]? = some c → w.cell? ⟨b, o + off + j, none⟩ = some (f j) ∧ one (f j) = true ∧ RC F w m h c (f j) := by
      refine ⟨fun j => (w.cell? ⟨b, o + off + j, none⟩).getD undef, fun j c hj => ?_⟩
      rw [List.getElem?_take] at hj
      split at hj
      · rw [List.getElem?_drop] at hj
        obtain ⟨u, hu, ho, hr⟩ := hx _ c hj
        rw [← Nat.add_assoc] at hu
        simp only [hu, Option.getD_some]
        exact ⟨trivial, ho, hr⟩
      · cases hj
    have hlen : ((x.drop off).take k).length = k := by simp; omega
    have hrun := run_loadCells (P := P) w ⟨b, o + off, none⟩ k f (fun j hj => by
      rw [addr_at]
      exact (hf j _ (List.getElem?_eq_getElem (by omega))).1)
    refine ⟨_, _, hK, ?_, (List.range k).map f, rfl, by simp [hlen], fun j c hj => ?_⟩
    · simp only [loadVar, Sem.run_bind, h1, Result.andThen_ok, if_true, h2, hrun, Sem.run_pure]
    · have hjk : j < k := by have := (List.getElem?_eq_some_iff.1 hj).1; omega
      have := hf j c hj
      exact ⟨f j, by simp [hjk], this.2.1, this.2.2⟩
theorem run_v {s : Sem Value} {v : Value} {w' : World} (hs : s.run P w = .ok v w') : (do pure (Next.value (← s)) : Sem Next).run P w = .ok (.value v) w' := by
  simp [Sem.run_bind, hs]
theorem RB.cell {b cap : Nat} {ab : AB} (hb : RB F w m h b cap ab) {i : Nat} {x : List AC} (hx : ab.es[i]? = some x) :
    ∀ (j : Nat) (c : AC), x[j]? = some c → ∃ u, w.cell? ⟨b, i * ab.k + j, none⟩ = some u ∧ one u = true ∧ RC F w m h c u := fun j c hj => by
  obtain ⟨cur, h1, h2, h3, h4, h5⟩ := hb
  obtain ⟨u, hu, ho, hr⟩ := (h5 i x hx).2 j c hj
  exact ⟨u, by simp [World.cell?, h1, hu], ho, hr⟩
theorem RPL.cells {b o : Nat} {cs : List AC} (hr : RPL F w b o cs) : ∀ (j : Nat) (c : AC), cs[j]? = some c → ∃ u, w.cell? ⟨b, o + j, none⟩ = some u ∧ one u = true ∧ RC F w m h c u := fun j c hj => by
  obtain ⟨u, hu, ho, hr⟩ := RPL.get hr hj
  refine ⟨u, hu, ho, ?_⟩
  cases c <;> first | exact hr | (unfold RP at hr; exact hr.elim) | (unfold RP at hr; exact hr) | trivial
end
end Go.Proofs.YtgcofllgbdcicaaGreat.Am
