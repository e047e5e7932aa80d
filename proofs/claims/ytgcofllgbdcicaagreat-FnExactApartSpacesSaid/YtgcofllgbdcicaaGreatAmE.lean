/- A part of AM, a framework of the prover own: functions of any program as maps of data. -/
import Derived.Test.YtgcofllgbdcicaaGreatAmD
namespace Go.Proofs.YtgcofllgbdcicaaGreat.Am
open Go.RowKit
set_option linter.unusedVariables false
set_option linter.unusedSimpArgs false
section
variable {P : Program} {F : Nat → Prop} {w : World} {m : AM} {g h : AH} {n : Nat} {T : Nat → AV} {a : Act} {K : AV → List AB → Prop}

theorem run_fieldAt {t : TypeId} {i d : Nat} {u : TypeId} (hf : fieldOf P t i = some (d, u)) (b o : Nat) : (Instr.fieldAt t (.pointer (some ⟨b, o, none⟩)) i).run P w = .ok (.pointer (some ⟨b, o + d, none⟩)) w := by
  obtain ⟨fs, f, j, hu, hfi, hj, hne, rfl, rfl⟩ := field_spec hf
  simp [Instr.fieldAt, run_underlying hu, hfi, Instr.sureAddr, fieldPlace, sizeOf, typeInfo, hj, hne, addr_at]
theorem run_indexAt {t e : TypeId} {k by_ : Nat} (he : elemOfT P t = some (e, k, by_)) (b o len cap : Nat) (kd : IntKind) (z : Int) (h0 : 0 ≤ z) (h1 : z < len) :
    (Instr.indexAt t (.slice (some ⟨b, o, none⟩) len cap) (.int kd z)).run P w = .ok (.pointer (some ⟨b, o + z.toNat * k, none⟩)) w := by
  obtain ⟨hu, i, hi, rfl, _⟩ := elem_spec he
  simp [Instr.indexAt, asIntOf, run_underlying hu, h0, h1, sizeOf, typeInfo, hi, addr_at]
/-- A part of an aggregate's cells. -/
theorem run_part {t : TypeId} {q : Option Nat} (ha : aggOf P t = some q) {vs : List Value} {xs : List AC} {K : AV → Prop} {off : Nat} (hl : vs.length = xs.length)
    (hx : ∀ (j : Nat) (c : AC), xs[j]? = some c → ∃ u, vs[j]? = some u ∧ one u = true ∧ RC F w m h c u) (hd : ldA q xs off K) :
    ∃ res v, K res ∧ (part t vs.toArray off).run P w = .ok v w ∧ RV F w m h res v := by
  have hs := agg_spec (w := w) ha
  cases q with
  | none =>
    obtain ⟨c, hc, hK⟩ := hd
    obtain ⟨u, hu, ho, hr⟩ := hx off c hc
    simp only at hs
    exact ⟨_, u, hK, by simp [part, hs, hu], hr⟩
  | some k =>
    obtain ⟨hle, hK⟩ := hd
    obtain ⟨h1, h2⟩ := hs
    refine ⟨_, .agg (vs.toArray.extract off (off + k)), hK, by simp only [part, Sem.run_bind, h1, Result.andThen_ok, if_true, h2]; rfl, (vs.drop off).take k, by rw [List.extract_toArray]; simp [List.extract], by simp [hl], fun j c hj => ?_⟩
    rw [List.getElem?_take] at hj ⊢
    split at hj
    · rw [List.getElem?_drop] at hj ⊢
      rw [if_pos (by assumption)]
      exact hx _ c hj
    · cases hj

theorem do_load (hC : Cp g h) (hT : RTm F w m h T a) (hH : RH F w m h) {t : TypeId} {x : Operand} (hp : pop P T g n (.load t x) K) : Does P F w m h n (do pure (Next.value (← Instr.loadAt t (a.eval x)))) K := by
  simp only [pop] at hp
  split at hp
  · rename_i r i off q he hq
    split at hp
    · rename_i ab hr
      obtain ⟨y, hy, hl⟩ := hp
      rcases ev_t hT he with hg | ⟨ab', b, cap, h1, h2, h3⟩
      · exact (hC.gone hr hg).elim
      · obtain rfl := hC.live hr h1
        obtain ⟨_, hF, hB⟩ := hH.get h1 h1 h2
        exact doesL (b := b) (o := i * ab'.k) hl hq (hB.cell hy) (by simp [Instr.loadAt, h3, Instr.sureAddr])
    · exact hp.elim
  · rename_i cs off q he hq
    obtain ⟨b, o, h1, h2, h3⟩ := ev_t hT he
    exact doesL (b := b) (o := o) hp hq h3.cells (by simp [Instr.loadAt, h1, Instr.sureAddr])
  · exact hp.elim
theorem do_fieldAddr (hC : Cp g h) (hT : RTm F w m h T a) {t : TypeId} {x : Operand} {i : Nat} (hp : pop P T g n (.fieldAddr t x i) K) : Does P F w m h n (do pure (Next.value (← Instr.fieldAt t (a.eval x) i))) K := by
  simp only [pop] at hp
  split at hp
  · rename_i r j off d u he hf
    split at hp
    · rename_i ab hr
      rcases ev_t hT he with hg | ⟨ab', b, cap, h1, h2, h3⟩
      · exact (hC.gone hr hg).elim
      · exact does0 hp (run_v (by rw [h3]; exact run_fieldAt hf _ _)) (.inr ⟨ab', b, cap, h1, h2, by rw [Nat.add_assoc]⟩)
    · exact hp.elim
  · rename_i cs off d u he hf
    obtain ⟨b, o, h1, h2, h3⟩ := ev_t hT he
    exact does0 hp (run_v (by rw [h1]; exact run_fieldAt hf _ _)) ⟨b, o, by rw [Nat.add_assoc], h2, h3⟩
  · exact hp.elim
theorem do_field (hC : Cp g h) (hT : RTm F w m h T a) {t : TypeId} {x : Operand} {i : Nat} (hp : pop P T g n (.field t x i) K) : Does P F w m h n (do pure (Next.value (← Instr.field t (a.eval x) i))) K := by
  simp only [pop] at hp
  split at hp
  · rename_i xs d u he hf
    split at hp
    · rename_i q hq
      obtain ⟨vs, h1, h2, h3⟩ := ev_t hT he
      obtain ⟨fs, f, j, hu, hfi, hj, hne, rfl, rfl⟩ := field_spec hf
      obtain ⟨res, v, hK, hr, hv⟩ := run_part hq h2 h3 hp
      exact does0 hK (run_v (by rw [h1]; simp [Instr.field, run_underlying hu, hfi, asAgg, hr])) hv
    · exact hp.elim
  · exact hp.elim
theorem do_indexAddr (hC : Cp g h) (hT : RTm F w m h T a) (hH : RH F w m h) {t : TypeId} {x i : Operand} (hp : pop P T g n (.indexAddr t x i) K) : Does P F w m h n (do pure (Next.value (← Instr.indexAt t (a.eval x) (a.eval i)))) K := by
  simp only [pop] at hp
  split at hp
  · rename_i xs kd z e k by_ he hi hE
    obtain ⟨h0, y, hy, hyl, hK⟩ := hp
    have hv : RP F w (.view xs) (a.eval x) := ev_t hT he
    unfold RP at hv
    obtain ⟨p, cap, hxv, h1, h2, h3⟩ := hv
    have hlt : z.toNat < xs.length := (List.getElem?_eq_some_iff.1 hy).1
    rcases h3 with rfl | ⟨b, o, k', rfl, hF, hE'⟩
    · simp at hlt
    · obtain ⟨hk', hL⟩ := RPE.get hE' hy
      rw [hyl] at hk'
      subst hk'
      exact does0 hK (run_v (by rw [hxv, ev_imm hT hi]; exact run_indexAt hE b o _ cap kd z h0 (by omega))) ⟨b, o + z.toNat * k, rfl, hF, hL⟩
  · rename_i r kd z e k by_ he hi hE
    split at hp
    · rename_i ab hr
      obtain ⟨hk, h0, hlt, hK⟩ := hp
      rcases ev_t hT he with hg | ⟨ab', h1, ⟨b, cap, h2, h3⟩ | ⟨h2, h3, _⟩⟩
      · exact (hC.gone hr hg).elim
      · obtain rfl := hC.live hr h1
        obtain ⟨_, hF, hB⟩ := hH.get h1 h1 h2
        refine does0 hK (run_v (by rw [h3, ev_imm hT hi]; exact run_indexAt hE b 0 _ cap kd z h0 (by omega))) (.inr ⟨ab', b, cap, h1, h2, by rw [hk]; simp⟩)
      · obtain rfl := hC.live hr h1; omega
    · exact hp.elim
  · rename_i r lo nn kd z e k by_ he hi hE
    split at hp
    · rename_i ab hr
      obtain ⟨hk, h0, hlt, hK⟩ := hp
      rcases ev_t hT he with hg | ⟨ab', c, p, h1, h3, h8, h9, h10, h11⟩
      · exact (hC.gone hr hg).elim
      · obtain ⟨b, cap, h2, hp'⟩ := h11 (by omega)
        obtain rfl := hC.live hr h1
        obtain ⟨_, hF, hB⟩ := hH.get h1 h1 h2
        subst hp'
        refine does0 hK (run_v (by rw [h10, ev_imm hT hi]; exact run_indexAt hE b _ _ c kd z h0 (by omega))) (.inr ⟨ab', b, cap, h1, h2, by rw [hk, Nat.add_mul]; simp⟩)
    · exact hp.elim
  · exact hp.elim
theorem do_extract (hC : Cp g h) (hT : RTm F w m h T a) {x : Operand} {i : Nat} (hp : pop P T g n (.extract x i) K) : Does P F w m h n (do pure (Next.value (← Instr.extract (a.eval x) i))) K := by
  simp only [pop] at hp
  split at hp
  · rename_i xs he
    obtain ⟨y, hy, hK⟩ := hp
    have h0 := ev_sound hT x
    rw [he] at h0
    obtain ⟨vs, h1, h2, h3⟩ := h0
    obtain ⟨u, hu, hr⟩ := h3 i y hy
    exact does0 hK (run_v (by rw [h1]; simp [Instr.extract, hu])) hr
  · exact hp.elim
theorem do_convert (hC : Cp g h) (hT : RTm F w m h T a) {s d : TypeId} {x : Operand} (hp : pop P T g n (.convert s d x) K) : Does P F w m h n (do pure (Next.value (← convert s d (a.eval x)))) K := by
  simp only [pop] at hp
  split at hp
  · rename_i k0 z ks kd he hs hd
    refine does0 hp (run_v (v := .int kd (kd.wrap z)) ?_) rfl
    rw [ev_imm hT he]
    simp [convert, run_underlying hs, run_underlying hd, Conv.intToInt]
  · exact hp.elim
theorem do_makeSlice (hC : Cp g h) (hT : RTm F w m h T a) (hH : RH F w m h) {t : TypeId} {x y : Operand} (hp : pop P T g n (.makeSlice t x y) K) : Does P F w m h n (do pure (Next.value (← Instr.makeSlice t (a.eval x) (a.eval y)))) K := by
  simp only [pop] at hp
  split at hp
  · rename_i l c e k by_ hl hc hE
    obtain ⟨rfl, h0, hb, hm, z, hz, hzl, hk, h1, hK⟩ := hp
    obtain ⟨hu, i, hi, rfl, rfl⟩ := elem_spec hE
    obtain ⟨i', v, hi', hv, rfl⟩ := zeroOf_spec hz
    rw [hi] at hi'
    cases hi'
    have hrun := run_make (P := P) w t e i v hu hi hv .i64 .i64 l l h0 (Int.le_refl _) (by omega) (by omega)
    refine ⟨_, _, hK, _, _, run_v (by rw [ev_imm hT hl, ev_imm hT hc]; exact hrun), out1 hH (cap := l.toNat) (by simp [madeCells]) (by simp) (by simp [maxLen]; omega) (fun j x hx => ?_) (fun m' h' h2 h3 => .inr ⟨_, h2, .inl ⟨_, _, h3, by simp⟩⟩)⟩
    simp only [List.getElem?_replicate] at hx
    split at hx
    · rename_i hj
      cases hx
      refine ⟨by simpa using hzl, fun d c hd => ?_⟩
      simp only [List.getElem?_map, Option.map_eq_some_iff] at hd
      obtain ⟨u, hu', rfl⟩ := hd
      have hdl : d < i.size := by rw [← hzl]; exact (List.getElem?_eq_some_iff.1 hu').1
      refine ⟨u, ?_, all_one h1 hu', rfl⟩
      have hlt : j * i.size + d < l.toNat * i.size := by
        have : (j + 1) * i.size ≤ l.toNat * i.size := Nat.mul_le_mul_right _ hj
        rw [Nat.add_mul] at this; omega
      have hmod : (j * i.size + d) % v.cells.size = d := by
        have : v.cells.size = i.size := by simpa using hzl
        rw [this, Nat.add_comm, Nat.add_mul_mod_self_right, Nat.mod_eq_of_lt hdl]
      simp only [madeCells]
      rw [Array.getElem?_map, Array.getElem?_range]
      simp only [hlt, if_true, Option.map_some, hmod]
      have hu2 : v.cells[d]? = some u := by simpa using hu'
      rw [getElem!_def, hu2]
    · cases hx
  · exact hp.elim
end
end Go.Proofs.YtgcofllgbdcicaaGreat.Am
