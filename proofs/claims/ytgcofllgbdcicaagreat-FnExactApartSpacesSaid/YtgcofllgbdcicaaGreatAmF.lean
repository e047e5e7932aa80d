/- A part of AM, a framework of the prover own: functions of any program as maps of data. -/
import Derived.Test.YtgcofllgbdcicaaGreatAmE
namespace Go.Proofs.YtgcofllgbdcicaaGreat.Am
open Go.RowKit
set_option linter.unusedVariables false
set_option linter.unusedSimpArgs false
section
variable {P : Program} {F : Nat → Prop} {w : World} {m : AM} {g h : AH} {n : Nat} {T : Nat → AV} {a : Act} {K : AV → List AB → Prop}

def loOk (T : Nat → AV) (lo : Option Operand) (i : Nat) : Prop := match lo with | none => i = 0 | some l => match ev T l with | .t (.c (.imm (.int _ z))) => 0 ≤ z ∧ i = z.toNat | _ => False
def hiOk (T : Nat → AV) (len : Nat) (hi : Option Operand) (i : Nat) : Prop := match hi with | none => i = len | some l => match ev T l with | .t (.c (.imm (.int _ z))) => 0 ≤ z ∧ i = z.toNat | _ => False
theorem run_bounds (hT : RTm F w m h T a) {lo hi : Option Operand} {len cap i j : Nat} (hl : loOk T lo i) (hh : hiOk T len hi j) (h1 : i ≤ j) (h2 : j ≤ len) (h3 : len ≤ cap) :
    (Instr.sliceBounds true len cap (lo.map a.eval) (hi.map a.eval) none).run P w = .ok (i, j, cap) w := by
  have eh : ∀ l, hi = some l → ∃ kd z, ev T l = .t (.c (.imm (.int kd z))) ∧ 0 ≤ z ∧ j = z.toNat := by
    intro l hl'
    subst hl'
    simp only [hiOk] at hh
    split at hh
    · rename_i kd z he; exact ⟨kd, z, he, hh⟩
    · exact hh.elim
  have el : ∀ l, lo = some l → ∃ kd z, ev T l = .t (.c (.imm (.int kd z))) ∧ 0 ≤ z ∧ i = z.toNat := by
    intro l hl'
    subst hl'
    simp only [loOk] at hl
    split at hl
    · rename_i kd z he; exact ⟨kd, z, he, hl⟩
    · exact hl.elim
  cases hi with
  | none =>
    have hj : j = len := hh
    subst hj
    cases lo with
    | none => have hi0 : i = 0 := hl; subst hi0; simp [Instr.sliceBounds]
    | some l =>
      obtain ⟨kd, z, he, h0, rfl⟩ := el l rfl
      have r1 := run_sliceBound (P := P) w kd z j .sliceB h0 (by omega)
      simp [Instr.sliceBounds, ev_imm hT he, r1]
  | some u =>
    obtain ⟨ku, zu, hu, hu0, rfl⟩ := eh u rfl
    have r2 := run_sliceBound (P := P) w ku zu cap .sliceAcap hu0 (by omega)
    cases lo with
    | none => have hi0 : i = 0 := hl; subst hi0; simp [Instr.sliceBounds, ev_imm hT hu, r2]
    | some l =>
      obtain ⟨kd, z, he, h0, rfl⟩ := el l rfl
      have r1 := run_sliceBound (P := P) w kd z zu.toNat .sliceB h0 (by omega)
      simp [Instr.sliceBounds, ev_imm hT he, ev_imm hT hu, r1, r2]
theorem do_slice (hC : Cp g h) (hT : RTm F w m h T a) (hH : RH F w m h) {t : TypeId} {x : Operand} {lo hi : Option Operand} (hp : pop P T g n (.slice t x lo hi none) K) :
    Does P F w m h n (do pure (Next.value (← Instr.sliceAt t (a.eval x) (lo.map a.eval) (hi.map a.eval) none))) K := by
  simp only [pop] at hp
  split at hp
  · rename_i y e k by_ he hE
    split at hp
    · rename_i len hlen
      obtain ⟨i, j, hl, hh, hij, hjl, hp⟩ := hp
      have hl' : loOk T lo i := hl
      have hh' : hiOk T len hi j := hh
      obtain ⟨hu, inf, hi', rfl, _⟩ := elem_spec hE
      have hrun : ∀ (p : Option Addr) (cap : Nat), len ≤ cap → (Instr.sliceAt t (.slice p len cap) (lo.map a.eval) (hi.map a.eval) none).run P w = .ok (sliced p i j cap inf.size) w := by
        intro p cap hc
        have hb := run_bounds (P := P) (w := w) hT hl' hh' hij hjl hc
        simp [Instr.sliceAt, run_underlying hu, Instr.slice, hb, sizeOf, typeInfo, hi', sliced]
      have hv := ev_t hT he
      cases y with
      | imm u =>
        simp only at hp
        have hu' : u = .slice none 0 0 ∧ len = 0 := by
          unfold lenA at hlen
          split at hlen
          · rename_i heq; cases heq; simp at hlen; exact ⟨rfl, hlen.symm⟩
          all_goals (first | (rename_i heq; cases heq; done) | cases hlen)
        obtain ⟨rfl, rfl⟩ := hu'
        have hxv : a.eval x = .slice none 0 0 := hv
        have hi0 : i = 0 ∧ j = 0 := by omega
        obtain ⟨rfl, rfl⟩ := hi0
        refine does0 hp (run_v (by rw [hxv]; exact hrun none 0 (Nat.le_refl _))) ?_
        show RP F w (.view []) _
        unfold RP
        exact ⟨none, 0, by simp [sliced], by simp, by simp, .inl rfl⟩
      | view xs =>
        obtain ⟨hk, hK⟩ := hp
        have hlen' : len = xs.length := by simpa [lenA] using hlen.symm
        have hvv : RP F w (.view xs) (a.eval x) := hv
        unfold RP at hvv
        obtain ⟨p, cap, hxv, h1, h2, h3⟩ := hvv
        subst hlen'
        refine does0 hK (run_v (by rw [hxv]; exact hrun p cap h1)) ?_
        show RP F w (.view _) _
        unfold RP
        have hln : ((xs.take j).drop i).length = j - i := by simp; omega
        refine ⟨if cap = i then p else p.map (fun q => q.add (i * inf.size)), cap - i, by rw [hln]; rfl, by rw [hln]; omega, by omega, ?_⟩
        by_cases hz : i = j
        · subst hz; left; simp
        · rcases h3 with rfl | ⟨b, o, k', rfl, hF, hE'⟩
          · simp at hjl; omega
          · right
            have hkk : k' = inf.size := by
              cases xs with
              | nil => simp at hjl; omega
              | cons x0 xs => unfold RPE at hE'; rw [← hE'.1]; exact hk x0 (by simp)
            subst hkk
            exact ⟨b, o + i * inf.size, inf.size, by rw [if_neg (by omega)]; simp [addr_at], hF, RPE.drop i (RPE.take j hE')⟩
      | own r =>
        simp only at hp
        split at hp
        · rename_i ab hr
          obtain ⟨hk, hK⟩ := hp
          have hlen' : len = ab.es.length := by simp [lenA, hr] at hlen; exact hlen.symm
          rcases hv with hg | ⟨ab', h1, ⟨b, cap, h2, h3⟩ | ⟨h2, h3, h4⟩⟩
          · exact (hC.gone hr hg).elim
          · obtain rfl := hC.live hr h1
            obtain ⟨_, hF, hB⟩ := hH.get h1 h1 h2
            obtain ⟨cur, _, _, hc1, hc2, _⟩ := hB
            subst hlen'
            refine does0 hK (run_v (by rw [h3]; exact hrun _ cap hc1)) (.inr ⟨ab', cap - i, _, h1, by omega, by omega, by omega, rfl, fun hz => ⟨b, cap, h2, ?_⟩⟩)
            rw [if_neg (by omega), hk]; simp [addr_at]
          · obtain rfl := hC.live hr h1
            subst hlen'
            refine does0 hK (run_v (by rw [h4, h3] at *; exact hrun none 0 (by omega))) (.inr ⟨ab', 0 - i, _, h1, by omega, by omega, by omega, rfl, fun hz => by omega⟩)
        · exact hp.elim
      | sub r l nn => exact hp.elim
      | ptr r i off => exact hp.elim
      | eptr cs off => exact hp.elim
      | dead => exact hp.elim
    · exact hp.elim
  · exact hp.elim
theorem run_len {t e : TypeId} {k by_ : Nat} (hE : elemOfT P t = some (e, k, by_)) (ty : TypeId) (p : Option Addr) (len cap : Nat) : (Builtin.len_ #[t] ty #[.slice p len cap]).run P w = .ok (.int .i64 len) w := by
  obtain ⟨hu, _⟩ := elem_spec hE
  simp [Builtin.len_, run_underlying hu, goInt]
theorem lenA_val (hC : Cp g h) (hH : RH F w m h) {y : AC} {v : Value} {len : Nat} (hv : RC F w m h y v) (hl : lenA g y = some len) : ∃ p cap, v = .slice p len cap := by
  cases y with
  | imm u =>
    have hu : v = u := hv
    subst hu
    unfold lenA at hl
    split at hl
    · rename_i heq; cases heq; simp at hl; subst hl; exact ⟨_, _, rfl⟩
    all_goals (first | (rename_i heq; cases heq; done) | cases hl)
  | view xs =>
    have hvv : RP F w (.view xs) v := hv
    unfold RP at hvv
    obtain ⟨p, cap, rfl, _⟩ := hvv
    simp [lenA] at hl
    subst hl
    exact ⟨_, _, rfl⟩
  | own r =>
    simp only [lenA] at hl
    split at hl
    · rename_i ab hr
      rcases hv with hg | ⟨ab', h1, ⟨b, cap, h2, rfl⟩ | ⟨h2, h3, rfl⟩⟩
      · exact (hC.gone hr hg).elim
      · obtain rfl := hC.live hr h1; simp at hl; subst hl; exact ⟨_, _, rfl⟩
      · obtain rfl := hC.live hr h1; simp at hl; subst hl; exact ⟨_, _, by rw [h3]⟩
    · cases hl
  | sub r lo nn =>
    simp only [lenA] at hl
    split at hl
    · rename_i ab hr
      rcases hv with hg | ⟨ab', c, p, h1, h3, h8, h9, rfl, h11⟩
      · exact (hC.gone hr hg).elim
      · simp at hl; subst hl; exact ⟨_, _, rfl⟩
    · cases hl
  | ptr r i off => cases hl
  | eptr cs off => cases hl
  | dead => cases hl
/-- The value that these cells are, of this type. -/
def valOf (P : Program) (t : TypeId) (xs : List Value) : Value :=
  match P.underlying t with
  | some (.struct _) => .agg xs.toArray
  | _ => xs.headD undef
def shapeV (P : Program) (t : TypeId) (zs : List Value) : Prop :=
  (P.underlying t = some .bool ∧ ∃ a, zs = [.bool a]) ∨ (∃ kd, P.underlying t = some (.int kd) ∧ ∃ k a, zs = [.int k a]) ∨ ∃ fs, P.underlying t = some (.struct fs)
theorem shape_of {t : TypeId} {D : Nat} {xs ys : List Value} {r : Bool} (hr : eqT P D t xs ys = some r) : shapeV P t xs ∧ shapeV P t ys := by
  cases D with
  | zero => cases hr
  | succ D =>
    unfold eqT at hr
    split at hr
    · rename_i hu
      split at hr
      · exact ⟨.inl ⟨hu, _, rfl⟩, .inl ⟨hu, _, rfl⟩⟩
      · cases hr
    · rename_i kd hu
      split at hr
      · exact ⟨.inr (.inl ⟨kd, hu, _, _, rfl⟩), .inr (.inl ⟨kd, hu, _, _, rfl⟩)⟩
      · cases hr
    · rename_i fs hu
      exact ⟨.inr (.inr ⟨fs, hu⟩), .inr (.inr ⟨fs, hu⟩)⟩
    · cases hr
theorem part_val {t : TypeId} {k d : Nat} {xs : List Value} (hk : (P.info? t).map (·.size) = some k) (hE : shapeV P t ((xs.drop d).take k)) : (part t xs.toArray d).run P w = .ok (valOf P t ((xs.drop d).take k)) w := by
  simp only [Option.map_eq_some_iff] at hk
  obtain ⟨i, hi, rfl⟩ := hk
  have key : ∀ v, (xs.drop d).take i.size = [v] → xs[d]? = some v := by
    intro v hv
    have : ((xs.drop d).take i.size)[0]? = some v := by rw [hv]; rfl
    rw [List.getElem?_take] at this
    split at this
    · simpa using this
    · cases this
  rcases hE with ⟨hu, a, ha⟩ | ⟨kd, hu, k, a, ha⟩ | ⟨fs, hu⟩
  · simp only [part, Sem.run_bind, isAgg, run_underlying hu, Result.andThen_ok, valOf, hu, ha, List.headD_cons]
    simp [key _ ha]
  · simp only [part, Sem.run_bind, isAgg, run_underlying hu, Result.andThen_ok, valOf, hu, ha, List.headD_cons]
    simp [key _ ha]
  · simp only [part, Sem.run_bind, isAgg, run_underlying hu, Result.andThen_ok, Sem.run_pure, if_true, sizeOf, typeInfo, valOf, hu]
    simp [hi, List.extract_toArray, List.extract]
theorem eqT_run : ∀ (d : Nat) (t : TypeId) (xs ys : List Value) (r : Bool) (D : Nat), eqT P d t xs ys = some r → d ≤ D → (Op.equalIn D t (valOf P t xs) (valOf P t ys)).run P w = .ok r w
  | 0, t, xs, ys, r, D, h, _ => by cases h
  | d + 1, t, xs, ys, r, D, h, hD => by
    obtain ⟨D, rfl⟩ : ∃ E, D = E + 1 := ⟨D - 1, by omega⟩
    have h' := h
    unfold eqT at h
    split at h
    · rename_i hu
      split at h
      · cases h
        simp only [valOf, hu, List.headD_cons]
        exact run_equalIn_bool' w D t _ _ hu
      · cases h
    · rename_i kd hu
      split at h
      · split at h
        · rename_i hk
          subst hk
          cases h
          simp only [valOf, hu, List.headD_cons]
          exact run_equalIn_int w D t _ _ _ _ hu
        · cases h
      · cases h
    · rename_i fs hu
      split at h
      · cases h
      · rename_i hst
        have hfo : P.fieldsOf t = fs := by unfold Program.fieldsOf; rw [hu]
        simp only [valOf, hu]
        rw [run_equalIn_agg w D t _ _ (by rw [hfo]; exact hu) (by simpa using hst), hfo]
        have key : ∀ (l : List Field) (q : Bool), eqFl P (eqT P d) xs ys l = some q → (Op.eqFields D xs.toArray ys.toArray l).run P w = .ok q w := by
          intro l
          induction l with
          | nil => intro q hq; cases hq; rfl
          | cons f l ih =>
            intro q hq
            unfold eqFl at hq
            split at hq
            · cases hq
            · rename_i hnm
              split at hq
              · rename_i k hk
                split at hq
                · rename_i a b ha hb
                  cases hq
                  have p1 := part_val (w := w) (d := f.offset) (xs := xs) hk (shape_of ha).1
                  have p2 := part_val (w := w) (d := f.offset) (xs := ys) hk (shape_of ha).2
                  have p3 := eqT_run d f.type _ _ a D ha (by omega)
                  simp only [Op.eqFields, ne_eq, hnm, not_false_eq_true, if_true, Sem.run_bind, p1, p2, p3, Result.andThen_ok]
                  cases a
                  · simp
                  · simp [ih b hb]
                · cases hq
              · cases hq
        exact key fs.toList r h
    · cases h
end
end Go.Proofs.YtgcofllgbdcicaaGreat.Am
