/- A part of AM, a framework of the prover own: functions of any program as maps of data. -/
import Derived.Test.YtgcofllgbdcicaaGreatAmG
namespace Go.Proofs.YtgcofllgbdcicaaGreat.Am
open Go.RowKit
set_option linter.unusedVariables false
set_option linter.unusedSimpArgs false
section
variable {P : Program} {F : Nat → Prop} {w : World} {m : AM} {g h : AH} {n : Nat} {T : Nat → AV} {a : Act} {K : AV → List AB → Prop}

theorem exec_builtin (o : Oper) (b : Builtin) (c : Call) (ho : o.op = .call c) (hb : c.callee = .builtin b) (ρ : Operand → Value) :
    execOp ρ o = builtin b c.argTypes o.type (c.args.map fun | .const _ => true | _ => false) (c.args.map ρ) := by
  simp only [execOp, ho, resolve, hb]
  rfl
theorem do_call (hC : Cp g h) (hT : RTm F w m h T a) (hH : RH F w m h) {o : Oper} {c : Call} (ho : o.op = .call c) (hp : pop P T g n (.call c) K) : Does P F w m h n (execOp a.eval o) K := by
  simp only [pop] at hp
  split at hp
  · rename_i x t hcal harg hty
    rw [exec_builtin o _ c ho hcal]
    have e1 : c.args.map a.eval = #[a.eval x] := by rw [← Array.toArray_toList (xs := c.args), harg]; simp
    have e2 : c.argTypes = #[t] := by rw [← Array.toArray_toList (xs := c.argTypes), hty]
    split at hp
    · rename_i y et he hE
      obtain ⟨len, hl, hK⟩ := hp
      obtain ⟨p, cap, hv⟩ := lenA_val hC hH (ev_t hT he) hl
      obtain ⟨e, k, by_⟩ := et
      refine does0 hK ?_ (v := .int .i64 len) rfl
      rw [e1, e2]
      exact run_v (by rw [hv]; exact run_len hE _ p len cap)
    · exact hp.elim
  · rename_i x y hcal harg
    rw [exec_builtin o _ c ho hcal]
    have e1 : c.args.map a.eval = #[a.eval x, a.eval y] := by rw [← Array.toArray_toList (xs := c.args), harg]; simp
    split at hp
    · rename_i p q hx hy
      refine does0 hp ?_ (v := .int .i64 (if q < p then q else p)) rfl
      rw [e1, ev_imm hT hx, ev_imm hT hy]
      exact run_v (by simp [Builtin.min_, Builtin.min2])
    · exact hp.elim
  · rename_i x y hcal harg
    rw [exec_builtin o _ c ho hcal]
    have e1 : c.args.map a.eval = #[a.eval x, a.eval y] := by rw [← Array.toArray_toList (xs := c.args), harg]; simp
    split at hp
    · rename_i p q hx hy
      refine does0 hp ?_ (v := .int .i64 (if p < q then q else p)) rfl
      rw [e1, ev_imm hT hx, ev_imm hT hy]
      exact run_v (by simp [Builtin.max_, Builtin.max2])
    · exact hp.elim
  · exact hp.elim
theorem do_binOp (hC : Cp g h) (hT : RTm F w m h T a) {op : BinOp} {t t' : TypeId} {x y : Operand} (hp : pop P T g n (.binOp op t x y t') K) :
    Does P F w m h n (do pure (Next.value (← (do eqGuard op t x y (a.eval x) (a.eval y); binOp op t (a.eval x) (a.eval y))))) K := by
  simp only [pop] at hp
  split at hp
  · rename_i k p k' q hx hy
    obtain ⟨z, hz, hK⟩ := hp
    refine does0 hK (run_v ?_) (v := z) rfl
    rw [ev_imm hT hx, ev_imm hT hy]
    exact bo_run hz t x y
  · rename_i p q hx hy
    obtain ⟨ht, z, hz, hK⟩ := hp
    refine does0 hK (run_v ?_) (v := z) rfl
    rw [ev_imm hT hx, ev_imm hT hy]
    exact bob_run hz t ht x y
  · rename_i xs ys hx hy
    obtain ⟨hg, ⟨fs, hu⟩, us, vs, r, rfl, rfl, hE, hK⟩ := hp
    obtain ⟨us', h1, h2, h3⟩ := ev_t hT hx
    obtain ⟨vs', h4, h5, h6⟩ := ev_t hT hy
    have e1 : us' = us := by
      apply List.ext_getElem?
      intro j
      by_cases hj : j < us.length
      · obtain ⟨u, hu, _, hr⟩ := h3 j (.imm us[j]) (by simp [hj])
        rw [hu, List.getElem?_eq_getElem hj]; exact congrArg some hr
      · simp only [List.length_map] at h2; rw [List.getElem?_eq_none (by omega), List.getElem?_eq_none (by omega)]
    have e2 : vs' = vs := by
      apply List.ext_getElem?
      intro j
      by_cases hj : j < vs.length
      · obtain ⟨u, hu, _, hr⟩ := h6 j (.imm vs[j]) (by simp [hj])
        rw [hu, List.getElem?_eq_getElem hj]; exact congrArg some hr
      · simp only [List.length_map] at h5; rw [List.getElem?_eq_none (by omega), List.getElem?_eq_none (by omega)]
    subst e1
    subst e2
    have hrun := eqT_run (P := P) (w := w) 8 t us' vs' r 10000 hE (by omega)
    simp only [valOf, hu] at hrun
    have hgd := run_eqGuard_agg (P := P) w op t x y us'.toArray vs'.toArray hg
    rw [h1, h4]
    cases op <;> first
      | exact hp.elim
      | exact hK.elim
      | (refine does0 hK (run_v ?_) (v := .bool r) rfl
         simp only [Sem.run_bind, hgd, Result.andThen_ok, run_eql_struct, hrun])
      | (refine does0 hK (run_v ?_) (v := .bool (!r)) rfl
         simp only [Sem.run_bind, hgd, Result.andThen_ok, run_neq_struct, hrun])
  · exact hp.elim
/-- Each operation that writes nothing does what 'pop' says. -/
theorem pop_sound (o : Oper) (hC : Cp g h) (hT : RTm F w m h T a) (hH : RH F w m h) (hp : pop P T g n o.op K) : Does P F w m h n (execOp a.eval o) K := by
  obtain ⟨dst, op, type, pos, after, guard⟩ := o
  cases op
  case move x => exact does0 hp rfl (ev_sound hT x)
  case assign x => exact does0 hp rfl (ev_sound hT x)
  case pick c x y =>
    simp only [pop] at hp
    split at hp
    · rename_i q he
      cases q with
      | true => exact does0 (hp.1 rfl) (by simp [execOp, ev_imm hT he, asBool]) (ev_sound hT x)
      | false => exact does0 (hp.2 rfl) (by simp [execOp, ev_imm hT he, asBool]) (ev_sound hT y)
    · exact hp.elim
  case alloc t =>
    simp only [pop] at hp
    split at hp
    · rename_i z k hz hk; exact do_alloc hH hz hk hp.1 hp.2.1 hp.2.2
    · exact hp.elim
  case box t x =>
    simp only [pop] at hp
    split at hp
    · rename_i y k he hk; exact do_box hC hH (ev_t hT he) hk hp.1 hp.2.1 hp.2.2
    · exact hp.elim
  case build t ps => exact do_build hC hT hp
  case buildSlice t l ps => exact do_buildSlice hC hT hH hp
  case load t x => exact do_load hC hT hH hp
  case binOp op t x y t' => exact do_binOp hC hT hp
  case unOp op t x =>
    simp only [pop] at hp
    split at hp
    · rename_i u he
      obtain ⟨z, hz, hK⟩ := hp
      refine does0 hK (run_v ?_) (v := z) rfl
      rw [ev_imm hT he]; exact uo_run hz
    · exact hp.elim
  case convert s d x => exact do_convert hC hT hp
  case makeSlice t x y => exact do_makeSlice hC hT hH hp
  case slice t x lo hi mx =>
    cases mx with
    | none => exact do_slice hC hT hH hp
    | some z => simp only [pop] at hp
  case fieldAddr t x i => exact do_fieldAddr hC hT hp
  case field t x i => exact do_field hC hT hp
  case indexAddr t x i => exact do_indexAddr hC hT hH hp
  case extract x i => exact do_extract hC hT hp
  case call c => exact do_call hC hT hH rfl hp
  case nilCheck x =>
    simp only [pop] at hp
    split at hp
    · rename_i r i off he
      split at hp
      · rename_i ab hr
        have hv := ev_t hT he
        rcases hv with hg | ⟨ab', b, cap, h1, h2, h3⟩
        · exact (hC.gone hr hg).elim
        · refine does0 hp (v := a.eval x) ?_ (by have := ev_sound hT x; rwa [he] at this)
          simp [execOp, h3]
      · exact hp.elim
    · rename_i cs off he
      have hv := ev_t hT he
      obtain ⟨b, o, h1, h2, h3⟩ := hv
      refine does0 hp (v := a.eval x) ?_ (by have := ev_sound hT x; rwa [he] at this)
      simp [execOp, h1]
    · exact hp.elim
  all_goals (first | exact False.elim hp | (simp only [pop] at hp))
end
end Go.Proofs.YtgcofllgbdcicaaGreat.Am
