/- A part of AM, a framework of the prover own: functions of any program as maps of data. -/
import Derived.Test.YtgcofllgbdcicaaGreatAmN
namespace Go.Proofs.YtgcofllgbdcicaaGreat.Am
open Go.RowKit
set_option linter.unusedVariables false
set_option linter.unusedSimpArgs false
section
variable {P : Program} {F : Nat → Prop} {w0 w w' : World} {m0 m m' : AM} {h0 g h h' : AH} {N n : Nat} {T T' : Nat → AV} {a : Act}

/-- An operation that writes nothing, or a call that is told nothing of the own heap. -/
def popP (P : Program) (T : Nat → AV) (h : AH) (n : Nat) (o : Op) (K : AV → List AB → Prop) : Prop :=
  match o with
  | .call c => match c.callee with
    | .value (.func f) => ∃ args : List AT, c.args.toList.map (ev T) = args.map .t ∧ pcall P f h n args K
    | _ => pop P T h n (.call c) K
  | o => pop P T h n o K
theorem popP_sound (o : Oper) (hC : Cp g h) (hT : RTm F w m h T a) (hH : RH F w m h) {K : AV → List AB → Prop} (hp : popP P T g n o.op K) : Yl P o a w fun v w' => ∃ res rows, K res rows ∧ OutG F w m h n res rows v w' := by
  unfold popP at hp
  split at hp
  · rename_i c hop
    split at hp
    · rename_i f hc
      obtain ⟨args, ha, hp⟩ := hp
      exact pcall_sound hC hH hT hop hc ha hp
    · rw [← hop] at hp
      obtain ⟨res, rows, hK, v, w', hr, ho⟩ := pop_sound o hC hT hH hp
      exact Yl.value hr ⟨res, rows, hK, outG_of ho hH⟩
  · obtain ⟨res, rows, hK, v, w', hr, ho⟩ := pop_sound o hC hT hH hp
    exact Yl.value hr ⟨res, rows, hK, outG_of ho hH⟩
theorem fillA_congr {t : TypeId} : ∀ (ps : List (Nat × Operand)) (cs : List AC) (K : List AC → Prop), (∀ x ∈ ps.map (·.2), ev T x = ev T' x) → fillA P T h t ps cs K → fillA P T' h t ps cs K
  | [], cs, K, _, hf => hf
  | (i, x) :: ps, cs, K, he, hf => by
    unfold fillA at hf ⊢
    rw [← he x (by simp)]
    split at hf
    · exact ⟨hf.1, hf.2.1, hf.2.2.1, fillA_congr ps _ K (fun y hy => he y (by simp at hy ⊢; exact .inr hy)) hf.2.2.2⟩
    · exact hf
theorem fillE_congr {k : Nat} : ∀ (ps : List (Nat × Operand)) (es : List (List AC)) (K : List (List AC) → Prop), (∀ x ∈ ps.map (·.2), ev T x = ev T' x) → fillE T h k ps es K → fillE T' h k ps es K
  | [], es, K, _, hf => hf
  | (i, x) :: ps, es, K, he, hf => by
    unfold fillE at hf ⊢
    rw [← he x (by simp)]
    split at hf
    · exact ⟨hf.1, hf.2.1, hf.2.2.1, fillE_congr ps _ K (fun y hy => he y (by simp at hy ⊢; exact .inr hy)) hf.2.2.2⟩
    · exact hf
theorem pop_congr {o : Op} {K : AV → List AB → Prop} (he : ∀ x ∈ o.operands, ev T x = ev T' x) (hp : pop P T h n o K) : pop P T' h n o K := by
  cases o <;> simp only [Op.operands] at he <;> first
    | exact hp
    | (rename_i x; simp only [pop] at hp ⊢; rw [← he x (by simp)]; exact hp)
    | skip
  case pick c x y => simp only [pop] at hp ⊢; rw [← he c (by simp), ← he x (by simp), ← he y (by simp)]; exact hp
  case build t ps =>
    simp only [pop] at hp ⊢
    refine ⟨hp.1, ?_⟩
    obtain ⟨_, hp⟩ := hp
    split at hp
    · exact ⟨hp.1, fillA_congr _ _ _ (fun x hx => he x (by simpa using hx)) hp.2⟩
    · exact hp
  case buildSlice t l ps =>
    simp only [pop] at hp ⊢
    split at hp
    · obtain ⟨z, h1, h2, h3, h4, h5, hp⟩ := hp
      exact ⟨z, h1, h2, h3, h4, h5, fillE_congr _ _ _ (fun x hx => he x (by simpa using hx)) hp⟩
    · exact hp
  case binOp op t x y t' => simp only [pop] at hp ⊢; rw [← he x (by simp), ← he y (by simp)]; exact hp
  case makeSlice t x y => simp only [pop] at hp ⊢; rw [← he x (by simp), ← he y (by simp)]; exact hp
  case slice t x lo hi mx =>
    cases mx with
    | some _ => exact hp
    | none =>
      have e1 := he x (by simp)
      have e2 : ∀ l, lo = some l → ev T l = ev T' l := fun l hl => he l (by subst hl; simp)
      have e3 : ∀ l, hi = some l → ev T l = ev T' l := fun l hl => he l (by subst hl; simp)
      simp only [pop] at hp ⊢
      rw [← e1]
      cases lo <;> cases hi <;> simp only at hp ⊢
      · exact hp
      · rename_i l; rw [← e3 l rfl]; exact hp
      · rename_i l; rw [← e2 l rfl]; exact hp
      · rename_i l k; rw [← e2 l rfl, ← e3 k rfl]; exact hp
  case fieldAddr t x i => simp only [pop] at hp ⊢; rw [← he x (by simp)]; exact hp
  case field t x i => simp only [pop] at hp ⊢; rw [← he x (by simp)]; exact hp
  case indexAddr t x i => simp only [pop] at hp ⊢; rw [← he x (by simp), ← he i (by simp)]; exact hp
  case extract x i => simp only [pop] at hp ⊢; rw [← he x (by simp)]; exact hp
  case call c =>
    have e1 : ∀ x ∈ c.args.toList, ev T x = ev T' x := fun x hx => he x (by simp [Call.operands]; right; simpa using hx)
    simp only [pop] at hp ⊢
    split at hp
    · rename_i x t h1 h2 h3
      rw [← e1 x (by rw [h2]; simp)]; exact hp
    · rename_i x y h1 h2
      rw [← e1 x (by rw [h2]; simp), ← e1 y (by rw [h2]; simp)]; exact hp
    · rename_i x y h1 h2
      rw [← e1 x (by rw [h2]; simp), ← e1 y (by rw [h2]; simp)]; exact hp
    · exact hp.elim
theorem popP_congr {o : Op} {K : AV → List AB → Prop} (he : ∀ x ∈ o.operands, ev T x = ev T' x) (hp : popP P T h n o K) : popP P T' h n o K := by
  unfold popP at hp ⊢
  split at hp
  · rename_i c
    split at hp
    · rename_i f hc
      obtain ⟨args, ha, hp⟩ := hp
      refine ⟨args, ?_, hp⟩
      rw [← ha]
      exact List.map_congr_left (fun x hx => (he x (by simp [Op.operands, Call.operands]; right; simpa using hx)).symm)
    · exact pop_congr he hp
  · exact pop_congr he hp
end
end Go.Proofs.YtgcofllgbdcicaaGreat.Am
