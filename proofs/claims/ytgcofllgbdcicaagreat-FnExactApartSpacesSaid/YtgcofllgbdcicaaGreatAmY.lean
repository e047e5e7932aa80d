/- A part of AM, a framework of the prover own: functions of any program as maps of data. -/
import Derived.Test.YtgcofllgbdcicaaGreatAmX
namespace Go.Proofs.YtgcofllgbdcicaaGreat.Am
open Go.RowKit
set_option linter.unusedVariables false
set_option linter.unusedSimpArgs false

/-! ### What the evaluator says holds: regions and code -/
section
variable {P : Program} {tab : List (TypeId × TI)} {n0 N : Nat} {T : Nat → AV} {h : EH} {n : Nat}
def Hof (K : AV → EH → Prop) (res : AV) (h' : AH) : Prop := ∃ eh, toH eh = h' ∧ K res eh
theorem pop_mono {h : AH} {o : Op} {K K' : AV → List AB → Prop} (hk : ∀ r s, K r s → K' r s) (hp : pop P T h n o K) : pop P T h n o K' := by
  have fa : ∀ (t : TypeId) (ps : List (Nat × Operand)) (cs : List AC) (K K' : List AC → Prop), (∀ cs, K cs → K' cs) → fillA P T h t ps cs K → fillA P T h t ps cs K' := by
    intro t ps
    induction ps with
    | nil => intro cs K K' hk hp; exact hk _ hp
    | cons p ps ih =>
      obtain ⟨i, x⟩ := p
      intro cs K K' hk hp
      unfold fillA at hp ⊢
      split at hp
      · exact ⟨hp.1, hp.2.1, hp.2.2.1, ih _ _ _ hk hp.2.2.2⟩
      · exact hp
  have fe : ∀ (k : Nat) (ps : List (Nat × Operand)) (cs : List (List AC)) (K K' : List (List AC) → Prop), (∀ cs, K cs → K' cs) → fillE T h k ps cs K → fillE T h k ps cs K' := by
    intro t ps
    induction ps with
    | nil => intro cs K K' hk hp; exact hk _ hp
    | cons p ps ih =>
      obtain ⟨i, x⟩ := p
      intro cs K K' hk hp
      unfold fillE at hp ⊢
      split at hp
      · exact ⟨hp.1, hp.2.1, hp.2.2.1, ih _ _ _ hk hp.2.2.2⟩
      · exact hp
  have fl : ∀ (q : Option Nat) (x : List AC) (off : Nat) (K K' : AV → Prop), (∀ v, K v → K' v) → ldA q x off K → ldA q x off K' := by
    intro q x off K K' hk hp
    unfold ldA at hp ⊢
    cases q with
    | none => obtain ⟨c, h1, h2⟩ := hp; exact ⟨c, h1, hk _ h2⟩
    | some k => exact ⟨hp.1, hk _ hp.2⟩
  cases o <;> simp only [pop] at hp ⊢ <;> first
    | exact hk _ _ hp
    | exact hp
    | skip
  case pick c a b => split at hp <;> first | exact ⟨fun h => hk _ _ (hp.1 h), fun h => hk _ _ (hp.2 h)⟩ | exact hp
  case alloc t => split at hp <;> first | exact ⟨hp.1, hp.2.1, hk _ _ hp.2.2⟩ | exact hp
  case box t x => split at hp <;> first | exact ⟨hp.1, hp.2.1, hk _ _ hp.2.2⟩ | exact hp
  case build t ps =>
    refine ⟨hp.1, ?_⟩
    obtain ⟨_, hp⟩ := hp
    split at hp
    · exact ⟨hp.1, fa _ _ _ _ _ (fun cs hc => hk _ _ hc) hp.2⟩
    · exact hp
  case buildSlice t len ps =>
    split at hp
    · obtain ⟨z, h1, h2, h3, h4, h5, h6⟩ := hp
      exact ⟨z, h1, h2, h3, h4, h5, fe _ _ _ _ _ (fun cs hc => hk _ _ hc) h6⟩
    · exact hp
  case load t x =>
    split at hp
    · split at hp
      · obtain ⟨y, h1, h2⟩ := hp; exact ⟨y, h1, fl _ _ _ _ _ (fun v hv => hk _ _ hv) h2⟩
      · exact hp
    · exact fl _ _ _ _ _ (fun v hv => hk _ _ hv) hp
    · exact hp
  case nilCheck x =>
    split at hp
    · split at hp
      · exact hk _ _ hp
      · exact hp
    · exact hk _ _ hp
    · exact hp
  case binOp op t x y u =>
    split at hp
    · obtain ⟨z, h1, h2⟩ := hp; exact ⟨z, h1, hk _ _ h2⟩
    · obtain ⟨h0, z, h1, h2⟩ := hp; exact ⟨h0, z, h1, hk _ _ h2⟩
    · obtain ⟨h0, h1, us, vs, r, h2, h3, h4, h5⟩ := hp
      refine ⟨h0, h1, us, vs, r, h2, h3, h4, ?_⟩
      cases op <;> first | exact h5 | exact hk _ _ h5
    · exact hp
  case unOp op t x => split at hp <;> first | (obtain ⟨z, h1, h2⟩ := hp; exact ⟨z, h1, hk _ _ h2⟩) | exact hp
  case convert s d x => split at hp <;> first | exact hk _ _ hp | exact hp
  case makeSlice t l c =>
    split at hp
    · obtain ⟨h1, h2, h3, h4, z, h5, h6, h7, h8, h9⟩ := hp
      exact ⟨h1, h2, h3, h4, z, h5, h6, h7, h8, hk _ _ h9⟩
    · exact hp
  case slice t x lo hi mx =>
    cases mx with
    | some _ => exact hp
    | none =>
      simp only at hp ⊢
      split at hp
      · split at hp
        · obtain ⟨a, b, h1, h2, h3, h4, h5⟩ := hp
          refine ⟨a, b, h1, h2, h3, h4, ?_⟩
          split at h5
          · exact hk _ _ h5
          · exact ⟨h5.1, hk _ _ h5.2⟩
          · split at h5
            · exact ⟨h5.1, hk _ _ h5.2⟩
            · exact h5
          · exact h5
        · exact hp
      · exact hp
  case fieldAddr t x i =>
    split at hp
    · split at hp
      · exact hk _ _ hp
      · exact hp
    · exact hk _ _ hp
    · exact hp
  case field t x i =>
    split at hp
    · split at hp
      · exact fl _ _ _ _ _ (fun v hv => hk _ _ hv) hp
      · exact hp
    · exact hp
  case indexAddr t x i =>
    split at hp
    · obtain ⟨h1, y, h2, h3, h4⟩ := hp; exact ⟨h1, y, h2, h3, hk _ _ h4⟩
    · split at hp
      · exact ⟨hp.1, hp.2.1, hp.2.2.1, hk _ _ hp.2.2.2⟩
      · exact hp
    · split at hp
      · exact ⟨hp.1, hp.2.1, hp.2.2.1, hk _ _ hp.2.2.2⟩
      · exact hp
    · exact hp
  case extract x i =>
    split at hp
    · obtain ⟨y, h1, h2⟩ := hp; exact ⟨y, h1, hk _ _ h2⟩
    · exact hp
  case call c =>
    split at hp
    · split at hp
      · obtain ⟨m, h1, h2⟩ := hp; exact ⟨m, h1, hk _ _ h2⟩
      · exact hp
    · split at hp
      · exact hk _ _ hp
      · exact hp
    · split at hp
      · exact hk _ _ hp
      · exact hp
    · exact hp
/-- Such an operation has one outcome. -/
theorem pop_det {h : AH} {o : Op} {K : AV → List AB → Prop} (hp : pop P T h n o K) : ∃ res rows, pop P T h n o (fun r s => r = res ∧ s = rows) ∧ K res rows := by
  have fa : ∀ (t : TypeId) (ps : List (Nat × Operand)) (cs : List AC) (K : List AC → Prop), fillA P T h t ps cs K → ∃ r, fillA P T h t ps cs (fun x => x = r) ∧ K r := by
    intro t ps
    induction ps with
    | nil => intro cs K hp; exact ⟨cs, rfl, hp⟩
    | cons p ps ih =>
      obtain ⟨i, x⟩ := p
      intro cs K hp
      unfold fillA at hp
      split at hp
      · obtain ⟨r, h1, h2⟩ := ih _ _ hp.2.2.2
        refine ⟨r, ?_, h2⟩
        rename_i y d u h3 h4
        unfold fillA
        rw [h3, h4]
        exact ⟨hp.1, hp.2.1, hp.2.2.1, h1⟩
      · exact hp.elim
  have fe : ∀ (k : Nat) (ps : List (Nat × Operand)) (cs : List (List AC)) (K : List (List AC) → Prop), fillE T h k ps cs K → ∃ r, fillE T h k ps cs (fun x => x = r) ∧ K r := by
    intro t ps
    induction ps with
    | nil => intro cs K hp; exact ⟨cs, rfl, hp⟩
    | cons p ps ih =>
      obtain ⟨i, x⟩ := p
      intro cs K hp
      unfold fillE at hp
      split at hp
      · obtain ⟨r, h1, h2⟩ := ih _ _ hp.2.2.2
        refine ⟨r, ?_, h2⟩
        rename_i y h3
        unfold fillE
        rw [h3]
        exact ⟨hp.1, hp.2.1, hp.2.2.1, h1⟩
      · exact hp.elim
  have fl : ∀ (q : Option Nat) (x : List AC) (off : Nat) (K : AV → Prop), ldA q x off K → ∃ r, ldA q x off (fun v => v = r) ∧ K r := by
    intro q x off K hp
    unfold ldA at hp ⊢
    cases q with
    | none => obtain ⟨c, h1, h2⟩ := hp; exact ⟨_, ⟨c, h1, rfl⟩, h2⟩
    | some k => exact ⟨_, ⟨hp.1, rfl⟩, hp.2⟩
  cases o <;> simp only [pop] at hp ⊢ <;> first
    | exact ⟨_, _, ⟨rfl, rfl⟩, hp⟩
    | exact hp.elim
    | skip
  case pick c a b =>
    split at hp
    · rename_i q hq
      cases q
      · exact ⟨_, _, ⟨fun h => (by cases h), fun _ => ⟨rfl, rfl⟩⟩, hp.2 rfl⟩
      · exact ⟨_, _, ⟨fun _ => ⟨rfl, rfl⟩, fun h => (by cases h)⟩, hp.1 rfl⟩
    · exact hp.elim
  case alloc t =>
    split at hp
    · exact ⟨_, _, ⟨hp.1, hp.2.1, rfl, rfl⟩, hp.2.2⟩
    · exact hp.elim
  case box t x =>
    split at hp
    · exact ⟨_, _, ⟨hp.1, hp.2.1, rfl, rfl⟩, hp.2.2⟩
    · exact hp.elim
  case build t ps =>
    obtain ⟨h0, hp⟩ := hp
    split at hp
    · rename_i z hz
      obtain ⟨r, h1, h2⟩ := fa _ _ _ _ hp.2
      refine ⟨_, _, ⟨h0, hp.1, ?_⟩, h2⟩
      exact (show ∀ cs K K', (∀ c, K c → K' c) → fillA P T h t ps.toList cs K → fillA P T h t ps.toList cs K' from by
        generalize ps.toList = l
        induction l with
        | nil => intro cs K K' hk hp; exact hk _ hp
        | cons p ps ih =>
          obtain ⟨i, x⟩ := p
          intro cs K K' hk hp
          unfold fillA at hp ⊢
          split at hp
          · exact ⟨hp.1, hp.2.1, hp.2.2.1, ih _ _ _ hk hp.2.2.2⟩
          · exact hp) _ _ _ (fun c hc => by subst hc; exact ⟨rfl, rfl⟩) h1
    · exact hp.elim
  case buildSlice t len ps =>
    split at hp
    · rename_i e k b he
      obtain ⟨z, h1, h2, h3, h4, h5, h6⟩ := hp
      obtain ⟨r, h7, h8⟩ := fe _ _ _ _ h6
      refine ⟨_, _, ⟨z, h1, h2, h3, h4, h5, ?_⟩, h8⟩
      exact (show ∀ cs K K', (∀ c, K c → K' c) → fillE T h k ps.toList cs K → fillE T h k ps.toList cs K' from by
        generalize ps.toList = l
        induction l with
        | nil => intro cs K K' hk hp; exact hk _ hp
        | cons p ps ih =>
          obtain ⟨i, x⟩ := p
          intro cs K K' hk hp
          unfold fillE at hp ⊢
          split at hp
          · exact ⟨hp.1, hp.2.1, hp.2.2.1, ih _ _ _ hk hp.2.2.2⟩
          · exact hp) _ _ _ (fun c hc => by subst hc; exact ⟨rfl, rfl⟩) h7
    · exact hp.elim
  case load t x =>
    have fm : ∀ (q : Option Nat) (x : List AC) (off : Nat) (r : AV), ldA q x off (fun v => v = r) → ldA q x off (fun v => v = r ∧ ([] : List AB) = []) := by
      intro q x off r hp
      unfold ldA at hp ⊢
      cases q with
      | none => obtain ⟨c, h1, h2⟩ := hp; exact ⟨c, h1, h2, rfl⟩
      | some k => exact ⟨hp.1, hp.2, rfl⟩
    split at hp
    · split at hp
      · rename_i h1 h2 _ ab h3
        obtain ⟨y, h4, h5⟩ := hp
        obtain ⟨r, h6, h7⟩ := fl _ _ _ _ h5
        exact ⟨r, [], ⟨y, h4, fm _ _ _ _ h6⟩, h7⟩
      · exact hp.elim
    · obtain ⟨r, h6, h7⟩ := fl _ _ _ _ hp
      exact ⟨r, [], fm _ _ _ _ h6, h7⟩
    · exact hp.elim
  case nilCheck x =>
    split at hp
    · split at hp
      · exact ⟨_, _, ⟨rfl, rfl⟩, hp⟩
      · exact hp.elim
    · exact ⟨_, _, ⟨rfl, rfl⟩, hp⟩
    · exact hp.elim
  case binOp op t x y u =>
    split at hp
    · obtain ⟨z, h1, h2⟩ := hp; exact ⟨_, _, ⟨z, h1, rfl, rfl⟩, h2⟩
    · obtain ⟨h0, z, h1, h2⟩ := hp; exact ⟨_, _, ⟨h0, z, h1, rfl, rfl⟩, h2⟩
    · obtain ⟨h0, h1, us, vs, r, h2, h3, h4, h5⟩ := hp
      cases op <;> first
        | exact h5.elim
        | exact ⟨_, _, ⟨h0, h1, us, vs, r, h2, h3, h4, rfl, rfl⟩, h5⟩
    · exact hp.elim
  case unOp op t x =>
    split at hp
    · obtain ⟨z, h1, h2⟩ := hp; exact ⟨_, _, ⟨z, h1, rfl, rfl⟩, h2⟩
    · exact hp.elim
  case convert s d x =>
    split at hp
    · exact ⟨_, _, ⟨rfl, rfl⟩, hp⟩
    · exact hp.elim
  case makeSlice t l c =>
    split at hp
    · obtain ⟨h1, h2, h3, h4, z, h5, h6, h7, h8, h9⟩ := hp
      exact ⟨_, _, ⟨h1, h2, h3, h4, z, h5, h6, h7, h8, rfl, rfl⟩, h9⟩
    · exact hp.elim
  case slice t x lo hi mx =>
    cases mx with
    | some _ => exact hp.elim
    | none =>
      simp only at hp ⊢
      split at hp
      · split at hp
        · rename_i y e k b hx he _ len hl
          obtain ⟨a, b, h1, h2, h3, h4, h5⟩ := hp
          cases y <;> first
            | exact h5.elim
            | exact ⟨_, _, ⟨a, b, h1, h2, h3, h4, rfl, rfl⟩, h5⟩
            | exact ⟨_, _, ⟨a, b, h1, h2, h3, h4, h5.1, rfl, rfl⟩, h5.2⟩
            | skip
          case own r =>
            simp only at h5
            split at h5
            · rename_i ab hr
              refine ⟨.t (.c (.sub r a (b - a))), [], ⟨a, b, h1, h2, h3, h4, ?_⟩, h5.2⟩
              show (match h[r]? with | some (.live ab) => ab.k = k ∧ AV.t (AT.c (AC.sub r a (b - a))) = AV.t (AT.c (AC.sub r a (b - a))) ∧ ([] : List AB) = [] | _ => False)
              rw [hr]
              exact ⟨h5.1, rfl, rfl⟩
            · exact h5.elim
        · exact hp.elim
      · exact hp.elim
  case fieldAddr t x i =>
    split at hp
    · split at hp
      · exact ⟨_, _, ⟨rfl, rfl⟩, hp⟩
      · exact hp.elim
    · exact ⟨_, _, ⟨rfl, rfl⟩, hp⟩
    · exact hp.elim
  case field t x i =>
    have fm : ∀ (q : Option Nat) (x : List AC) (off : Nat) (r : AV), ldA q x off (fun v => v = r) → ldA q x off (fun v => v = r ∧ ([] : List AB) = []) := by
      intro q x off r hp
      unfold ldA at hp ⊢
      cases q with
      | none => obtain ⟨c, h1, h2⟩ := hp; exact ⟨c, h1, h2, rfl⟩
      | some k => exact ⟨hp.1, hp.2, rfl⟩
    split at hp
    · split at hp
      · obtain ⟨r, h6, h7⟩ := fl _ _ _ _ hp
        exact ⟨r, [], fm _ _ _ _ h6, h7⟩
      · exact hp.elim
    · exact hp.elim
  case indexAddr t x i =>
    split at hp
    · obtain ⟨h1, y, h2, h3, h4⟩ := hp; exact ⟨_, _, ⟨h1, y, h2, h3, rfl, rfl⟩, h4⟩
    · split at hp
      · exact ⟨_, _, ⟨hp.1, hp.2.1, hp.2.2.1, rfl, rfl⟩, hp.2.2.2⟩
      · exact hp.elim
    · split at hp
      · exact ⟨_, _, ⟨hp.1, hp.2.1, hp.2.2.1, rfl, rfl⟩, hp.2.2.2⟩
      · exact hp.elim
    · exact hp.elim
  case extract x i =>
    split at hp
    · obtain ⟨y, h1, h2⟩ := hp; exact ⟨_, _, ⟨y, h1, rfl, rfl⟩, h2⟩
    · exact hp.elim
  case call c =>
    split at hp
    · split at hp
      · obtain ⟨m, h1, h2⟩ := hp; exact ⟨_, _, ⟨m, h1, rfl, rfl⟩, h2⟩
      · exact hp.elim
    · split at hp
      · exact ⟨_, _, ⟨rfl, rfl⟩, hp⟩
      · exact hp.elim
    · split at hp
      · exact ⟨_, _, ⟨rfl, rfl⟩, hp⟩
      · exact hp.elim
    · exact hp.elim
end
end Go.Proofs.YtgcofllgbdcicaaGreat.Am
