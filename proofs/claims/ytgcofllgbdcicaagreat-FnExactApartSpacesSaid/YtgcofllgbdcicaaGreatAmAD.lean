/- A part of AM, a framework of the prover own: functions of any program as maps of data. -/
import Derived.Test.YtgcofllgbdcicaaGreatAmAC
namespace Go.Proofs.YtgcofllgbdcicaaGreat.Am
open Go.RowKit
set_option linter.unusedVariables false
set_option linter.unusedSimpArgs false

/-! ### A contract over a small heap, taken at some places of a greater one -/
def AC.mv (s : Nat → Nat) : AC → AC
  | .own r => .own (s r)
  | .sub r lo k => .sub (s r) lo k
  | .ptr r i o => .ptr (s r) i o
  | c => c
def AT.mv (s : Nat → Nat) : AT → AT
  | .c x => .c (x.mv s)
  | .agg xs => .agg (xs.map (AC.mv s))
def AV.mv (s : Nat → Nat) : AV → AV
  | .t x => .t (x.mv s)
  | .tup xs => .tup (xs.map (AT.mv s))
def AB.mv (s : Nat → Nat) (ab : AB) : AB := ⟨ab.ty, ab.k, ab.es.map (·.map (AC.mv s))⟩
def AE.mv (s : Nat → Nat) : AE → AE
  | .live ab => .live (ab.mv s)
  | .gone => .gone
  | .hole => .gone
/-- Where the small heap's places lie: the first ones at σ, new ones at the great heap's end. -/
def plc (σ : List Nat) (n : Nat) (i : Nat) : Nat := match nth σ i with | some r => r | none => n + (i - lenL σ)
/-- The great heap with the small one put back. -/
def backH0 (σ : List Nat) (H h' : AH) : AH := (List.range (H.length + (h'.length - σ.length))).map fun r =>
  if r < H.length then (match σ.idxOf? r with | some i => ((h'[i]?).getD .gone).mv (plc σ H.length) | none => (H[r]?).getD .gone)
  else ((h'[σ.length + (r - H.length)]?).getD .gone).mv (plc σ H.length)
section
variable {F : Nat → Prop} {w : World} {m m' : AM} {h h' : AH} {s : Nat → Nat}
theorem RC.mv (hp : ∀ (j : Nat), (h[j]? = some .gone → h'[s j]? = some .gone) ∧ ∀ (ab : AB), h[j]? = some (.live ab) → ∃ ab', h'[s j]? = some (.live ab') ∧ ab'.k = ab.k ∧ ab'.es.length = ab.es.length ∧ m'[s j]? = m[j]?) {c : AC} {v : Value}
    (hc : RC F w m h c v) : RC F w m' h' (c.mv s) v := by
  cases c with
  | imm u => exact hc
  | view xs => exact hc
  | own r =>
    rcases hc with hg | ⟨ab, h1, h2⟩
    · exact .inl ((hp r).1 hg)
    · obtain ⟨ab', h3, h4, h5, h6⟩ := (hp r).2 ab h1
      exact .inr ⟨ab', h3, by rw [h6, h5]; exact h2⟩
  | sub r lo k =>
    rcases hc with hg | ⟨ab, c, p, h1, h2, h7, h8, h9, h10⟩
    · exact .inl ((hp r).1 hg)
    · obtain ⟨ab', h3, h4, h5, h6⟩ := (hp r).2 ab h1
      exact .inr ⟨ab', c, p, h3, by rw [h5]; exact h2, h7, h8, h9, by rw [h6, h4]; exact h10⟩
  | ptr r i o =>
    rcases hc with hg | ⟨ab, b, cap, h1, h2, h7⟩
    · exact .inl ((hp r).1 hg)
    · obtain ⟨ab', h3, h4, h5, h6⟩ := (hp r).2 ab h1
      exact .inr ⟨ab', b, cap, h3, by rw [h6]; exact h2, by rw [h4]; exact h7⟩
  | eptr cs o => exact hc
  | dead => trivial
theorem RT.mv (hp : ∀ (j : Nat), (h[j]? = some .gone → h'[s j]? = some .gone) ∧ ∀ (ab : AB), h[j]? = some (.live ab) → ∃ ab', h'[s j]? = some (.live ab') ∧ ab'.k = ab.k ∧ ab'.es.length = ab.es.length ∧ m'[s j]? = m[j]?) {c : AT} {v : Value}
    (hc : RT F w m h c v) : RT F w m' h' (c.mv s) v := by
  cases c with
  | c x => exact RC.mv hp hc
  | agg xs =>
    obtain ⟨vs, h1, h2, h3⟩ := hc
    refine ⟨vs, h1, by simpa using h2, fun j x hj => ?_⟩
    simp only [List.getElem?_map, Option.map_eq_some_iff] at hj
    obtain ⟨y, hy, rfl⟩ := hj
    obtain ⟨u, hu, ho, hr⟩ := h3 j y hy
    exact ⟨u, hu, ho, RC.mv hp hr⟩
theorem RV.mv (hp : ∀ (j : Nat), (h[j]? = some .gone → h'[s j]? = some .gone) ∧ ∀ (ab : AB), h[j]? = some (.live ab) → ∃ ab', h'[s j]? = some (.live ab') ∧ ab'.k = ab.k ∧ ab'.es.length = ab.es.length ∧ m'[s j]? = m[j]?) {c : AV} {v : Value}
    (hc : RV F w m h c v) : RV F w m' h' (c.mv s) v := by
  cases c with
  | t x => exact RT.mv hp hc
  | tup xs =>
    obtain ⟨vs, h1, h2, h3⟩ := hc
    refine ⟨vs, h1, by simpa using h2, fun j x hj => ?_⟩
    simp only [List.getElem?_map, Option.map_eq_some_iff] at hj
    obtain ⟨y, hy, rfl⟩ := hj
    obtain ⟨u, hu, hr⟩ := h3 j y hy
    exact ⟨u, hu, RT.mv hp hr⟩
end
section
variable {F : Nat → Prop} {w w' : World} {M : AM} {H : AH}
/-- What the great heap keeps when some of its places went through a step of their own. -/
theorem frame {F1 : Nat → Prop} {m : AM} {h : AH} {m' : AM} {h' H' : AH} {M' : AM} {s : Nat → Nat} (hH : RH F w M H) (hG : Grow F F1 w m h) (hst : Step F1 w m h w' m' h')
    (hsm : ∀ i e, h[i]? = some e → ∃ ab AB, e = .live ab ∧ H[s i]? = some (.live AB) ∧ AB.k = ab.k ∧ AB.es.length = ab.es.length ∧ m[i]? = M[s i]?)
    (hinj : ∀ i j, s i = s j → i = j)
    (hin : ∀ i, i < h.length → s i < H.length) (hnew : ∀ i, h.length ≤ i → s i = H.length + (i - h.length))
    (hl : H'.length = H.length + (h'.length - h.length)) (hlM : M'.length = H'.length) (hle : h.length ≤ h'.length)
    (hat : ∀ i, i < h'.length → H'[s i]? = (h'[i]?).map (AE.mv s)) (hatM : ∀ i, i < h'.length → h'[i]? ≠ some .gone → M'[s i]? = m'[i]?)
    (hout : ∀ r, r < H.length → (∀ i, i < h.length → s i ≠ r) → H'[r]? = H[r]? ∧ M'[r]? = M[r]?)
    (hnh : ∀ i : Nat, h'[i]? ≠ some AE.hole) : Grow F F1 w M H ∧ Step F1 w M H w' M' H' ∧ (∀ res v, RV F1 w' m' h' res v → RV F1 w' M' H' (res.mv s) v) := by
  have hmv : ∀ (j : Nat), (h'[j]? = some .gone → H'[s j]? = some .gone) ∧ ∀ (ab : AB), h'[j]? = some (.live ab) → ∃ ab', H'[s j]? = some (.live ab') ∧ ab'.k = ab.k ∧ ab'.es.length = ab.es.length ∧ M'[s j]? = m'[j]? := fun j => by
    refine ⟨fun hg => ?_, fun ab hab => ?_⟩
    · have hj := (List.getElem?_eq_some_iff.1 hg).1
      rw [hat j hj, hg]; rfl
    · have hj := (List.getElem?_eq_some_iff.1 hab).1
      exact ⟨ab.mv s, by rw [hat j hj, hab]; rfl, rfl, by simp [AB.mv], hatM j hj (by rw [hab]; simp)⟩
  -- where a live place of the new great heap comes from
  have hcase : ∀ r ab, H'[r]? = some (.live ab) → (∃ i ab0, r = s i ∧ i < h'.length ∧ h'[i]? = some (.live ab0) ∧ ab = ab0.mv s ∧ M'[r]? = m'[i]?) ∨ (r < H.length ∧ (∀ i, i < h.length → s i ≠ r) ∧ H[r]? = some (.live ab) ∧ M'[r]? = M[r]?) := fun r ab hr => by
    have hrl := (List.getElem?_eq_some_iff.1 hr).1
    have fromS : ∀ i, i < h'.length → r = s i → ∃ i ab0, r = s i ∧ i < h'.length ∧ h'[i]? = some (.live ab0) ∧ ab = ab0.mv s ∧ M'[r]? = m'[i]? := fun i hi hri => by
      have h1 := hat i hi
      rw [← hri, hr, List.getElem?_eq_getElem hi] at h1
      simp only [Option.map_some, Option.some.injEq] at h1
      have h2 := List.getElem?_eq_getElem hi
      cases he : h'[i] with
      | live ab0 =>
        rw [he] at h1 h2
        simp only [AE.mv, AE.live.injEq] at h1
        exact ⟨i, ab0, hri, hi, h2, h1, by rw [hri]; exact hatM i hi (by rw [h2]; simp)⟩
      | gone => rw [he] at h1; cases h1
      | hole => rw [he] at h2; exact absurd h2 (hnh i)
    by_cases hlt : r < H.length
    · by_cases hex : ∃ i, i < h.length ∧ s i = r
      · obtain ⟨i, hi, hri⟩ := hex
        exact .inl (fromS i (by omega) hri.symm)
      · right
        have hne : ∀ i, i < h.length → s i ≠ r := fun i hi he => hex ⟨i, hi, he⟩
        obtain ⟨h1, h2⟩ := hout r hlt hne
        exact ⟨hlt, hne, by rw [← h1]; exact hr, h2⟩
    · left
      have : s (h.length + (r - H.length)) = r := by rw [hnew _ (by omega)]; omega
      exact fromS _ (by omega) this.symm
  have hnF : ∀ b, F b → w'.heap[b]? = w.heap[b]? := fun b hb => hst.blk b (hH.old b hb) fun r ab c h1 h2 => by
    obtain ⟨ab0, AB, h3, h4, _, _, h5⟩ := hsm r _ h1
    rw [h5] at h2
    exact (hH.lt h4 h2).1 hb
  have hnS : ∀ r ab b c, r < H.length → (∀ i, i < h.length → s i ≠ r) → H[r]? = some (.live ab) → M[r]? = some (some (b, c)) → w'.heap[b]? = w.heap[b]? := fun r ab b c _ hne h1 h2 => hst.blk b (hH.lt h1 h2).2 fun i ab1 c1 h3 h4 => by
    obtain ⟨ab0, AB, h5, h6, _, _, h7⟩ := hsm i _ h3
    rw [h7] at h4
    exact hne i (List.getElem?_eq_some_iff.1 h3).1 (hH.inj _ _ _ _ _ _ _ h6 h1 h4 h2)
  have hkeep : Keeps M H M' H' := fun r => by
    refine ⟨fun hg => ?_, fun ab hab => ?_⟩
    · have hrl := (List.getElem?_eq_some_iff.1 hg).1
      have hne : ∀ i, i < h.length → s i ≠ r := fun i hi he => by
        obtain ⟨ab0, AB, _, h4, _⟩ := hsm i _ (List.getElem?_eq_getElem hi)
        rw [he, hg] at h4; cases h4
      rw [(hout r hrl hne).1]; exact hg
    · have hrl := (List.getElem?_eq_some_iff.1 hab).1
      by_cases hex : ∃ i, i < h.length ∧ s i = r
      · obtain ⟨i, hi, hri⟩ := hex
        obtain ⟨ab0, AB, h3, h4, h5, h6, h7⟩ := hsm i _ (List.getElem?_eq_getElem hi)
        rw [hri, hab] at h4
        cases h4
        have h8 : h[i]? = some (.live ab0) := by rw [List.getElem?_eq_getElem hi, h3]
        rcases (hst.keeps i).2 ab0 h8 with hg | ⟨ab', g1, g2, g3, g4⟩
        · left; have := (hmv i).1 hg; rwa [hri] at this
        · obtain ⟨ab'', k1, k2, k3, k4⟩ := (hmv i).2 ab' g1
          right
          rw [hri] at k1 k4 h7
          exact ⟨ab'', k1, by rw [k2, g2, h5], by rw [k3, g3, h6], by rw [k4, g4, h7]⟩
      · have hne : ∀ i, i < h.length → s i ≠ r := fun i hi he => hex ⟨i, hi, he⟩
        obtain ⟨h1, h2⟩ := hout r hrl hne
        exact .inr ⟨ab, by rw [h1]; exact hab, rfl, rfl, h2⟩
  have hGM : Grow F F1 w M H := ⟨hG.1, fun b hb => by
    rcases hG.2 b hb with h1 | h1 | ⟨r, ab, c, h1, h2⟩
    · exact .inl h1
    · exact .inr (.inl h1)
    · obtain ⟨ab0, AB, _, k4, _, _, k7⟩ := hsm r _ h1
      rw [k7] at h2
      exact .inr (.inr ⟨_, _, _, k4, h2⟩)⟩
  refine ⟨hGM, ⟨⟨fun r ab hr => ?_, fun r r' ab ab' b c c' h1 h2 h3 h4 => ?_, hlM, hst.hp.old⟩, hkeep, hst.os, hst.tape, hst.output, hst.size, fun b hb hne => hst.blk b hb fun i ab c h1 h2 => ?_, fun r ab b c h1 h2 => ?_⟩, fun res v hv => RV.mv hmv hv⟩
  · rcases hcase r ab hr with ⟨i, ab0, rfl, hi, h1, rfl, h2⟩ | ⟨hlt, hne, h1, h2⟩
    · rw [h2]
      rcases hst.hp.at_ i ab0 h1 with ⟨h3, h4⟩ | ⟨b, c, h3, h4, cur, g1, g2, g3, g4, g5⟩
      · exact .inl ⟨h3, by simpa [AB.mv] using h4⟩
      · refine .inr ⟨b, c, h3, h4, cur, g1, g2, by simpa [AB.mv] using g3, g4, fun p x hx => ?_⟩
        simp only [AB.mv, List.getElem?_map, Option.map_eq_some_iff] at hx
        obtain ⟨y, hy, rfl⟩ := hx
        refine ⟨by simpa [AB.mv] using (g5 p y hy).1, fun q d hd => ?_⟩
        simp only [List.getElem?_map, Option.map_eq_some_iff] at hd
        obtain ⟨d0, hd0, rfl⟩ := hd
        obtain ⟨u, hu, ho, hr⟩ := (g5 p y hy).2 q d0 hd0
        exact ⟨u, hu, ho, RC.mv hmv hr⟩
    · rw [h2]
      rcases hH.at_ r ab h1 with h3 | ⟨b, c, h3, h4, h5⟩
      · exact .inl h3
      · refine .inr ⟨b, c, h3, fun hf => ?_, RB.ext hG.1 hnF hkeep (hnS r ab b c hlt hne h1 h3) h5⟩
        rcases hG.2 b hf with g1 | g1 | ⟨r0, ab0, c0, g1, g2⟩
        · exact h4 g1
        · have := (hH.lt h1 h3).2; omega
        · obtain ⟨ab1, AB, _, k4, _, _, k7⟩ := hsm r0 _ g1
          rw [k7] at g2
          exact hne r0 (List.getElem?_eq_some_iff.1 g1).1 (hH.inj _ _ _ _ _ _ _ k4 h1 g2 h3)
  · have hx : ∀ r ab b c, H'[r]? = some (.live ab) → M'[r]? = some (some (b, c)) → (∃ i ab0, r = s i ∧ h'[i]? = some (.live ab0) ∧ m'[i]? = some (some (b, c))) ∨ (r < H.length ∧ (∀ i, i < h.length → s i ≠ r) ∧ H[r]? = some (.live ab) ∧ M[r]? = some (some (b, c))) := fun r ab b c h1 h2 => by
      rcases hcase r ab h1 with ⟨i, ab0, h3, hi, h4, _, h5⟩ | ⟨h3, h4, h5, h6⟩
      · exact .inl ⟨i, ab0, h3, h4, by rw [← h5]; exact h2⟩
      · exact .inr ⟨h3, h4, h5, by rw [← h6]; exact h2⟩
    have mix : ∀ (i : Nat) (ab0 : AB) (r' : Nat) (ab' : AB) (b c c' : Nat), h'[i]? = some (AE.live ab0) → m'[i]? = some (some (b, c)) → r' < H.length → (∀ i, i < h.length → s i ≠ r') → H[r']? = some (.live ab') → M[r']? = some (some (b, c')) → False := fun i ab0 r' ab' b c c' g1 g2 g3 g4 g5 g6 => by
      rcases hst.own i ab0 b c g1 g2 with ⟨r0, ab1, c0, k1, k2⟩ | k1
      · obtain ⟨ab2, AB, _, k4, _, _, k7⟩ := hsm r0 _ k1
        rw [k7] at k2
        exact g4 r0 (List.getElem?_eq_some_iff.1 k1).1 (hH.inj _ _ _ _ _ _ _ k4 g5 k2 g6)
      · have := (hH.lt g5 g6).2; omega
    rcases hx r ab b c h1 h3 with ⟨i, a0, rfl, g1, g2⟩ | ⟨g1, g2, g3, g4⟩ <;> rcases hx r' ab' b c' h2 h4 with ⟨i', a0', rfl, g1', g2'⟩ | ⟨g1', g2', g3', g4'⟩
    · rw [hst.hp.inj i i' a0 a0' b c c' g1 g1' g2 g2']
    · exact (mix i a0 r' ab' b c c' g1 g2 g1' g2' g3' g4').elim
    · exact (mix i' a0' r ab b c' c g1' g2' g1 g2 g3 g4).elim
    · exact hH.inj r r' ab ab' b c c' g3 g3' g4 g4'
  · obtain ⟨ab0, AB, _, k4, _, _, k7⟩ := hsm i _ h1
    rw [k7] at h2
    exact hne _ _ _ k4 h2
  · rcases hcase r ab h1 with ⟨i, ab0, rfl, hi, h3, _, h4⟩ | ⟨h3, h4, h5, h6⟩
    · rw [h4] at h2
      rcases hst.own i ab0 b c h3 h2 with ⟨r0, ab1, c0, k1, k2⟩ | k1
      · obtain ⟨ab2, AB, _, k4, _, _, k7⟩ := hsm r0 _ k1
        rw [k7] at k2
        exact .inl ⟨_, _, _, k4, k2⟩
      · exact .inr k1
    · rw [h6] at h2; exact .inl ⟨r, ab, c, h5, h2⟩
end

/-! ### The same for the evaluator -/
def EE.mv (s : Nat → Nat) : EE → EE
  | .bx t k x => .bx t k (x.map (AC.mv s))
  | .rw ab => .rw (ab.mv s)
  | .gn => .gn
theorem EE.mv_e (s : Nat → Nat) (e : EE) : (e.mv s).e = e.e.mv s := by cases e <;> rfl
/-- The great heap with the small one's places put back in turn; what is left over comes behind. -/
def putBack (s : Nat → Nat) : List Nat → EH → EH → EH
  | [], H, h' => H ++ h'.map (EE.mv s)
  | _ :: _, H, [] => H
  | r :: σ, H, e :: h' => putBack s σ (H.set r (e.mv s)) h'
theorem plc_eq (σ : List Nat) (n i : Nat) : plc σ n i = match σ[i]? with | some r => r | none => n + (i - σ.length) := by
  unfold plc; rw [nth_eq, lenL_eq]
theorem putBack_len (s : Nat → Nat) : ∀ (σ : List Nat) (H h' : EH), σ.length ≤ h'.length → (putBack s σ H h').length = H.length + (h'.length - σ.length)
  | [], H, h', _ => by simp [putBack]
  | r :: σ, H, [], hl => by simp at hl
  | r :: σ, H, e :: h', hl => by
    unfold putBack
    rw [putBack_len s σ _ _ (by simpa using hl)]
    simp
theorem putBack_new (s : Nat → Nat) : ∀ (σ : List Nat) (H h' : EH) (i : Nat), σ.length ≤ h'.length → σ.length ≤ i → (putBack s σ H h')[H.length + (i - σ.length)]? = (h'[i]?).map (EE.mv s)
  | [], H, h', i, _, _ => by
    unfold putBack
    rw [show H.length + (i - ([] : List Nat).length) = H.length + i by simp, List.getElem?_append_right (by omega), Nat.add_sub_cancel_left, List.getElem?_map]
  | r :: σ, H, [], i, hl, _ => by simp at hl
  | r :: σ, H, e :: h', 0, _, hi => by simp at hi
  | r :: σ, H, e :: h', i + 1, hl, hi => by
    unfold putBack
    have := putBack_new s σ (H.set r (e.mv s)) h' i (by simpa using hl) (by simpa using hi)
    simpa using this
theorem putBack_out (s : Nat → Nat) : ∀ (σ : List Nat) (H h' : EH) (r : Nat), r < H.length → r ∉ σ → (putBack s σ H h')[r]? = H[r]?
  | [], H, h', r, hr, _ => by unfold putBack; rw [List.getElem?_append_left hr]
  | q :: σ, H, [], r, _, _ => rfl
  | q :: σ, H, e :: h', r, hr, hn => by
    unfold putBack
    simp only [List.mem_cons, not_or] at hn
    rw [putBack_out s σ _ h' r (by simpa using hr) hn.2, List.getElem?_set_ne (fun h => hn.1 h.symm)]
theorem putBack_at (s : Nat → Nat) : ∀ (σ : List Nat) (H h' : EH) (i r : Nat), σ.Nodup → (∀ q ∈ σ, q < H.length) → i < h'.length → σ[i]? = some r → (putBack s σ H h')[r]? = (h'[i]?).map (EE.mv s)
  | [], H, h', i, r, _, _, _, hr => by simp at hr
  | q :: σ, H, [], i, r, _, _, hi, _ => by simp at hi
  | q :: σ, H, e :: h', i, r, hn, hq, hi, hr => by
    unfold putBack
    rw [List.nodup_cons] at hn
    cases i with
    | zero =>
      simp only [List.getElem?_cons_zero, Option.some.injEq] at hr
      subst hr
      have hql : q < H.length := hq q (by simp)
      rw [putBack_out s σ _ h' q (by simpa using hql) hn.1]
      simp [List.getElem?_set_self hql]
    | succ i =>
      have := putBack_at s σ (H.set q (e.mv s)) h' i r hn.2 (fun x hx => by simpa using hq x (by simp [hx])) (by simpa using hi) (by simpa using hr)
      simpa using this
/-- The small heap's blocks stand in the great one, at σ. -/
def SubE (ρ : List (Option Nat)) (h : EH) (H : EH) : List Nat → EH → Prop
  | [], [] => True
  | r :: σ, e :: es => (∃ ab AB, e.e = .live ab ∧ (nth H r).map EE.e = some (.live AB) ∧ ab.ty = AB.ty ∧ ab.k = AB.k ∧ ((ab.es = AB.es ∧ (AB.es.all fun x => x.all plain) = true) ∨ rnE ρ (toH h) ab.es AB.es)) ∧ SubE ρ h H σ es
  | _, _ => False
theorem subE_len {ρ : List (Option Nat)} {h H : EH} : ∀ (σ : List Nat) (es : EH), SubE ρ h H σ es → σ.length = es.length
  | [], [], _ => rfl
  | [], _ :: _, h => h.elim
  | _ :: _, [], h => h.elim
  | _ :: σ, _ :: es, h => by simp [subE_len σ es h.2]
theorem subE_at {ρ : List (Option Nat)} {h H : EH} : ∀ (σ : List Nat) (es : EH), SubE ρ h H σ es → ∀ (i : Nat) (e : EE), es[i]? = some e → ∃ (r : Nat) (ab AB : AB), σ[i]? = some r ∧ e.e = .live ab ∧ (toH H)[r]? = some (.live AB) ∧ ab.ty = AB.ty ∧ ab.k = AB.k ∧ ((ab.es = AB.es ∧ (AB.es.all fun x => x.all plain) = true) ∨ rnE ρ (toH h) ab.es AB.es)
  | [], [], _, i, e, he => by simp at he
  | [], _ :: _, h, _, _, _ => h.elim
  | _ :: _, [], h, _, _, _ => h.elim
  | r :: σ, e0 :: es, hs, i, e, he => by
    cases i with
    | zero =>
      simp only [List.getElem?_cons_zero, Option.some.injEq] at he
      subst he
      obtain ⟨⟨ab, AB, h1, h2, h3⟩, _⟩ := hs
      refine ⟨r, ab, AB, rfl, h1, ?_, h3⟩
      rw [nth_eq] at h2
      simpa [toH] using h2
    | succ i => exact subE_at σ es hs.2 i e (by simpa using he)
theorem subE_rnH {ρ : List Nat} {h h0 H : EH} : ∀ (σ pre : List Nat) (es : EH), ρ = pre ++ σ → SubE (ρ.map some) h H σ es → rnH 0 (ρ.map some) (toH h) (toH H) pre.length (toH es)
  | [], pre, [], _, _ => trivial
  | [], _, _ :: _, _, h => h.elim
  | _ :: _, _, [], _, h => h.elim
  | r :: σ, pre, e :: es, hρ, hs => by
    have ih := subE_rnH (h0 := h0) σ (pre ++ [r]) es (by simp [hρ]) hs.2
    rw [List.length_append, List.length_singleton] at ih
    obtain ⟨⟨ab, AB, h1, h2, h3, h4, h5⟩, _⟩ := hs
    have h6 : (toH H)[r]? = some (.live AB) := by rw [nth_eq] at h2; simpa [toH] using h2
    have h7 : (List.map some ρ)[pre.length]? = some (some r) := by simp [hρ]
    show rnH 0 (ρ.map some) (toH h) (toH H) pre.length (e.e :: toH es)
    unfold rnH
    refine ⟨fun hi => absurd hi (Nat.not_lt_zero _), ?_, ih⟩
    rw [h1]
    simp only [h7, h6]
    exact ⟨h3, h4, h5⟩
section
variable {P : Program} {n0 N : Nat} {g : Gd}
theorem RH.rn0 {F : Nat → Prop} {w : World} {M : AM} {H h : AH} {ρ : List (Option Nat)} (hH : RH F w M H) (hnd : (ρ.filterMap id).Nodup) (hr : rnH 0 ρ h H 0 h) : RH F w (rnM M ρ h.length) h :=
  (Step.rn (n0 := 0) (h0 := []) (w0 := { w with heap := #[] }) (m0 := []) (h := H) (m := M) (h' := h) (ρ := ρ) (F := F) (w := w) ⟨hH, fun r => ⟨fun h => by simp at h, fun ab h => by simp at h⟩, rfl, rfl, rfl, Nat.zero_le _, fun b hb => absurd hb (Nat.not_lt_zero _), fun r ab b c h1 h2 => .inr (Nat.zero_le _)⟩ rfl (Nat.zero_le _) (fun i hi => absurd hi (Nat.not_lt_zero _)) hnd hr).hp
theorem plc_inj {σ : List Nat} {n : Nat} (hnd : σ.Nodup) (hlt : ∀ r ∈ σ, r < n) : ∀ i j, plc σ n i = plc σ n j → i = j := fun i j h => by
  rw [plc_eq, plc_eq] at h
  cases hi : σ[i]? with
  | some r =>
    cases hj : σ[j]? with
    | some q =>
      rw [hi, hj] at h
      simp only at h
      subst h
      have h1 := (List.getElem?_eq_some_iff.1 hi)
      have h2 := (List.getElem?_eq_some_iff.1 hj)
      obtain ⟨a1, a2⟩ := h1
      obtain ⟨b1, b2⟩ := h2
      exact (List.getElem_inj hnd).1 (a2.trans b2.symm)
    | none =>
      rw [hi, hj] at h
      have := hlt r (List.mem_of_getElem? hi)
      simp only at h
      omega
  | none =>
    cases hj : σ[j]? with
    | some q =>
      rw [hi, hj] at h
      have := hlt q (List.mem_of_getElem? hj)
      simp only at h
      omega
    | none =>
      rw [hi, hj] at h
      have h1 := List.getElem?_eq_none_iff.1 hi
      have h2 := List.getElem?_eq_none_iff.1 hj
      simp only at h
      omega
/-- A call of a function that is told of some own blocks (σ: where they lie). -/
theorem callH (hg : g = G0 P n0 N) {H h : EH} (σ : List Nat) {f : FuncId} {args args' : List AT} {K : AV → EH → Prop} {Post : AV → EH → Prop}
    (hc : Con P f (toH h) args' fun res h' => ∃ eh, toH eh = h' ∧ Post res eh) (hnd : σ.Nodup) (hlt : ∀ r ∈ σ, r < H.length) (hsub : SubE (σ.map some) h H σ h) (ha : rnTs (σ.map some) (toH h) args' args)
    (hK : ∀ res eh, Post res eh → K (res.mv (plc σ H.length)) (putBack (plc σ H.length) σ H eh)) : g .C f H args K := by
  subst hg
  refine ⟨hc.1, fun F w M vs hH hl hx => ?_⟩
  have hσ := subE_len σ h hsub
  have hr : rnH 0 (σ.map some) (toH h) (toH H) 0 (toH h) := subE_rnH (h0 := []) σ [] h rfl hsub
  have hnd' : ((σ.map some).filterMap id).Nodup := by rw [nodup_ids]; exact hnd
  have hH' := RH.rn0 hH hnd' hr
  have hal := rnTs_len _ _ ha
  have := hc.2 F w _ vs hH' (by rw [hl, hal]) (fun j y hj => by
    obtain ⟨x, hxj, hxy⟩ := rnTs_get _ _ j y ha hj
    obtain ⟨v, hv, hrt⟩ := hx j x hxj
    exact ⟨v, hv, RT.rn hH hr hrt hxy⟩)
  refine this.mono fun e w' ⟨v, res, h', m', F1, he, ⟨eh, heh, hpost⟩, hG, hst, hv⟩ => ?_
  subst heh
  have hHl : M.length = H.length := by have := hH.len; rw [toH_len] at this; exact this
  have hm'l : m'.length = eh.length := by have := hst.hp.len; rw [toH_len] at this; exact this
  have hlive : ∀ (i : Nat) (x : AE), (toH h)[i]? = some x → ∃ (r : Nat) (ab AB : AB), σ[i]? = some r ∧ x = .live ab ∧ (toH H)[r]? = some (.live AB) ∧ AB.k = ab.k ∧ AB.es.length = ab.es.length := fun i x hx => by
    simp only [toH, List.getElem?_map, Option.map_eq_some_iff] at hx
    obtain ⟨e0, he0, rfl⟩ := hx
    obtain ⟨r, ab, AB, h1, h2, h3, _, h4, h5⟩ := subE_at σ h hsub i e0 he0
    refine ⟨r, ab, AB, h1, h2, h3, h4.symm, ?_⟩
    rcases h5 with h5 | h5
    · rw [h5.1]
    · exact (rnE_len _ _ h5).symm
  have hle : h.length ≤ eh.length := by
    rcases Nat.eq_zero_or_pos h.length with h0 | h0
    · omega
    · have hx := List.getElem?_eq_getElem (l := toH h) (i := h.length - 1) (by rw [toH_len]; omega)
      obtain ⟨r, ab, AB, _, h2, _⟩ := hlive _ _ hx
      rw [h2] at hx
      rcases (hst.keeps (h.length - 1)).2 ab hx with hg | ⟨ab', hg, _⟩
      · have := (List.getElem?_eq_some_iff.1 hg).1; rw [toH_len] at this; omega
      · have := (List.getElem?_eq_some_iff.1 hg).1; rw [toH_len] at this; omega
  have hps : ∀ (i r : Nat), σ[i]? = some r → plc σ H.length i = r := fun i r h1 => by rw [plc_eq, h1]
  have hpn : ∀ i : Nat, σ.length ≤ i → plc σ H.length i = H.length + (i - σ.length) := fun i h1 => by rw [plc_eq, List.getElem?_eq_none h1]
  have hgets : ∀ i : Nat, i < σ.length → ∃ r, σ[i]? = some r := fun i hi => ⟨_, List.getElem?_eq_getElem hi⟩
  have hmi : ∀ (i r : Nat), σ[i]? = some r → (rnM M (σ.map some) (toH h).length)[i]? = M[r]? := fun i r h1 => by
    have hi : i < (toH h).length := by rw [toH_len, ← hσ]; exact (List.getElem?_eq_some_iff.1 h1).1
    have hrl : r < M.length := by rw [hHl]; exact hlt r (List.mem_of_getElem? h1)
    rw [rnM_some hi (by simp [h1]) (List.getElem?_eq_getElem hrl), List.getElem?_eq_getElem hrl]
  let M' : AM := M ++ m'.drop h.length
  have hM' : M'.length = (putBack (plc σ H.length) σ H eh).length := by
    rw [putBack_len _ _ _ _ (by omega)]; simp [M', hHl, hm'l]; omega
  have hmvE : ∀ (r i : Nat), (putBack (plc σ H.length) σ H eh)[r]? = (eh[i]?).map (EE.mv (plc σ H.length)) → (toH (putBack (plc σ H.length) σ H eh))[r]? = ((toH eh)[i]?).map (AE.mv (plc σ H.length)) := fun r i h1 => by
    simp only [toH, List.getElem?_map, h1]
    cases eh[i]? with
    | none => rfl
    | some x => simp [EE.mv_e]
  obtain ⟨hGM, hstep, hres⟩ := frame (H' := toH (putBack (plc σ H.length) σ H eh)) (M' := M') (s := plc σ H.length) hH hG hst
    (fun i x hx => by
      obtain ⟨r, ab, AB, h1, h2, h3, h4, h5⟩ := hlive i x hx
      rw [hps i r h1]
      exact ⟨ab, AB, h2, h3, h4, h5, hmi i r h1⟩)
    (plc_inj hnd hlt)
    (fun i hi => by
      rw [toH_len] at hi ⊢
      obtain ⟨r, h1⟩ := hgets i (by omega)
      rw [hps i r h1]; exact hlt r (List.mem_of_getElem? h1))
    (fun i hi => by rw [toH_len] at hi ⊢; rw [toH_len, hpn i (by omega), hσ])
    (by rw [toH_len, toH_len, toH_len, toH_len, putBack_len _ _ _ _ (by omega), hσ])
    (by rw [toH_len]; exact hM')
    (by rw [toH_len, toH_len]; exact hle)
    (fun i hi => by
      rw [toH_len] at hi
      apply hmvE
      by_cases hil : i < σ.length
      · obtain ⟨r, h1⟩ := hgets i hil
        rw [hps i r h1]
        exact putBack_at _ σ H eh i r hnd hlt hi h1
      · rw [hpn i (by omega)]
        exact putBack_new _ σ H eh i (by omega) (by omega))
    (fun i hi hng => by
      rw [toH_len] at hi
      by_cases hil : i < σ.length
      · obtain ⟨r, h1⟩ := hgets i hil
        rw [hps i r h1]
        have hx := List.getElem?_eq_getElem (l := toH h) (i := i) (by rw [toH_len]; omega)
        obtain ⟨r', ab, AB, _, h2, _⟩ := hlive _ _ hx
        rw [h2] at hx
        rcases (hst.keeps i).2 ab hx with hg | ⟨ab', _, _, _, h4⟩
        · exact absurd hg hng
        · rw [h4, hmi i r h1]
          have hrl : r < M.length := by rw [hHl]; exact hlt r (List.mem_of_getElem? h1)
          exact List.getElem?_append_left hrl
      · rw [hpn i (by omega)]
        show (M ++ m'.drop h.length)[H.length + (i - σ.length)]? = _
        rw [List.getElem?_append_right (by omega), List.getElem?_drop]
        congr 1
        omega)
    (fun r hr hne => by
      rw [toH_len] at hr
      have hnm : r ∉ σ := fun hm => by
        obtain ⟨i, hi, h1⟩ := List.getElem_of_mem hm
        have h2 := List.getElem?_eq_getElem hi
        rw [h1] at h2
        exact hne i (by rw [toH_len]; omega) (hps i r h2)
      refine ⟨?_, List.getElem?_append_left (by omega)⟩
      simp only [toH, List.getElem?_map, putBack_out _ σ H eh r hr hnm])
    (fun i hx => by
      simp only [toH, List.getElem?_map, Option.map_eq_some_iff] at hx
      obtain ⟨e0, _, h1⟩ := hx
      cases e0 <;> cases h1)
  exact ⟨v, res.mv _, _, M', F1, he, ⟨_, rfl, hK res eh hpost⟩, hGM, hstep, hres res v hv⟩
end
end Go.Proofs.YtgcofllgbdcicaaGreat.Am
