/- A part of AM, a framework of the prover own: functions of any program as maps of data. -/
import Derived.Test.YtgcofllgbdcicaaGreatAmS
import Derived.Deep.LoopGhost
namespace Go.Proofs.YtgcofllgbdcicaaGreat.Am
open Go.RowKit
set_option linter.unusedVariables false
set_option linter.unusedSimpArgs false
section
variable {F : Nat → Prop} {w : World} {m : AM} {h h' : AH} {n0 : Nat} {ρ : List (Option Nat)} {T : Nat → AV} {l : List (Nat × AV)}
theorem rnH_get {n0 : Nat} : ∀ (es : AH) (i k : Nat) (e : AE), rnH n0 ρ h' h i es → es[k]? = some e → (i + k < n0 → ρ[i + k]? = some (some (i + k))) ∧ (match e with
      | .live ab' => match ρ[i + k]? with
        | some none => ab'.es.length = 0
        | some (some j) => match h[j]? with
          | some (.live ab) => ab'.ty = ab.ty ∧ ab'.k = ab.k ∧ ((ab'.es = ab.es ∧ (ab.es.all fun x => x.all plain) = true) ∨ rnE ρ h' ab'.es ab.es)
          | _ => False
        | none => False
      | .gone => True
      | .hole => i + k < n0 → h[i + k]? = some .hole)
  | [], i, k, e, _, hk => by simp at hk
  | e0 :: es, i, 0, e, hr, hk => by
    simp only [List.getElem?_cons_zero, Option.some.injEq] at hk
    subst hk
    unfold rnH at hr
    exact ⟨hr.1, hr.2.1⟩
  | e0 :: es, i, k + 1, e, hr, hk => by
    simp only [List.getElem?_cons_succ] at hk
    unfold rnH at hr
    have := rnH_get es (i + 1) k e hr.2.2 hk
    rwa [show i + 1 + k = i + (k + 1) by omega] at this
theorem rnE_len : ∀ (l' l : List (List AC)), rnE ρ h' l' l → l'.length = l.length
  | [], [], _ => rfl
  | x' :: l', x :: l, hr => by unfold rnE at hr; simp [rnE_len l' l hr.2]
  | [], _ :: _, hr => hr.elim
  | _ :: _, [], hr => hr.elim
theorem rnL_get : ∀ (l' l : List AC) (i : Nat) (c' : AC), rnL ρ h' l' l → l'[i]? = some c' → ∃ c, l[i]? = some c ∧ rnC ρ h' c' c
  | [], _, i, c', _, hi => by simp at hi
  | d' :: l', d :: l, 0, c', hr, hi => by
    simp only [List.getElem?_cons_zero, Option.some.injEq] at hi
    subst hi
    unfold rnL at hr
    exact ⟨d, rfl, hr.1⟩
  | d' :: l', d :: l, i + 1, c', hr, hi => by
    simp only [List.getElem?_cons_succ] at hi
    unfold rnL at hr
    obtain ⟨c, h1, h2⟩ := rnL_get l' l i c' hr.2 hi
    exact ⟨c, by simpa using h1, h2⟩
  | _ :: _, [], _, _, hr, _ => hr.elim
theorem rnL_len : ∀ (l' l : List AC), rnL ρ h' l' l → l'.length = l.length
  | [], [], _ => rfl
  | x' :: l', x :: l, hr => by unfold rnL at hr; simp [rnL_len l' l hr.2]
  | [], _ :: _, hr => hr.elim
  | _ :: _, [], hr => hr.elim
theorem rnE_get : ∀ (l' l : List (List AC)) (i : Nat) (x' : List AC), rnE ρ h' l' l → l'[i]? = some x' → ∃ x, l[i]? = some x ∧ rnL ρ h' x' x
  | [], _, i, c', _, hi => by simp at hi
  | d' :: l', d :: l, 0, c', hr, hi => by
    simp only [List.getElem?_cons_zero, Option.some.injEq] at hi
    subst hi
    unfold rnE at hr
    exact ⟨d, rfl, hr.1⟩
  | d' :: l', d :: l, i + 1, c', hr, hi => by
    simp only [List.getElem?_cons_succ] at hi
    unfold rnE at hr
    obtain ⟨c, h1, h2⟩ := rnE_get l' l i c' hr.2 hi
    exact ⟨c, by simpa using h1, h2⟩
  | _ :: _, [], _, _, hr, _ => hr.elim
theorem rnTs_get : ∀ (l' l : List AT) (i : Nat) (x' : AT), rnTs ρ h' l' l → l'[i]? = some x' → ∃ x, l[i]? = some x ∧ rnT ρ h' x' x
  | [], _, i, c', _, hi => by simp at hi
  | d' :: l', d :: l, 0, c', hr, hi => by
    simp only [List.getElem?_cons_zero, Option.some.injEq] at hi
    subst hi
    unfold rnTs at hr
    exact ⟨d, rfl, hr.1⟩
  | d' :: l', d :: l, i + 1, c', hr, hi => by
    simp only [List.getElem?_cons_succ] at hi
    unfold rnTs at hr
    obtain ⟨c, h1, h2⟩ := rnTs_get l' l i c' hr.2 hi
    exact ⟨c, by simpa using h1, h2⟩
  | _ :: _, [], _, _, hr, _ => hr.elim
theorem rnTs_len : ∀ (l' l : List AT), rnTs ρ h' l' l → l'.length = l.length
  | [], [], _ => rfl
  | x' :: l', x :: l, hr => by unfold rnTs at hr; simp [rnTs_len l' l hr.2]
  | [], _ :: _, hr => hr.elim
  | _ :: _, [], hr => hr.elim

/-- Where the new places lie. -/
def rnM (m : AM) (ρ : List (Option Nat)) (k : Nat) : AM := (List.range k).map fun i => match ρ[i]? with | some (some j) => (m[j]?).getD none | _ => none
theorem rnM_get {k i : Nat} (hi : i < k) : (rnM m ρ k)[i]? = some (match ρ[i]? with | some (some j) => (m[j]?).getD none | _ => none) := by
  unfold rnM
  rw [List.getElem?_map, List.getElem?_range hi]
  rfl
theorem rnM_some {k i j : Nat} {q : Option (Nat × Nat)} (hi : i < k) (hρ : ρ[i]? = some (some j)) (hq : m[j]? = some q) : (rnM m ρ k)[i]? = some q := by
  rw [rnM_get hi]; simp [hρ, hq]
theorem rnM_none {k i : Nat} (hi : i < k) (hρ : ρ[i]? = some none) : (rnM m ρ k)[i]? = some none := by
  rw [rnM_get hi]; simp [hρ]
/-- What a live new place is. -/
theorem rn_live (hr : rnH n0 ρ h' h 0 h') {i : Nat} {ab' : AB} (hi : h'[i]? = some (.live ab')) : (ρ[i]? = some none ∧ ab'.es.length = 0) ∨ ∃ j ab, ρ[i]? = some (some j) ∧ h[j]? = some (.live ab) ∧ ab'.ty = ab.ty ∧ ab'.k = ab.k ∧ ab'.es.length = ab.es.length ∧
    ((ab'.es = ab.es ∧ (ab.es.all fun x => x.all plain) = true) ∨ rnE ρ h' ab'.es ab.es) := by
  have := (rnH_get h' 0 i _ hr hi).2
  rw [Nat.zero_add] at this
  simp only at this
  cases hρ : ρ[i]? with
  | none => rw [hρ] at this; exact this.elim
  | some o =>
    rw [hρ] at this
    cases o with
    | none => exact .inl ⟨rfl, this⟩
    | some j =>
      right
      simp only at this
      split at this
      · rename_i ab hj
        obtain ⟨h1, h2, h3⟩ := this
        refine ⟨j, ab, rfl, hj, h1, h2, ?_, h3⟩
        rcases h3 with ⟨h3, _⟩ | h3
        · rw [h3]
        · exact rnE_len _ _ h3
      · exact this.elim
theorem RC.rn (hH : RH F w m h) (hr : rnH n0 ρ h' h 0 h') {c' c : AC} {v : Value} (hv : RC F w m h c v) (hc : rnC ρ h' c' c) : RC F w (rnM m ρ h'.length) h' c' v := by
  have hm : ∀ (j : Nat) (ab : AB), h[j]? = some (.live ab) → ∃ q, m[j]? = some q := fun j ab hj => by
    have hjl := (List.getElem?_eq_some_iff.1 hj).1
    exact ⟨m[j]'(by rw [hH.len]; exact hjl), List.getElem?_eq_getElem _⟩
  cases c' with
  | imm u => have : c = .imm u := hc; subst this; exact hv
  | view xs => have : c = .view xs := hc; subst this; exact hv
  | eptr cs o => have : c = .eptr cs o := hc; subst this; exact hv
  | dead => trivial
  | own i =>
    simp only [rnC] at hc
    split at hc
    · rename_i ab' j hi hρ
      subst hc
      rcases rn_live hr hi with ⟨h1, _⟩ | ⟨j', ab, h1, h2, h3, h4, h5, _⟩
      · rw [hρ] at h1; cases h1
      · rw [hρ] at h1
        cases h1
        have hil : i < h'.length := (List.getElem?_eq_some_iff.1 hi).1
        rcases hv with hg | ⟨ab1, g1, g2⟩
        · rw [h2] at hg; cases hg
        · rw [h2] at g1
          cases g1
          refine .inr ⟨ab', hi, ?_⟩
          obtain ⟨q, hq⟩ := hm j ab h2
          rw [rnM_some hil hρ hq, h5]
          rw [hq] at g2
          exact g2
    · rename_i ab' hi hρ
      subst hc
      rcases rn_live hr hi with ⟨h1, h2⟩ | ⟨j', ab, h1, _⟩
      · have hil : i < h'.length := (List.getElem?_eq_some_iff.1 hi).1
        exact .inr ⟨ab', hi, .inr ⟨rnM_none hil hρ, h2, hv⟩⟩
      · rw [hρ] at h1; cases h1
    · exact hc.elim
  | sub i lo n =>
    simp only [rnC] at hc
    split at hc
    · rename_i ab' j hi hρ
      subst hc
      rcases rn_live hr hi with ⟨h1, _⟩ | ⟨j', ab, h1, h2, h3, h4, h5, _⟩
      · rw [hρ] at h1; cases h1
      · rw [hρ] at h1
        cases h1
        have hil : i < h'.length := (List.getElem?_eq_some_iff.1 hi).1
        rcases hv with hg | ⟨ab1, c, p, g1, g2, g3, g4, g5, g6⟩
        · rw [h2] at hg; cases hg
        · rw [h2] at g1
          cases g1
          refine .inr ⟨ab', c, p, hi, by rw [h5]; exact g2, g3, g4, g5, ?_⟩
          obtain ⟨q, hq⟩ := hm j ab h2
          rw [rnM_some hil hρ hq, h4]
          rw [hq] at g6
          exact g6
    · exact hc.elim
  | ptr i e o =>
    simp only [rnC] at hc
    split at hc
    · rename_i ab' j hi hρ
      subst hc
      rcases rn_live hr hi with ⟨h1, _⟩ | ⟨j', ab, h1, h2, h3, h4, h5, _⟩
      · rw [hρ] at h1; cases h1
      · rw [hρ] at h1
        cases h1
        have hil : i < h'.length := (List.getElem?_eq_some_iff.1 hi).1
        rcases hv with hg | ⟨ab1, b, cap, g1, g2, g3⟩
        · rw [h2] at hg; cases hg
        · rw [h2] at g1
          cases g1
          refine .inr ⟨ab', b, cap, hi, ?_, by rw [h4]; exact g3⟩
          exact rnM_some hil hρ g2
    · exact hc.elim
theorem RC.plain_rn {c : AC} {v : Value} {m' : AM} (hp : plain c = true) (hv : RC F w m h c v) : RC F w m' h' c v := by
  cases c <;> first | exact hv | cases hp
theorem RT.rn (hH : RH F w m h) (hr : rnH n0 ρ h' h 0 h') {x' x : AT} {v : Value} (hv : RT F w m h x v) (hc : rnT ρ h' x' x) : RT F w (rnM m ρ h'.length) h' x' v := by
  cases x' with
  | c c' =>
    cases x with
    | c c => exact RC.rn hH hr hv hc
    | agg xs =>
      cases c' <;> first | exact hc.elim | trivial
  | agg l' =>
    cases x with
    | c c => exact hc.elim
    | agg xs =>
      obtain ⟨vs, h1, h2, h3⟩ := hv
      rcases hc with ⟨rfl, hp⟩ | hc
      · exact ⟨vs, h1, h2, fun j y hj => let ⟨u, hu, ho, hru⟩ := h3 j y hj; ⟨u, hu, ho, RC.plain_rn (List.all_eq_true.1 hp y (List.mem_of_getElem? hj)) hru⟩⟩
      · refine ⟨vs, h1, by rw [rnL_len _ _ hc]; exact h2, fun j y hj => ?_⟩
        obtain ⟨c, hc1, hc2⟩ := rnL_get _ _ j y hc hj
        obtain ⟨u, hu, ho, hru⟩ := h3 j c hc1
        exact ⟨u, hu, ho, RC.rn hH hr hru hc2⟩
theorem RV.rn (hH : RH F w m h) (hr : rnH n0 ρ h' h 0 h') {x' x : AV} {v : Value} (hv : RV F w m h x v) (hc : rnV ρ h' x' x) : RV F w (rnM m ρ h'.length) h' x' v := by
  cases x' with
  | t x' =>
    cases x with
    | t x =>
      cases x' with
      | c c' =>
        cases c' <;> first | trivial | exact RT.rn hH hr hv hc
      | agg l' => exact RT.rn hH hr hv hc
    | tup xs =>
      cases x' with
      | c c' => cases c' <;> first | trivial | exact hc.elim
      | agg l' => exact hc.elim
  | tup l' =>
    cases x with
    | t x => exact hc.elim
    | tup xs =>
      obtain ⟨vs, h1, h2, h3⟩ := hv
      refine ⟨vs, h1, by rw [rnTs_len _ _ hc]; exact h2, fun j y hj => ?_⟩
      obtain ⟨c, hc1, hc2⟩ := rnTs_get _ _ j y hc hj
      obtain ⟨u, hu, hru⟩ := h3 j c hc1
      exact ⟨u, hu, RT.rn hH hr hru hc2⟩
theorem rnK_get : ∀ (l : List (Nat × AV)) (d : Nat), rnK ρ h' T l → rnV ρ h' (lkT l d) (T d)
  | [], d, _ => by unfold lkT; cases T d <;> exact trivial
  | (k, v) :: l, d, hr => by
    unfold rnK at hr
    unfold lkT
    by_cases hd : d = k
    · subst hd; rw [if_pos rfl]; exact hr.1
    · rw [if_neg hd]; exact rnK_get l d hr.2
theorem rn_inj (hn : (ρ.filterMap id).Nodup) {i i' j : Nat} (h1 : ρ[i]? = some (some j)) (h2 : ρ[i']? = some (some j)) : i = i' := by
  induction ρ generalizing i i' with
  | nil => simp at h1
  | cons o ρ ih =>
    cases o with
    | none =>
      simp only [List.filterMap_cons_none, id] at hn
      cases i with
      | zero => simp at h1
      | succ i =>
        cases i' with
        | zero => simp at h2
        | succ i' => exact congrArg (· + 1) (ih hn (by simpa using h1) (by simpa using h2))
    | some k =>
      have hn' : (k :: ρ.filterMap id).Nodup := by simpa using hn
      rw [List.nodup_cons] at hn'
      have hmem : ∀ q, ρ[q]? = some (some k) → False := fun q hq => hn'.1 (List.mem_filterMap.2 ⟨some k, List.mem_of_getElem? hq, rfl⟩)
      cases i with
      | zero =>
        simp at h1
        subst h1
        cases i' with
        | zero => rfl
        | succ i' => exact (hmem i' (by simpa using h2)).elim
      | succ i =>
        cases i' with
        | zero => simp at h2; subst h2; exact (hmem i (by simpa using h1)).elim
        | succ i' => exact congrArg (· + 1) (ih hn'.2 (by simpa using h1) (by simpa using h2))
theorem Step.rn {w0 : World} {m0 : AM} {h0 : AH} (hs : Step F w0 m0 h0 w m h) (hn : h0.length = n0) (hle : n0 ≤ h'.length) (hgo : ∀ i, i < n0 → h[i]? = some .gone → h'[i]? = some .gone) (hnd : (ρ.filterMap id).Nodup) (hr : rnH n0 ρ h' h 0 h') :
    Step F w0 m0 h0 w (rnM m ρ h'.length) h' := by
  have hH := hs.hp
  have hold : ∀ (i b c : Nat) (ab' : AB), h'[i]? = some (.live ab') → (rnM m ρ h'.length)[i]? = some (some (b, c)) → ∃ j ab, ρ[i]? = some (some j) ∧ h[j]? = some (.live ab) ∧ m[j]? = some (some (b, c)) := fun i b c ab' h1 h2 => by
    have hil : i < h'.length := (List.getElem?_eq_some_iff.1 h1).1
    rcases rn_live hr h1 with ⟨h3, _⟩ | ⟨j, ab, h3, h4, _⟩
    · rw [rnM_none hil h3] at h2; cases h2
    · refine ⟨j, ab, h3, h4, ?_⟩
      have hjl := (List.getElem?_eq_some_iff.1 h4).1
      have hq := List.getElem?_eq_getElem (l := m) (i := j) (by rw [hH.len]; exact hjl)
      rw [rnM_some hil h3 hq] at h2
      rw [hq, h2]
  refine ⟨⟨fun i ab' h1 => ?_, fun i i' ab ab' b c c' h1 h2 h3 h4 => ?_, by simp [rnM], hH.old⟩, fun r => ?_, hs.os, hs.tape, hs.output, hs.size, hs.blk, fun i ab' b c h1 h2 => ?_⟩
  · have hil : i < h'.length := (List.getElem?_eq_some_iff.1 h1).1
    rcases rn_live hr h1 with ⟨h3, h4⟩ | ⟨j, ab, h3, h4, h5, h6, h7, h8⟩
    · rw [rnM_none hil h3]; exact .inl ⟨rfl, h4⟩
    · rcases hH.at_ j ab h4 with ⟨g1, g2⟩ | ⟨b, c, g1, g2, cur, g3, g4, g5, g6, g7⟩
      · rw [rnM_some hil h3 g1]; exact .inl ⟨rfl, by rw [h7]; exact g2⟩
      · rw [rnM_some hil h3 g1]
        refine .inr ⟨b, c, rfl, g2, cur, by rw [h5]; exact g3, by rw [h6]; exact g4, by rw [h7]; exact g5, g6, fun p x' hx' => ?_⟩
        rw [h6]
        rcases h8 with ⟨h8, hp⟩ | h8
        · rw [h8] at hx'
          refine ⟨(g7 p x' hx').1, fun q c' hq => ?_⟩
          obtain ⟨u, hu, ho, hru⟩ := (g7 p x' hx').2 q c' hq
          exact ⟨u, hu, ho, RC.plain_rn (List.all_eq_true.1 (List.all_eq_true.1 hp x' (List.mem_of_getElem? hx')) c' (List.mem_of_getElem? hq)) hru⟩
        · obtain ⟨x, hx, hxx⟩ := rnE_get _ _ p x' h8 hx'
          refine ⟨by rw [rnL_len _ _ hxx]; exact (g7 p x hx).1, fun q c' hq => ?_⟩
          obtain ⟨c0, hc1, hc2⟩ := rnL_get _ _ q c' hxx hq
          obtain ⟨u, hu, ho, hru⟩ := (g7 p x hx).2 q c0 hc1
          exact ⟨u, hu, ho, RC.rn hH hr hru hc2⟩
  · obtain ⟨j, a1, g1, g2, g3⟩ := hold i b c ab h1 h3
    obtain ⟨j', a2, g4, g5, g6⟩ := hold i' b c' ab' h2 h4
    have := hH.inj j j' a1 a2 b c c' g2 g5 g3 g6
    subst this
    exact rn_inj hnd g1 g4
  · refine ⟨fun hg => ?_, fun ab hl => ?_⟩
    · have hrl : r < n0 := by rw [← hn]; exact (List.getElem?_eq_some_iff.1 hg).1
      exact hgo r hrl ((hs.keeps r).1 hg)
    · have hrl : r < n0 := by rw [← hn]; exact (List.getElem?_eq_some_iff.1 hl).1
      rcases (hs.keeps r).2 ab hl with hg | ⟨ab1, g1, g2, g3, g4⟩
      · exact .inl (hgo r hrl hg)
      · have hrl' : r < h'.length := by omega
        have hge := List.getElem?_eq_getElem hrl'
        have hρ := (rnH_get h' 0 r _ hr hge).1 (by omega)
        rw [Nat.zero_add] at hρ
        cases he : h'[r] with
        | gone => left; rw [hge, he]
        | hole =>
          have := (rnH_get h' 0 r _ hr hge).2
          rw [he] at this
          simp only [Nat.zero_add] at this
          rw [g1] at this
          cases this hrl
        | live ab' =>
          right
          have h1 : h'[r]? = some (.live ab') := by rw [hge, he]
          rcases rn_live hr h1 with ⟨h3, h4⟩ | ⟨j, ab2, h3, h4, h5, h6, h7, h8⟩
          · rw [hρ] at h3; cases h3
          · rw [hρ] at h3
            cases h3
            rw [g1] at h4
            cases h4
            refine ⟨ab', h1, by rw [h6]; exact g2, by rw [h7]; exact g3, ?_⟩
            have hjl := (List.getElem?_eq_some_iff.1 g1).1
            have hq := List.getElem?_eq_getElem (l := m) (i := r) (by rw [hH.len]; exact hjl)
            rw [rnM_some hrl' hρ hq, ← g4, hq]
  · obtain ⟨j, ab, g1, g2, g3⟩ := hold i b c ab' h1 h2
    exact hs.own j ab b c g2 g3
theorem Rel.rn {w0 : World} {m0 : AM} {h0 : AH} {N : Nat} {a : Act} (r : Rel F w0 m0 h0 N T h a w m) (hn : h0.length = n0) (hw : Wk n0 T h l h' ρ) : Rel F w0 m0 h0 N (lkT l) h' a w (rnM m ρ h'.length) := by
  obtain ⟨h1, h2, h3, h4, h5⟩ := hw
  exact ⟨fun d => RV.rn r.st.hp h4 (r.tm d) (rnK_get l d h5), r.st.rn hn h1 h2 h3 h4, r.df, r.sz⟩
end
section
variable {P : Program} {n0 N : Nat} {Q : Exit → (Nat → AV) → AH → Prop} {T : Nat → AV} {h : AH}
theorem vc_weaken {c : Code} (l : List (Nat × AV)) (h' : AH) (ρ : List (Option Nat)) (hw : Wk n0 T h l h' ρ) (hv : VC P n0 N c Q (lkT l) h') : VC P n0 N c Q T h := fun F w0 m0 h0 a w m hn r =>
  hv F w0 m0 h0 a w _ hn (r.rn hn hw)
/-- A loop: its state by a datum s of one's own choosing. -/
theorem vc_loop {S : Type} {c : Code} (Tf : S → List (Nat × AV)) (hf : S → AH) (ok : S → Prop) (μ : S → Nat) (s0 : S) (ρ0 : List (Option Nat)) (h0 : ok s0) (hw : Wk n0 T h (Tf s0) (hf s0) ρ0)
    (body : ∀ s, ok s → VC P n0 N c (thenQ (fun T' h' => ∃ s' ρ, ok s' ∧ μ s' < μ s ∧ Wk n0 T' h' (Tf s') (hf s') ρ) Q) (lkT (Tf s)) (hf s)) : VC P n0 N (.loop c) Q T h := fun F w0 m0 h00 a w m hn r => by
  refine wp_loop_ghost (fun k a w => ∃ s m F1, μ s = k ∧ ok s ∧ Grow F F1 w0 m0 h00 ∧ Rel F1 w0 m0 h00 N (lkT (Tf s)) (hf s) a w m) (μ s0) ⟨s0, _, F, rfl, h0, Grow.refl _ _ _ _, r.rn hn hw⟩ ?_
  rintro k a w ⟨s, m, F1, rfl, hok, hG, r⟩
  refine Code.wp_mono (fun e a' w' ⟨T', h', m', F2, hq, hG2, r'⟩ => ?_) (body s hok F1 w0 m0 h00 a w m hn r)
  have hG3 := hG.comp hG2
  cases e with
  | normal =>
    obtain ⟨s', ρ, h1, h2, h3⟩ := hq
    exact ⟨μ s', h2, s', _, F2, rfl, h1, hG3, r'.rn hn h3⟩
  | exit id => exact ⟨T', h', m', F2, hq, hG3, r'⟩
  | goto l => exact ⟨T', h', m', F2, hq, hG3, r'⟩
  | ret => exact ⟨T', h', m', F2, hq, hG3, r'⟩
  | panic c => exact ⟨T', h', m', F2, hq, hG3, r'⟩
  | outgrown => exact ⟨T', h', m', F2, hq, hG3, r'⟩
end
end Go.Proofs.YtgcofllgbdcicaaGreat.Am
