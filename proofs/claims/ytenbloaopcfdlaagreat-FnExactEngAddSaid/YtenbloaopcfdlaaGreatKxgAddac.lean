/- A part of AM, a framework of the prover own: functions of any program as maps of data. -/
import Derived.Test.YtenbloaopcfdlaaGreatKxgAddab
namespace Go.Proofs.YtenbloaopcfdlaaGreat.Am
open Go.RowKit
set_option linter.unusedVariables false
set_option linter.unusedSimpArgs false
section
variable {F : Nat → Prop} {w : World} {m : AM} {h h' : EH} {r : Nat} {d : AC} {t k : Nat} {es : List (List AC)}
end
section
variable {P : Program} {tab : List (TypeId × TI)} {n0 N : Nat}
end
theorem weak_nm {β : BP} {n0 N : Nat} {l l2 : List (Nat × AV)} {h h2 : EH} (hK : nmK h.length .dead (lkT l) l2) (hN : nmH h.length .dead 0 h2 h) : Weak n0 N (lkT l) (toH h) l2 (toH h2) := fun F w0 m0 h0 a w m hn rl => by
  refine ⟨F, m, Grow.refl _ _ _ _, ?_⟩
  have hH := rl.st.hp
  have hk := nmH_keeps (m := m) hN
  have hnone : (toH h)[h.length]? = none := by rw [List.getElem?_eq_none]; rw [toH_len]; exact Nat.le_refl _
  have cell : ∀ (c c' : AC) (u : Value), RC F w m (toH h) c u → nmC h.length .dead c' c → RC F w m (toH h2) c' u := fun c c' u hu hc => by
    rcases hc with rfl | ⟨rfl, rfl⟩ | ⟨rfl, rfl⟩
    · exact RC.ext (fun _ h => h) (fun _ _ => rfl) hk hu
    · exact trivial
    · have hu' : u = .slice none 0 0 := hu
      subst hu'
      show SP F w [] (.view []) (.slice none 0 0)
      unfold SP
      exact ⟨none, 0, rfl, Nat.le_refl _, Nat.zero_le _, .inl ⟨rfl, rfl⟩⟩
  have hlen : (toH h2).length = (toH h).length := by rw [toH_len, toH_len]; exact nmH_len hN
  have hH' : RH F w m (toH h2) := by
    refine ⟨fun q ab' hq => ?_, fun q q' ab ab' b1 c c' hq hq' hm hm' => ?_, by rw [hlen]; exact hH.len, hH.old, hH.lo⟩
    · obtain ⟨hqr, ab, h1, h2, h3, h4, h5⟩ := nmH_live hN hq
      rcases hH.at_ q ab h1 with ⟨g1, g2⟩ | ⟨b1, cap, g1, g2, cur, g3, g4, g5, g6, g7⟩
      · exact .inl ⟨g1, by rw [h4]; exact g2⟩
      · refine .inr ⟨b1, cap, g1, g2, cur, by rw [h2]; exact g3, by rw [h3]; exact g4, by rw [h4]; exact g5, g6, fun i x' hx => ?_⟩
        obtain ⟨x, k1, k2, k3⟩ := h5 i x' hx
        obtain ⟨k4, k5⟩ := g7 i x k1
        rw [h3]
        refine ⟨by rw [k2]; exact k4, fun j c' hc => ?_⟩
        obtain ⟨c, k6, k7⟩ := k3 j c' hc
        obtain ⟨u, k8, k9, k10⟩ := k5 j c k6
        exact ⟨u, k8, k9, cell c c' u k10 k7⟩
    · obtain ⟨_, a1, g1, _⟩ := nmH_live hN hq
      obtain ⟨_, a2, g2, _⟩ := nmH_live hN hq'
      exact hH.inj q q' a1 a2 b1 c c' g1 g2 hm hm'
  have hL : ∀ (xs ys : List AC) (u : Value), RT F w m (toH h) (.agg xs) u → nmL h.length .dead ys xs → RT F w m (toH h2) (.agg ys) u := fun xs ys u hx hn => by
    obtain ⟨vs, h1, h2, h3⟩ := hx
    refine ⟨vs, h1, by rw [h2, (nmL_at hn).1], fun j y hj => ?_⟩
    obtain ⟨c, k1, k2⟩ := (nmL_at hn).2 j y hj
    obtain ⟨u, hu, ho, hr⟩ := h3 j c k1
    exact ⟨u, hu, ho, cell c y u hr k2⟩
  have hV : ∀ (x y : AV) (u : Value), RV F w m (toH h) x u → nmV h.length .dead y x → RV F w m (toH h2) y u := fun x y u hx hn => by
    unfold nmV at hn
    split at hn
    · exact trivial
    · exact cell _ _ u hx hn
    · exact hL _ _ u hx hn
    · subst hn; exact RV.ext (fun _ h => h) (fun _ _ => rfl) hk hx
  obtain ⟨tm, st, df, sz⟩ := rl
  refine ⟨fun q => ?_, ⟨hH', Keeps.trans st.keeps hk, st.os, st.tape, st.output, st.size, st.blk, fun q ab' b1 c hq hm => ?_, st.szx⟩, df, sz⟩
  · rcases nmK_get hK q with h1 | h1
    · rw [h1]; exact trivial
    · exact hV _ _ _ (tm q) h1
  · obtain ⟨_, ab, g1, _⟩ := nmH_live hN hq
    exact st.own q ab b1 c g1 hm
end Go.Proofs.YtenbloaopcfdlaaGreat.Am
