/- A part of AM, a framework of the prover own: functions of any program as maps of data. -/
import Derived.Test.YtgcofllgbdcicaaGreatAmI
namespace Go.Proofs.YtgcofllgbdcicaaGreat.Am
open Go.RowKit
set_option linter.unusedVariables false
set_option linter.unusedSimpArgs false
section
variable {P : Program} {F : Nat → Prop} {w : World} {m : AM} {h : AH} {T : Nat → AV} {a : Act}

/-- A slice's elements. -/
def srcA (h : AH) : AC → Option (List (List AC))
  | .imm (.slice none 0 0) => some []
  | .view xs => some xs
  | .own r => match h[r]? with | some (.live ab) => some ab.es | _ => none
  | .sub r lo n => match h[r]? with | some (.live ab) => some ((ab.es.drop lo).take n) | _ => none
  | _ => none
/-- What is appended to: its elements, and the heap without it. -/
def dstA (h : AH) (e : TypeId) (k : Nat) : AC → Option (List (List AC) × AH)
  | .imm (.slice none 0 0) => some ([], h)
  | .own r => match h[r]? with | some (.live ab) => if ab.ty = e ∧ ab.k = k then some (ab.es, h.set r .gone) else none | _ => none
  | _ => none
/-- 'append'. -/
def apA (P : Program) (T : Nat → AV) (h : AH) (c : Call) (K : AV → AH → Prop) : Prop :=
  match c.callee, c.args.toList, c.argTypes.toList with
  | .builtin .append, [s, x], [t, t'] => t = t' ∧ (match ev T s, ev T x, elemOfT P t with
    | .t (.c y), .t (.c z), some (e, k, by_) => ∃ old hb ys z0, dstA h e k y = some (old, hb) ∧ srcA h z = some ys ∧ (∀ x ∈ ys, x.length = k) ∧ zeroOf P e = some z0 ∧ z0.length = k ∧ 0 < k ∧
        (old.length + ys.length) * by_ ≤ 140737488355328 ∧ old.length + ys.length ≤ 4611686018427387904 ∧ K (.t (.c (.own h.length))) (hb ++ [.live ⟨e, k, old ++ ys⟩])
    | _, _, _ => False)
  | _, _, _ => False

theorem src_val (hH : RH F w m h) {z : AC} {v : Value} {ys : List (List AC)} {k : Nat} (hv : RC F w m h z v) (hs : srcA h z = some ys) (hk : ∀ x ∈ ys, x.length = k) :
    ∃ p cap, v = .slice p ys.length cap ∧ (0 < ys.length → ∃ b o, p = some ⟨b, o, none⟩ ∧ ∀ (i : Nat) (x : List AC), ys[i]? = some x → ∀ (j : Nat) (c : AC), x[j]? = some c → ∃ u, w.cell? ⟨b, o + (i * k + j), none⟩ = some u ∧ one u = true ∧ RC F w m h c u) := by
  cases z with
  | imm u =>
    have hu : v = u := hv
    subst hu
    unfold srcA at hs
    split at hs
    · rename_i heq; cases heq; cases hs; exact ⟨_, _, rfl, fun h0 => by simp at h0⟩
    all_goals (first | (rename_i heq; cases heq; done) | cases hs)
  | view xs =>
    have hvv : RP F w (.view xs) v := hv
    unfold RP at hvv
    obtain ⟨p, cap, rfl, h1, h2, h3⟩ := hvv
    cases hs
    refine ⟨p, cap, rfl, fun h0 => ?_⟩
    rcases h3 with rfl | ⟨b, o, k', rfl, hF, hE⟩
    · simp at h0
    · refine ⟨b, o, rfl, fun i x hx j c hj => ?_⟩
      obtain ⟨hkk, hL⟩ := RPE.get hE hx
      rw [hk x (List.mem_of_getElem? hx)] at hkk
      subst hkk
      have := hL.cells (m := m) (h := h) j c hj
      rwa [Nat.add_assoc] at this
  | own r =>
    simp only [srcA] at hs
    split at hs
    · rename_i ab hr
      cases hs
      rcases hv with hg | ⟨ab', h1, ⟨b, cap, h2, rfl⟩ | ⟨h2, h3, rfl⟩⟩
      · rw [hr] at hg; cases hg
      · obtain ⟨rfl, hF, hB⟩ := hH.get hr h1 h2
        refine ⟨_, _, rfl, fun h0 => ⟨b, 0, rfl, fun i x hx j c hj => ?_⟩⟩
        have := hB.cell hx j c hj
        obtain ⟨cur, _, _, _, _, h5⟩ := hB
        rw [← (h5 i x hx).1, hk x (List.mem_of_getElem? hx)] at this
        simpa using this
      · rw [hr] at h1; cases h1
        exact ⟨none, 0, by rw [h3], fun h0 => by omega⟩
    · cases hs
  | sub r lo nn =>
    simp only [srcA] at hs
    split at hs
    · rename_i ab hr
      cases hs
      rcases hv with hg | ⟨ab', c, p, h1, h3, h8, h9, rfl, h11⟩
      · rw [hr] at hg; cases hg
      · rw [hr] at h1
        cases h1
        have hlen : ((ab.es.drop lo).take nn).length = nn := by simp; omega
        refine ⟨p, c, by rw [hlen], fun h0 => ?_⟩
        rw [hlen] at h0
        obtain ⟨b, cap, h2, rfl⟩ := h11 h0
        obtain ⟨_, hF, hB⟩ := hH.get hr hr h2
        refine ⟨b, lo * ab.k, rfl, fun i x hx j c hj => ?_⟩
        have hmem := hk x (List.mem_of_getElem? hx)
        rw [List.getElem?_take] at hx
        split at hx
        · rw [List.getElem?_drop] at hx
          have := hB.cell hx j c hj
          obtain ⟨cur, _, _, _, _, h5⟩ := hB
          have hkk := (h5 _ x hx).1
          rw [hmem] at hkk
          rw [hkk]
          rw [← hkk, Nat.add_mul, Nat.add_assoc, hkk] at this
          exact this
        · cases hx
    · cases hs
  | ptr r i off => cases hs
  | eptr cs off => cases hs
  | dead => cases hs
/-- The cells of a row of elements. -/
theorem flat_cells {b o k : Nat} {ys : List (List AC)} (hk : ∀ x ∈ ys, x.length = k) (hc : ∀ (i : Nat) (x : List AC), ys[i]? = some x → ∀ (j : Nat) (c : AC), x[j]? = some c → ∃ u, w.cell? ⟨b, o + (i * k + j), none⟩ = some u ∧ one u = true ∧ RC F w m h c u) :
    ∃ us : List Value, us.length = ys.length * k ∧ (∀ (q : Nat) (u : Value), us[q]? = some u → w.cell? ((⟨b, o, none⟩ : Addr).add q) = some u ∧ one u = true) ∧
      ∀ (i : Nat) (x : List AC), ys[i]? = some x → ∀ (j : Nat) (c : AC), x[j]? = some c → ∃ u, us[i * k + j]? = some u ∧ one u = true ∧ RC F w m h c u := by
  refine ⟨(List.range (ys.length * k)).map fun q => (w.cell? ⟨b, o + q, none⟩).getD undef, by simp, fun q u hq => ?_, fun i x hx j c hj => ?_⟩
  · simp only [List.getElem?_map, Option.map_eq_some_iff] at hq
    obtain ⟨q', hq', rfl⟩ := hq
    have hql : q < ys.length * k := by have := (List.getElem?_eq_some_iff.1 hq').1; simpa using this
    have hqq : q' = q := by
      rw [List.getElem?_range hql] at hq'
      exact (Option.some.inj hq').symm
    subst hqq
    have hk0 : 0 < k := by rcases Nat.eq_zero_or_pos k with h0 | h0; · subst h0; simp at hql
                           · exact h0
    have hi : q' / k < ys.length := Nat.div_lt_of_lt_mul (by rw [Nat.mul_comm]; exact hql)
    have hx := List.getElem?_eq_getElem hi
    have hj : q' % k < (ys[q' / k]).length := by rw [hk _ (List.getElem_mem hi)]; exact Nat.mod_lt _ hk0
    obtain ⟨u, hu, ho, _⟩ := hc _ _ hx _ _ (List.getElem?_eq_getElem hj)
    rw [show q' / k * k + q' % k = q' by rw [Nat.mul_comm]; exact Nat.div_add_mod q' k] at hu
    rw [addr_at, hu]
    exact ⟨rfl, ho⟩
  · obtain ⟨u, hu, ho, hr⟩ := hc i x hx j c hj
    have hjl : j < k := by rw [← hk x (List.mem_of_getElem? hx)]; exact (List.getElem?_eq_some_iff.1 hj).1
    have hil : i < ys.length := (List.getElem?_eq_some_iff.1 hx).1
    have hlt : i * k + j < ys.length * k := by
      have : (i + 1) * k ≤ ys.length * k := Nat.mul_le_mul_right _ hil
      rw [Nat.add_mul] at this; omega
    refine ⟨u, ?_, ho, hr⟩
    rw [List.getElem?_map, List.getElem?_range hlt]
    simp only [Option.map_some, hu, Option.getD_some]
end
end Go.Proofs.YtgcofllgbdcicaaGreat.Am
