/- A part of AM, a framework of the prover own: functions of any program as maps of data. -/
import Derived.Test.YtgcofllgbdcicaaGreatAmJ
namespace Go.Proofs.YtgcofllgbdcicaaGreat.Am
open Go.RowKit
set_option linter.unusedVariables false
set_option linter.unusedSimpArgs false
section
variable {P : Program} {F : Nat → Prop} {w : World} {m : AM} {h : AH} {T : Nat → AV} {a : Act}

theorem dst_facts (hH : RH F w m h) {y : AC} {v : Value} {e : TypeId} {k : Nat} {old : List (List AC)} {hb : AH} (hv : RC F w m h y v) (hd : dstA h e k y = some (old, hb)) :
    ∃ xs : List Value, w.ownsRow 0 e k v old.length xs ∧
      (∀ (i : Nat) (x : List AC), old[i]? = some x → x.length = k ∧ ∀ (j : Nat) (c : AC), x[j]? = some c → ∃ u, xs[i * k + j]? = some u ∧ one u = true ∧ RC F w m h c u) ∧
      hb.length = h.length ∧ (∀ (r : Nat) (ab : AB), hb[r]? = some (.live ab) → h[r]? = some (.live ab)) ∧ (∀ r : Nat, h[r]? = some .gone → hb[r]? = some .gone) ∧
      (∀ (r : Nat) (ab : AB), h[r]? = some (.live ab) → hb[r]? = some (.live ab) ∨ hb[r]? = some .gone) ∧
      ∀ g, v.ownBlock = some g → (∃ (r : Nat) (ab : AB) (c : Nat), h[r]? = some (.live ab) ∧ m[r]? = some (some (g, c))) ∧ ∀ (r : Nat) (ab : AB) (c : Nat), hb[r]? = some (.live ab) → m[r]? = some (some (g, c)) → False := by
  have nil : ∀ (v : Value), v = .slice none 0 0 → ∃ xs : List Value, w.ownsRow 0 e k v 0 xs ∧
      (∀ (i : Nat) (x : List AC), ([] : List (List AC))[i]? = some x → x.length = k ∧ ∀ (j : Nat) (c : AC), x[j]? = some c → ∃ u, xs[i * k + j]? = some u ∧ one u = true ∧ RC F w m h c u) := by
    rintro v rfl
    exact ⟨[], World.ownsRow_nil w 0 e k, fun i x hx => by simp at hx⟩
  cases y with
  | imm u =>
    have hu : v = u := hv
    subst hu
    unfold dstA at hd
    split at hd
    · rename_i heq
      cases heq
      cases hd
      obtain ⟨xs, h1, h2⟩ := nil _ rfl
      exact ⟨xs, h1, h2, rfl, fun r ab hr => hr, fun r hr => hr, fun r ab hr => .inl hr, (fun g hg => by cases hg)⟩
    all_goals (first | (rename_i heq; cases heq; done) | cases hd)
  | own r =>
    simp only [dstA] at hd
    split at hd
    · rename_i ab hr
      split at hd
      · rename_i hte
        obtain ⟨rfl, rfl⟩ := hte
        cases hd
        have hrl : r < h.length := (List.getElem?_eq_some_iff.1 hr).1
        have hget : ∀ r', (h.set r .gone)[r']? = if r = r' then some .gone else h[r']? := fun r' => by
          rw [List.getElem?_set]; split
          · simp [hrl]
          · rfl
        have g1 : ∀ (r' : Nat) (ab' : AB), (h.set r .gone)[r']? = some (.live ab') → h[r']? = some (.live ab') := fun r' ab' hx => by
          rw [hget] at hx; split at hx
          · cases hx
          · exact hx
        have g2 : ∀ r' : Nat, h[r']? = some .gone → (h.set r .gone)[r']? = some .gone := fun r' hx => by
          rw [hget]; split
          · rfl
          · exact hx
        have g3 : ∀ (r' : Nat) (ab' : AB), h[r']? = some (.live ab') → (h.set r .gone)[r']? = some (.live ab') ∨ (h.set r .gone)[r']? = some .gone := fun r' ab' hx => by
          rw [hget]; split
          · exact .inr rfl
          · exact .inl hx
        rcases hv with hg | ⟨ab', h1, ⟨b, cap, h2, rfl⟩ | ⟨h2, h3, rfl⟩⟩
        · rw [hr] at hg; cases hg
        · obtain ⟨rfl, hF, cur, hc, hs, hle, hmx, hcells⟩ := hH.get hr h1 h2
          have hmul : ab'.es.length * ab'.k ≤ cap * ab'.k := Nat.mul_le_mul_right _ hle
          refine ⟨cur.toList.take (ab'.es.length * ab'.k), ⟨by simp; omega, .inr ⟨b, cap, cur, rfl, Nat.zero_le _, hc, hle, hmx, hs, rfl⟩⟩, fun i x hx => ⟨(hcells i x hx).1, fun j c hj => ?_⟩, by simp, g1, g2, g3, fun g hg => ?_⟩
          · obtain ⟨u, hu, ho, hr'⟩ := (hcells i x hx).2 j c hj
            have hil : i < ab'.es.length := (List.getElem?_eq_some_iff.1 hx).1
            have hjl : j < ab'.k := by rw [← (hcells i x hx).1]; exact (List.getElem?_eq_some_iff.1 hj).1
            have : (i + 1) * ab'.k ≤ ab'.es.length * ab'.k := Nat.mul_le_mul_right _ hil
            rw [Nat.add_mul] at this
            exact ⟨u, by rw [List.getElem?_take, if_pos (by omega)]; simpa using hu, ho, hr'⟩
          · have hgb : b = g := by simpa [Value.ownBlock] using hg
            subst hgb
            refine ⟨⟨r, ab', cap, hr, h2⟩, fun r' ab1 c hx hm' => ?_⟩
            rw [hget] at hx
            split at hx
            · cases hx
            · rename_i hne
              exact hne (hH.inj r r' ab' ab1 b cap c hr hx h2 hm')
        · rw [hr] at h1
          cases h1
          have hes : ab.es = [] := List.eq_nil_of_length_eq_zero h3
          obtain ⟨xs, q1, q2⟩ := nil _ rfl
          exact ⟨xs, by rw [h3]; exact q1, by rw [hes]; intro i x hx; simp at hx, by simp, g1, g2, g3, fun g hg => by cases hg⟩
      · cases hd
    · cases hd
  | view xs => cases hd
  | sub r lo nn => cases hd
  | ptr r i off => cases hd
  | eptr cs off => cases hd
  | dead => cases hd
theorem do_append (hT : RTm F w m h T a) (hH : RH F w m h) {o : Oper} {c : Call} {K : AV → AH → Prop} (ho : o.op = .call c) (hp : apA P T h c K) :
    ∃ res h' v w' m', K res h' ∧ (execOp a.eval o).run P w = .ok (.value v) w' ∧ Step F w m h w' m' h' ∧ RV F w' m' h' res v := by
  simp only [apA] at hp
  split at hp
  · rename_i s x t t' hcal harg hty
    obtain ⟨rfl, hp⟩ := hp
    rw [exec_builtin o _ c ho hcal]
    have e1 : c.args.map a.eval = #[a.eval s, a.eval x] := by rw [← Array.toArray_toList (xs := c.args), harg]; simp
    have e2 : c.argTypes = #[t, t] := by rw [← Array.toArray_toList (xs := c.argTypes), hty]
    rw [e1, e2]
    split at hp
    · rename_i y z e k by_ hs hx hE
      obtain ⟨old, hb, ys, z0, hd, hsrc, hyk, hz0, hz0l, hk0, hbytes, hmax, hK⟩ := hp
      obtain ⟨hu, inf, hinf, rfl, rfl⟩ := elem_spec hE
      obtain ⟨inf', zv, hinf', hzv, rfl⟩ := zeroOf_spec hz0
      rw [hinf] at hinf'
      cases hinf'
      obtain ⟨xs, hown, hold, hbl, hlive, hgone, hstay, hblk⟩ := dst_facts hH (ev_t hT hs) hd
      obtain ⟨p, cap, hsv, hsc⟩ := src_val hH (ev_t hT hx) hsrc hyk
      -- the append itself
      obtain ⟨us, v', w', hul, hucell, hrun, hown', hgrow, hnew⟩ : ∃ us v' w', us.length = ys.length * inf.size ∧
          (∀ (i : Nat) (x : List AC), ys[i]? = some x → ∀ (j : Nat) (c : AC), x[j]? = some c → ∃ u, us[i * inf.size + j]? = some u ∧ one u = true ∧ RC F w m h c u) ∧
          (Builtin.append_ #[t, t] o.type #[a.eval s, a.eval x]).run P w = .ok v' w' ∧ w'.ownsRow 0 e inf.size v' (old.length + ys.length) (xs ++ us) ∧ w.grownBy w' (a.eval s).ownBlock ∧
          ∀ g, v'.ownBlock = some g → (a.eval s).ownBlock = some g ∨ w.heap.size ≤ g := by
        by_cases hm : 0 < ys.length
        · obtain ⟨b, oo, rfl, hc⟩ := hsc hm
          obtain ⟨us, h1, h2, h3⟩ := flat_cells hyk hc
          obtain ⟨g, cap', w', hr, q1, q2, q3, q4⟩ := run_append_lies (P := P) (w := w) t o.type 0 e inf zv inf.size inf.bytes hu hinf hzv rfl rfl (by simpa using hz0l) hk0 (a.eval s) old.length xs hown
            ⟨b, oo, none⟩ ys.length cap us h1 (fun j u hj => (h2 j u hj).1) (fun u hu' => by obtain ⟨j, hj, rfl⟩ := List.getElem_of_mem hu'; exact one' (h2 j _ (List.getElem?_eq_getElem hj)).2) hm (by simp only [maxLen]; omega) hbytes (Nat.zero_le _) _ rfl
          refine ⟨us, _, w', h1, h3, by rw [hsv]; exact hr, q1, q2, fun g' hg' => ?_⟩
          have : g = g' := by simpa [Value.ownBlock] using hg'
          subst this
          rcases q3 with q3 | q3
          · exact .inl q3
          · exact .inr (by omega)
        · have hy0 : ys.length = 0 := by omega
          have hys : ys = [] := List.eq_nil_of_length_eq_zero hy0
          subst hys
          refine ⟨[], a.eval s, w, by simp, fun i x hx => by simp at hx, ?_, by simpa using hown, ⟨rfl, rfl, rfl, Nat.le_refl _, fun _ _ _ => rfl⟩, fun g hg => .inl hg⟩
          rw [hsv]
          rcases hown.2 with ⟨hv0, h0⟩ | ⟨g, cap', cur, hv0, _, _, hnc, _⟩
          · rw [hv0]
            cases p <;> simp [Builtin.append_, run_underlying hu, sizeOf, typeInfo, hinf, Builtin.lenOf, Builtin.firstCells, loadCells, loadCellsFrom]
          · rw [hv0]
            cases p <;> simp [Builtin.append_, run_underlying hu, sizeOf, typeInfo, hinf, Builtin.lenOf, Builtin.firstCells, loadCells, loadCellsFrom, hnc, storeCells]
      -- where the new row lies
      have hH2 := hH.len
      have keep : ∀ (q : Option (Nat × Nat)) (ab : AB), Keeps m h (m ++ [q]) (hb ++ [.live ab]) := fun q ab r => by
        refine ⟨fun hg => ?_, fun ab0 hl => ?_⟩
        · rw [List.getElem?_append_left (by rw [hbl]; exact (List.getElem?_eq_some_iff.1 hg).1)]; exact hgone r hg
        · have hrl := (List.getElem?_eq_some_iff.1 hl).1
          rw [List.getElem?_append_left (by rw [hbl]; exact hrl), List.getElem?_append_left (by rw [hH.len]; exact hrl)]
          rcases hstay r ab0 hl with h1 | h1
          · exact .inr ⟨ab0, h1, rfl, rfl, rfl⟩
          · exact .inl h1
      have hfor : ∀ b, F b → w'.heap[b]? = w.heap[b]? := fun b hf => hgrow.block b (hH.old b hf) (fun he => by
        obtain ⟨⟨r, ab, c, h1, h2⟩, _⟩ := hblk b he.symm
        exact (hH.lt h1 h2).1 hf)
      have hcells : ∀ (i : Nat) (x : List AC), (old ++ ys)[i]? = some x → x.length = inf.size ∧ ∀ (j : Nat) (c : AC), x[j]? = some c → ∃ u, (xs ++ us)[i * inf.size + j]? = some u ∧ one u = true ∧ RC F w m h c u := by
        intro i x hx
        by_cases hi : i < old.length
        · rw [List.getElem?_append_left hi] at hx
          refine ⟨(hold i x hx).1, fun j c hj => ?_⟩
          obtain ⟨u, hu', ho', hr'⟩ := (hold i x hx).2 j c hj
          exact ⟨u, by rw [List.getElem?_append_left (List.getElem?_eq_some_iff.1 hu').1]; exact hu', ho', hr'⟩
        · rw [List.getElem?_append_right (by omega)] at hx
          refine ⟨hyk x (List.mem_of_getElem? hx), fun j c hj => ?_⟩
          obtain ⟨u, hu', ho', hr'⟩ := hucell _ x hx j c hj
          refine ⟨u, ?_, ho', hr'⟩
          have hge : old.length * inf.size ≤ i * inf.size := Nat.mul_le_mul_right _ (by omega)
          rw [List.getElem?_append_right (by rw [hown.1]; omega), hown.1]
          have : i * inf.size + j - old.length * inf.size = (i - old.length) * inf.size + j := by rw [Nat.sub_mul]; omega
          rw [this]
          exact hu'
      obtain ⟨q, hq1, hq2, hq3⟩ : ∃ q : Option (Nat × Nat), (q = none → (old ++ ys).length = 0) ∧ (∀ b c, q = some (b, c) → v'.ownBlock = some b ∧ ∃ cur, w'.heap[b]? = some (.cells cur e (0, 0)) ∧ cur.size = c * inf.size ∧ (old ++ ys).length ≤ c ∧ c ≤ maxLen ∧ cur.toList.take ((old ++ ys).length * inf.size) = xs ++ us) ∧
          ((∃ b c, q = some (b, c) ∧ v' = .slice (some ⟨b, 0, none⟩) (old ++ ys).length c) ∨ (q = none ∧ v' = .slice none 0 0)) := by
        rcases hown'.2 with ⟨hv0, h0⟩ | ⟨g, cap', cur, hv0, _, hg, hnc, hcm, hcs, htk⟩
        · exact ⟨none, (fun _ => by simpa using h0), (fun b c hbc => by cases hbc), .inr ⟨rfl, hv0⟩⟩
        · refine ⟨some (g, cap'), (fun hbc => by cases hbc), (fun b c hbc => ?_), .inl ⟨g, cap', rfl, by rw [hv0]; simp⟩⟩
          cases hbc
          exact ⟨by rw [hv0]; rfl, cur, hg, hcs, by simpa using hnc, hcm, by simpa using htk⟩
      have hnewlt : ∀ (r b c : Nat) (ab : AB), hb[r]? = some (.live ab) → m[r]? = some (some (b, c)) → b < w.heap.size ∧ some b ≠ (a.eval s).ownBlock := fun r b c ab h1 h2 =>
        ⟨(hH.lt (hlive r ab h1) h2).2, fun he => (hblk b he.symm).2 r ab c h1 h2⟩
      have hqn : ∀ b c, q = some (b, c) → ∀ (r c' : Nat) (ab : AB), hb[r]? = some (.live ab) → m[r]? = some (some (b, c')) → False := fun b c hbc r c' ab h1 h2 => by
        obtain ⟨h3, h4⟩ := hnewlt r b c' ab h1 h2
        rcases hnew b (hq2 b c hbc).1 with h5 | h5
        · exact h4 h5.symm
        · omega
      have hget : ∀ (r : Nat) (ab : AB), (hb ++ [AE.live ⟨e, inf.size, old ++ ys⟩])[r]? = some (.live ab) → (r < h.length ∧ hb[r]? = some (.live ab) ∧ (m ++ [q])[r]? = m[r]?) ∨ (r = h.length ∧ ab = ⟨e, inf.size, old ++ ys⟩ ∧ (m ++ [q])[r]? = some q) := fun r ab hr => by
        by_cases hrl : r < h.length
        · rw [List.getElem?_append_left (by rw [hbl]; exact hrl)] at hr
          exact .inl ⟨hrl, hr, List.getElem?_append_left (by rw [hH.len]; exact hrl)⟩
        · rw [List.getElem?_append_right (by rw [hbl]; omega), hbl] at hr
          have h0 : r - h.length = 0 := by
            have := (List.getElem?_eq_some_iff.1 hr).1
            simp at this; omega
          have : r = h.length := by omega
          subst this
          simp at hr
          exact .inr ⟨rfl, hr.symm, by rw [List.getElem?_append_right (by rw [hH.len]; omega), hH.len]; simp⟩
      refine ⟨_, _, v', w', m ++ [q], hK, run_v hrun, ⟨⟨fun r ab hr => ?_, fun r r' ab ab' b c c' h1 h2 h3 h4 => ?_, by simp [hH.len, hbl], fun b hf => Nat.lt_of_lt_of_le (hH.old b hf) hgrow.size⟩, keep q _, hgrow.os, hgrow.tape, hgrow.output, hgrow.size, fun b hlt hn => hgrow.block b hlt (fun he => ?_), fun r ab b c h1 h2 => ?_⟩, .inr ⟨_, by rw [List.getElem?_append_right (by omega), hbl]; simp; rfl, ?_⟩⟩
      · rcases hget r ab hr with ⟨hrl, h1, h2⟩ | ⟨rfl, rfl, h2⟩
        · rw [h2]
          rcases hH.at_ r ab (hlive r ab h1) with h3 | ⟨b, c, h3, h4, h5⟩
          · exact .inl h3
          · exact .inr ⟨b, c, h3, h4, RB.ext (fun _ hf => hf) hfor (keep q _) (hgrow.block b (hnewlt r b c ab h1 h3).1 (hnewlt r b c ab h1 h3).2) h5⟩
        · rw [h2]
          cases hqq : q with
          | none => exact .inl ⟨rfl, hq1 hqq⟩
          | some bc =>
            obtain ⟨b, c⟩ := bc
            obtain ⟨g1, cur, g2, g3, g4, g5, g6⟩ := hq2 b c hqq
            refine .inr ⟨b, c, rfl, fun hf => ?_, cur, g2, g3, g4, g5, fun i x hx => ⟨(hcells i x hx).1, fun j cc hj => ?_⟩⟩
            · rcases hnew b g1 with h5 | h5
              · obtain ⟨⟨r, ab, c0, h6, h7⟩, _⟩ := hblk b h5
                exact (hH.lt h6 h7).1 hf
              · have := hH.old b hf; omega
            · obtain ⟨u, hu', ho', hr'⟩ := (hcells i x hx).2 j cc hj
              refine ⟨u, ?_, ho', RC.ext (fun _ hf => hf) hfor (keep _ _) hr'⟩
              rw [← g6, List.getElem?_take] at hu'
              split at hu'
              · simpa using hu'
              · cases hu'
      · rcases hget r ab h1 with ⟨_, h5, h6⟩ | ⟨rfl, rfl, h6⟩ <;> rcases hget r' ab' h2 with ⟨_, g5, g6⟩ | ⟨rfl, rfl, g6⟩
        · rw [h6] at h3; rw [g6] at h4
          exact hH.inj r r' ab ab' b c c' (hlive _ _ h5) (hlive _ _ g5) h3 h4
        · rw [h6] at h3; rw [g6] at h4
          exact (hqn b c' (Option.some.inj h4) r c ab h5 h3).elim
        · rw [h6] at h3; rw [g6] at h4
          exact (hqn b c (Option.some.inj h3) r' c' ab' g5 h4).elim
        · rfl
      · obtain ⟨⟨r, ab, c, h1, h2⟩, _⟩ := hblk b he.symm
        exact hn r ab c h1 h2
      · rcases hget r ab h1 with ⟨_, h5, h6⟩ | ⟨rfl, rfl, h6⟩
        · rw [h6] at h2
          exact .inl ⟨r, ab, c, hlive r ab h5, h2⟩
        · rw [h6] at h2
          rcases hnew b (hq2 b c (Option.some.inj h2)).1 with h7 | h7
          · obtain ⟨⟨r0, ab0, c0, h8, h9⟩, _⟩ := hblk b h7
            exact .inl ⟨r0, ab0, c0, h8, h9⟩
          · exact .inr h7
      · have hmq : (m ++ [q])[h.length]? = some q := by rw [List.getElem?_append_right (by rw [hH.len]; omega), hH.len]; simp
        rcases hq3 with ⟨b, c, hq, hv⟩ | ⟨hq, hv⟩
        · exact .inl ⟨b, c, by rw [hmq, hq], hv⟩
        · exact .inr ⟨by rw [hmq, hq], hq1 hq, hv⟩
    · exact hp.elim
  · exact hp.elim
end
end Go.Proofs.YtgcofllgbdcicaaGreat.Am
