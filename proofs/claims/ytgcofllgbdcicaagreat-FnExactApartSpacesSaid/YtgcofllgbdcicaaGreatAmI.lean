/- A part of AM, a framework of the prover own: functions of any program as maps of data. -/
import Derived.Test.YtgcofllgbdcicaaGreatAmH
import Derived.Deep.AppendLies
namespace Go.Proofs.YtgcofllgbdcicaaGreat.Am
open Go.RowKit
set_option linter.unusedVariables false
set_option linter.unusedSimpArgs false

/-- From one own heap in its world to a later one: what it was told to keep is kept, nothing beside it has turned. -/
structure Step (F : Nat → Prop) (w : World) (m : AM) (h : AH) (w' : World) (m' : AM) (h' : AH) : Prop where
  hp : RH F w' m' h'
  keeps : Keeps m h m' h'
  os : w'.os = w.os
  tape : w'.tape = w.tape
  output : w'.output = w.output
  size : w.heap.size ≤ w'.heap.size
  blk : ∀ b, b < w.heap.size → (∀ (r : Nat) (ab : AB) (c : Nat), h[r]? = some (.live ab) → m[r]? ≠ some (some (b, c))) → w'.heap[b]? = w.heap[b]?
  own : ∀ (r : Nat) (ab : AB) (b c : Nat), h'[r]? = some (.live ab) → m'[r]? = some (some (b, c)) → (∃ (r0 : Nat) (ab0 : AB) (c0 : Nat), h[r0]? = some (.live ab0) ∧ m[r0]? = some (some (b, c0))) ∨ w.heap.size ≤ b
section
variable {F F' : Nat → Prop} {w w' w'' : World} {m m' m'' : AM} {h h' h'' : AH}
theorem RH.lt (hH : RH F w m h) {r : Nat} {ab : AB} {b c : Nat} (h1 : h[r]? = some (.live ab)) (h2 : m[r]? = some (some (b, c))) : ¬ F b ∧ b < w.heap.size := by
  obtain ⟨_, hF, cur, hc, _⟩ := hH.get h1 h1 h2
  exact ⟨hF, (Array.getElem?_eq_some_iff.1 hc).1⟩
theorem Step.refl (hH : RH F w m h) : Step F w m h w m h := ⟨hH, Keeps.refl m h, rfl, rfl, rfl, Nat.le_refl _, fun _ _ _ => rfl, fun r ab b c h1 h2 => .inl ⟨r, ab, c, h1, h2⟩⟩
theorem Keeps.trans (k1 : Keeps m h m' h') (k2 : Keeps m' h' m'' h'') : Keeps m h m'' h'' := fun r => by
  refine ⟨fun hg => (k2 r).1 ((k1 r).1 hg), fun ab hl => ?_⟩
  rcases (k1 r).2 ab hl with hg | ⟨ab', h1, h2, h3, h4⟩
  · exact .inl ((k2 r).1 hg)
  · rcases (k2 r).2 ab' h1 with hg | ⟨ab'', h5, h6, h7, h8⟩
    · exact .inl hg
    · exact .inr ⟨ab'', h5, h6.trans h2, h7.trans h3, h8.trans h4⟩
theorem Step.trans {F1 : Nat → Prop} (s1 : Step F1 w m h w' m' h') (s2 : Step F w' m' h' w'' m'' h'') : Step F w m h w'' m'' h'' := by
  refine ⟨s2.hp, s1.keeps.trans s2.keeps, s2.os.trans s1.os, s2.tape.trans s1.tape, s2.output.trans s1.output, Nat.le_trans s1.size s2.size, fun b hb hn => ?_, fun r ab b c h1 h2 => ?_⟩
  · rw [s2.blk b (Nat.lt_of_lt_of_le hb s1.size) (fun r ab c h1 h2 => ?_), s1.blk b hb hn]
    rcases s1.own r ab b c h1 h2 with ⟨r0, ab0, c0, h3, h4⟩ | h3
    · exact hn r0 ab0 c0 h3 h4
    · omega
  · rcases s2.own r ab b c h1 h2 with ⟨r0, ab0, c0, h3, h4⟩ | h3
    · exact s1.own r0 ab0 b c0 h3 h4
    · exact .inr (Nat.le_trans s1.size h3)
theorem Step.foreign {F1 : Nat → Prop} (s : Step F1 w m h w' m' h') (hH : RH F w m h) : ∀ b, F b → w'.heap[b]? = w.heap[b]? := fun b hb =>
  s.blk b (hH.old b hb) (fun r ab c h1 h2 => (hH.lt h1 h2).1 hb)
theorem RV.step (s : Step F w m h w' m' h') (hH : RH F w m h) {x : AV} {v : Value} (hv : RV F w m h x v) : RV F w' m' h' x v := RV.ext (fun _ hb => hb) (s.foreign hH) s.keeps hv
/-- What is frozen beside what was: new blocks, and one's own. -/
def Grow (F F' : Nat → Prop) (w : World) (m : AM) (h : AH) : Prop :=
  (∀ b, F b → F' b) ∧ ∀ b, F' b → F b ∨ w.heap.size ≤ b ∨ ∃ (r : Nat) (ab : AB) (c : Nat), h[r]? = some (.live ab) ∧ m[r]? = some (some (b, c))
theorem Grow.refl (F : Nat → Prop) (w : World) (m : AM) (h : AH) : Grow F F w m h := ⟨fun _ h => h, fun _ h => .inl h⟩
theorem Grow.trans {F1 F2 F3 Fs : Nat → Prop} (g1 : Grow F1 F2 w m h) (s : Step Fs w m h w' m' h') (g2 : Grow F2 F3 w' m' h') : Grow F1 F3 w m h :=
  ⟨fun b hb => g2.1 b (g1.1 b hb), fun b hb => by
    rcases g2.2 b hb with h1 | h1 | ⟨r, ab, c, h1, h2⟩
    · exact g1.2 b h1
    · exact .inr (.inl (Nat.le_trans s.size h1))
    · rcases s.own r ab b c h1 h2 with ⟨r0, ab0, c0, h3, h4⟩ | h3
      · exact .inr (.inr ⟨r0, ab0, c0, h3, h4⟩)
      · exact .inr (.inl h3)⟩
theorem RV.stepG (s : Step F' w m h w' m' h') (hF : ∀ b, F b → F' b) (hH : RH F w m h) {x : AV} {v : Value} (hv : RV F w m h x v) : RV F' w' m' h' x v := RV.ext hF (s.foreign hH) s.keeps hv
theorem RT.stepG (s : Step F' w m h w' m' h') (hF : ∀ b, F b → F' b) (hH : RH F w m h) {x : AT} {v : Value} (hv : RT F w m h x v) : RT F' w' m' h' x v := RT.ext hF (s.foreign hH) s.keeps hv
theorem RT.step (s : Step F w m h w' m' h') (hH : RH F w m h) {x : AT} {v : Value} (hv : RT F w m h x v) : RT F w' m' h' x v := RT.ext (fun _ hb => hb) (s.foreign hH) s.keeps hv

theorem live_append {rows : List AB} {r : Nat} {ab : AB} (h1 : (h ++ rows.map .live)[r]? = some (.live ab)) : (r < h.length ∧ h[r]? = some (.live ab)) ∨ (h.length ≤ r ∧ rows[r - h.length]? = some ab) := by
  by_cases hr : r < h.length
  · rw [List.getElem?_append_left hr] at h1; exact .inl ⟨hr, h1⟩
  · rw [List.getElem?_append_right (by omega)] at h1
    simp only [List.getElem?_map, Option.map_eq_some_iff] at h1
    obtain ⟨x, hx, he⟩ := h1
    cases he
    exact .inr ⟨by omega, hx⟩
theorem keeps_append {nb : AM} {rows : List AE} (hl : m.length = h.length) : Keeps m h (m ++ nb) (h ++ rows) := fun r => by
  refine ⟨fun hg => ?_, fun ab hr => .inr ⟨ab, ?_, rfl, rfl, ?_⟩⟩
  · rw [List.getElem?_append_left (List.getElem?_eq_some_iff.1 hg).1]; exact hg
  · rw [List.getElem?_append_left (List.getElem?_eq_some_iff.1 hr).1]; exact hr
  · have := (List.getElem?_eq_some_iff.1 hr).1
    rw [List.getElem?_append_left (by omega)]
/-- An operation that writes nothing is a step. -/
theorem Step.of_out (hH : RH F w m h) {res : AV} {rows : List AB} {v : Value} (ho : Out F w m h h.length res rows v w') : ∃ m', Step F w m h w' m' (h ++ rows.map .live) ∧ RV F w' m' (h ++ rows.map .live) res v := by
  obtain ⟨hb, nb, hnl, hnb, hnd, hout⟩ := ho
  have hpl : ∀ (j : Nat) (ab : AB), rows[j]? = some ab → (h ++ rows.map .live)[h.length + j]? = some (.live ab) ∧ (m ++ nb)[h.length + j]? = nb[j]? := fun j ab hj => by
    refine ⟨by rw [List.getElem?_append_right (by omega)]; simp [hj], ?_⟩
    rw [List.getElem?_append_right (by rw [hH.len]; omega), hH.len]
    congr 1
    omega
  have hk : Keeps m h (m ++ nb) (h ++ rows.map .live) := keeps_append hH.len
  obtain ⟨hv, hne, hrb⟩ := hout (m ++ nb) (h ++ rows.map .live) hk hpl
  have split : ∀ (r b c : Nat) (ab : AB), (h ++ rows.map .live)[r]? = some (.live ab) → (m ++ nb)[r]? = some (some (b, c)) → (h[r]? = some (.live ab) ∧ m[r]? = some (some (b, c))) ∨ (h.length ≤ r ∧ rows[r - h.length]? = some ab ∧ nb[r - h.length]? = some (some (b, c))) := by
    intro r b c ab h1 h2
    rcases live_append h1 with ⟨hr, h3⟩ | ⟨hr, h3⟩
    · rw [List.getElem?_append_left (by rw [hH.len]; exact hr)] at h2; exact .inl ⟨h3, h2⟩
    · rw [List.getElem?_append_right (by rw [hH.len]; exact hr), hH.len] at h2; exact .inr ⟨hr, h3, h2⟩
  have hfor : ∀ b, F b → w'.heap[b]? = w.heap[b]? := fun b hf => hb.block b (hH.old b hf)
  refine ⟨m ++ nb, ⟨⟨fun r ab h1 => ?_, fun r r' ab ab' b c c' h1 h2 h3 h4 => ?_, by simp [hH.len, hnl], fun b hf => Nat.lt_of_lt_of_le (hH.old b hf) hb.size⟩, hk, hb.os, hb.tape, hb.output, hb.size, fun b hlt _ => hb.block b hlt, fun r ab b c h1 h2 => ?_⟩, hv⟩
  · rcases live_append h1 with ⟨hr, h3⟩ | ⟨hr, h3⟩
    · rcases hH.at_ r ab h3 with ⟨h4, h5⟩ | ⟨b, c, h4, h5, h6⟩
      · exact .inl ⟨by rw [List.getElem?_append_left (by rw [hH.len]; exact hr)]; exact h4, h5⟩
      · have hlt := (hH.lt h3 h4).2
        exact .inr ⟨b, c, by rw [List.getElem?_append_left (by rw [hH.len]; exact hr)]; exact h4, h5, RB.ext (fun _ hf => hf) hfor hk (hb.block b hlt) h6⟩
    · have hm : (m ++ nb)[r]? = nb[r - h.length]? := by rw [List.getElem?_append_right (by rw [hH.len]; exact hr), hH.len]
      have hjl : r - h.length < nb.length := by rw [hnl]; exact (List.getElem?_eq_some_iff.1 h3).1
      rw [hm]
      cases hq : nb[r - h.length]? with
      | none => rw [List.getElem?_eq_none_iff] at hq; omega
      | some q =>
        cases q with
        | none => exact .inl ⟨rfl, hne _ _ h3 hq⟩
        | some bc =>
          obtain ⟨b, c⟩ := bc
          refine .inr ⟨b, c, rfl, fun hf => ?_, hrb _ _ _ _ h3 hq⟩
          have := (hnb _ _ _ hq).1
          have := hH.old b hf
          omega
  · rcases split r b c ab h1 h3 with ⟨h5, h6⟩ | ⟨h5, h6, h7⟩ <;> rcases split r' b c' ab' h2 h4 with ⟨g5, g6⟩ | ⟨g5, g6, g7⟩
    · exact hH.inj r r' ab ab' b c c' h5 g5 h6 g6
    · have := (hH.lt h5 h6).2; have := (hnb _ _ _ g7).1; omega
    · have := (hH.lt g5 g6).2; have := (hnb _ _ _ h7).1; omega
    · have := hnd _ _ _ _ _ h7 g7; omega
  · rcases split r b c ab h1 h2 with ⟨h5, h6⟩ | ⟨h5, h6, h7⟩
    · exact .inl ⟨r, ab, c, h5, h6⟩
    · exact .inr (hnb _ _ _ h7).1
/-- One own block holds something else. -/
theorem Step.update (hH : RH F w m h) {r b cap : Nat} {ab ab' : AB} {cur : Array Value} (h1 : h[r]? = some (.live ab)) (h2 : m[r]? = some (some (b, cap))) (hk : ab'.k = ab.k) (ht : ab'.ty = ab.ty) (hl : ab'.es.length = ab.es.length)
    (hs : cur.size = cap * ab.k) (he : ∀ (i : Nat) (x : List AC), ab'.es[i]? = some x → x.length = ab.k ∧ ∀ (j : Nat) (c : AC), x[j]? = some c → ∃ u, cur[i * ab.k + j]? = some u ∧ one u = true ∧ RC F w m h c u) :
    Step F w m h (w.setRow b cur) m (h.set r (.live ab')) := by
  obtain ⟨_, hF, cur0, hc0, hs0, hle, hmx, hcells⟩ := hH.get h1 h1 h2
  have hblt : b < w.heap.size := (hH.lt h1 h2).2
  have hrl : r < h.length := (List.getElem?_eq_some_iff.1 h1).1
  have hother : ∀ b', b' ≠ b → (w.setRow b cur).heap[b']? = w.heap[b']? := fun b' hne => setRow_other w b b' cur hne
  have hget : ∀ r', (h.set r (.live ab'))[r']? = if r = r' then some (.live ab') else h[r']? := fun r' => by
    rw [List.getElem?_set]; split
    · simp [hrl]
    · rfl
  have hkeep : Keeps m h m (h.set r (.live ab')) := fun r' => by
    rw [hget r']
    refine ⟨fun hg => ?_, fun ab1 hr => .inr ?_⟩
    · rw [if_neg (by rintro rfl; rw [h1] at hg; cases hg)]; exact hg
    · by_cases hrr : r = r'
      · subst hrr; rw [h1] at hr; cases hr; exact ⟨ab', by rw [if_pos rfl], hk, hl, rfl⟩
      · exact ⟨ab1, by rw [if_neg hrr]; exact hr, rfl, rfl, rfl⟩
  have hfor : ∀ b', F b' → (w.setRow b cur).heap[b']? = w.heap[b']? := fun b' hf => hother b' (fun e => hF (e ▸ hf))
  refine ⟨⟨fun r' ab1 hr => ?_, fun r1 r2 ab1 ab2 b' c c' e1 e2 e3 e4 => ?_, by simp [hH.len], fun b' hf => by simpa using hH.old b' hf⟩, hkeep, rfl, rfl, rfl, by simp, fun b' hlt hn => hother b' (fun e => hn r ab cap h1 (e ▸ h2)), fun r' ab1 b' c hr hm => ?_⟩
  · rw [hget r'] at hr
    by_cases hrr : r = r'
    · subst hrr
      rw [if_pos rfl] at hr
      cases hr
      refine .inr ⟨b, cap, h2, hF, cur, ?_, by rw [hk]; exact hs, by rw [hl]; exact hle, hmx, fun i x hx => ?_⟩
      · rw [ht]; exact setRow_heap w b cur0 cur ab.ty _ hc0
      · rw [hk]
        exact ⟨(he i x hx).1, fun j c hj => let ⟨u, hu, ho, hr⟩ := (he i x hx).2 j c hj; ⟨u, hu, ho, RC.ext (fun _ hf => hf) hfor hkeep hr⟩⟩
    · rw [if_neg hrr] at hr
      rcases hH.at_ r' ab1 hr with h3 | ⟨b', c, h3, h4, h5⟩
      · exact .inl h3
      · exact .inr ⟨b', c, h3, h4, RB.ext (fun _ hf => hf) hfor hkeep (hother b' (fun e => hrr (hH.inj r r' ab ab1 b cap c h1 hr h2 (e ▸ h3)))) h5⟩
  · have live : ∀ (r' : Nat) (ab1 : AB), (h.set r (.live ab'))[r']? = some (.live ab1) → ∃ ab0 : AB, h[r']? = some (.live ab0) := by
      intro r' ab1 hr
      rw [hget r'] at hr
      by_cases hrr : r = r'
      · subst hrr; exact ⟨ab, h1⟩
      · rw [if_neg hrr] at hr; exact ⟨ab1, hr⟩
    obtain ⟨a1, g1⟩ := live r1 ab1 e1
    obtain ⟨a2, g2⟩ := live r2 ab2 e2
    exact hH.inj r1 r2 a1 a2 b' c c' g1 g2 e3 e4
  · left
    rw [hget r'] at hr
    by_cases hrr : r = r'
    · subst hrr; exact ⟨r, ab, c, h1, hm⟩
    · rw [if_neg hrr] at hr; exact ⟨r', ab1, c, hr, hm⟩

/-- A store into an own block. -/
def stA (P : Program) (T : Nat → AV) (h : AH) (t : TypeId) (x y : Operand) (K : AH → Prop) : Prop :=
  match ev T x, ev T y, sizeOfT P t with
  | .t (.c (.ptr r i off)), .t v, some k => match h[r]? with
    | some (.live ab) => ∃ e, ab.es[i]? = some e ∧ v.cells.length = k ∧ off + k ≤ e.length ∧ v.cells.all (okc h) = true ∧ K (h.set r (.live ⟨ab.ty, ab.k, ab.es.set i (setAt e off v.cells)⟩))
    | _ => False
  | _, _, _ => False
theorem one' {v : Value} (h : one v = true) : v.oneCell' = true := by cases v <;> first | rfl | cases h
variable {P : Program} {T : Nat → AV} {a : Act}
theorem do_store (hT : RTm F w m h T a) (hH : RH F w m h) {t : TypeId} {x y : Operand} {K : AH → Prop} (hp : stA P T h t x y K) :
    ∃ h' w', K h' ∧ (Instr.storeAt t (a.eval x) (a.eval y)).run P w = .ok () w' ∧ Step F w m h w' m h' := by
  simp only [stA] at hp
  split at hp
  · rename_i r i off v k hx hy hk
    split at hp
    · rename_i ab hr
      obtain ⟨e, he, hl, hle, ho, hK⟩ := hp
      rcases ev_t hT hx with hg | ⟨ab', b, cap, h1, h2, h3⟩
      · rw [hr] at hg; cases hg
      · obtain ⟨rfl, hF, cur, hc, hs, hle2, hmx, hcells⟩ := hH.get hr h1 h2
        have hv := RL.of (Cp.refl h) (ev_t hT hy) ho
        obtain ⟨he1, he2⟩ := hcells i e he
        obtain ⟨inf, hinf, rfl⟩ := size_spec hk
        have hil : i < ab'.es.length := (List.getElem?_eq_some_iff.1 he).1
        have hmul : (i + 1) * ab'.k ≤ cap * ab'.k := Nat.mul_le_mul_right _ (by omega)
        rw [Nat.add_mul] at hmul
        have hvl : (a.eval y).cells.toList.length = inf.size := by rw [Array.length_toList, hv.1, hl]
        have hrun := run_storeCells_at P b (i * ab'.k + off) ab'.ty (a.eval y).cells.toList 0 cur w hc (by rw [hvl]; omega) (fun u hu => by
          obtain ⟨j, hj, rfl⟩ := List.getElem_of_mem hu
          have hjl : j < v.cells.length := by rw [hl]; omega
          obtain ⟨u', hu', ho', _⟩ := hv.2 j _ (List.getElem?_eq_getElem hjl)
          rw [Array.getElem?_eq_getElem (by simpa using hj)] at hu'
          cases hu'
          exact one' ho')
        refine ⟨_, _, hK, ?_, Step.update hH hr h2 (cur := (cur.toList.take (i * ab'.k + off + 0) ++ (a.eval y).cells.toList ++ cur.toList.drop (i * ab'.k + off + 0 + (a.eval y).cells.toList.length)).toArray) rfl rfl (by simp) ?_ (fun p x hx => ?_)⟩
        · simp [Instr.storeAt, h3, Instr.sureAddr, storeVar, sizeOf, typeInfo, hinf, hv.1, hl]
          have hvs : (a.eval y).cells.size = inf.size := by simpa using hvl
          simpa [hvs] using hrun
        · simp only [List.size_toArray, List.length_append, List.length_take, List.length_drop, Array.length_toList, hvl]
          omega
        · rw [List.getElem?_set] at hx
          have hget : ∀ q, ((cur.toList.take (i * ab'.k + off + 0) ++ (a.eval y).cells.toList ++ cur.toList.drop (i * ab'.k + off + 0 + (a.eval y).cells.toList.length)).toArray)[q]? =
              if i * ab'.k + off ≤ q ∧ q < i * ab'.k + off + inf.size then (a.eval y).cells[q - (i * ab'.k + off)]? else cur[q]? := by
            intro q
            have hcl : cur.toList.length = cap * ab'.k := by simpa using hs
            simp only [List.getElem?_toArray, Nat.add_zero]
            by_cases hq : q < i * ab'.k + off
            · rw [if_neg (by omega), List.append_assoc, List.getElem?_append_left (by simp; omega), List.getElem?_take, if_pos hq]; simp
            · by_cases hq2 : q < i * ab'.k + off + inf.size
              · rw [if_pos (by omega), List.append_assoc, List.getElem?_append_right (by simp; omega), List.getElem?_append_left (by simp only [List.length_take, hvl]; omega)]
                have : q - (cur.toList.take (i * ab'.k + off)).length = q - (i * ab'.k + off) := by simp only [List.length_take]; omega
                rw [this]; simp
              · rw [if_neg (by omega), List.getElem?_append_right (by simp only [List.length_append, List.length_take, hvl]; omega)]
                simp only [List.length_append, List.length_take, List.getElem?_drop, hvl]
                rw [show i * ab'.k + off + inf.size + (q - (min (i * ab'.k + off) cur.toList.length + inf.size)) = q by omega]; simp
          by_cases hip : i = p
          · subst hip
            rw [if_pos rfl, if_pos hil] at hx
            cases hx
            refine ⟨by simp [setAt]; omega, fun j c hj => ?_⟩
            rw [hget]
            unfold setAt at hj
            by_cases hc1 : off ≤ j ∧ j < off + inf.size
            · rw [if_pos (by omega), show i * ab'.k + j - (i * ab'.k + off) = j - off by omega]
              refine hv.2 (j - off) c ?_
              rw [List.append_assoc, List.getElem?_append_right (by simp; omega), List.getElem?_append_left (by simp only [List.length_take, hl]; omega)] at hj
              rwa [show j - (e.take off).length = j - off by simp only [List.length_take]; omega] at hj
            · rw [if_neg (by omega)]
              refine he2 j c ?_
              have hjl : j < e.length := by
                have := (List.getElem?_eq_some_iff.1 hj).1
                simp at this; omega
              by_cases hlt : j < off
              · rw [List.append_assoc, List.getElem?_append_left (by simp; omega), List.getElem?_take, if_pos hlt] at hj; exact hj
              · rw [List.getElem?_append_right (by simp only [List.length_append, List.length_take, hl]; omega)] at hj
                simp only [List.length_append, List.length_take, List.getElem?_drop, hl] at hj
                rwa [show off + inf.size + (j - (min off e.length + inf.size)) = j by omega] at hj
          · rw [if_neg hip] at hx
            obtain ⟨g1, g2⟩ := hcells p x hx
            refine ⟨g1, fun j c hj => ?_⟩
            have hjl : j < x.length := (List.getElem?_eq_some_iff.1 hj).1
            rw [hget, if_neg]
            · exact g2 j c hj
            · rcases Nat.lt_or_gt_of_ne hip with hlt | hlt
              · have : (i + 1) * ab'.k ≤ p * ab'.k := Nat.mul_le_mul_right _ hlt
                rw [Nat.add_mul] at this; omega
              · have : (p + 1) * ab'.k ≤ i * ab'.k := Nat.mul_le_mul_right _ hlt
                rw [Nat.add_mul] at this; omega
    · exact hp.elim
  · exact hp.elim
end
end Go.Proofs.YtgcofllgbdcicaaGreat.Am
