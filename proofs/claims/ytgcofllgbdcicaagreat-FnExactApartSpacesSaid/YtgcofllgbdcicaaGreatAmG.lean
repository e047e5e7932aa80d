/- A part of AM, a framework of the prover own: functions of any program as maps of data. -/
import Derived.Test.YtgcofllgbdcicaaGreatAmF
namespace Go.Proofs.YtgcofllgbdcicaaGreat.Am
open Go.RowKit
set_option linter.unusedVariables false
set_option linter.unusedSimpArgs false
section
variable {P : Program} {F : Nat → Prop} {w : World} {m : AM} {g h : AH} {n : Nat} {T : Nat → AV} {a : Act} {K : AV → List AB → Prop}

/-- A row of cells put into another one. -/
def putAt (cur : Array Value) (o : Nat) (vs : Array Value) : Array Value := vs.zipIdx.foldl (fun cs (c, j) => cs.setIfInBounds (o + j) c) cur
theorem putL (o : Nat) : ∀ (l : List Value) (k : Nat) (cur : Array Value), (((l.zipIdx k).foldl (fun (cs : Array Value) (x : Value × Nat) => cs.setIfInBounds (o + x.2) x.1) cur).size = cur.size) ∧
    ∀ p, ((l.zipIdx k).foldl (fun (cs : Array Value) (x : Value × Nat) => cs.setIfInBounds (o + x.2) x.1) cur)[p]? = if o + k ≤ p ∧ p < o + k + l.length ∧ p < cur.size then l[p - (o + k)]? else cur[p]?
  | [], k, cur => ⟨rfl, fun p => by simp only [List.zipIdx_nil, List.foldl_nil, List.length_nil]; rw [if_neg (by omega)]⟩
  | v :: l, k, cur => by
    have ih := putL o l (k + 1) (cur.setIfInBounds (o + k) v)
    simp only [List.zipIdx_cons, List.foldl_cons]
    refine ⟨by rw [ih.1]; simp, fun p => ?_⟩
    rw [ih.2 p]
    simp only [Array.size_setIfInBounds, List.length_cons]
    by_cases hp : p = o + k
    · subst hp
      by_cases hs : o + k < cur.size
      · rw [if_neg (by omega), if_pos (by omega), Array.getElem?_setIfInBounds, if_pos rfl, if_pos hs]; simp
      · rw [if_neg (by omega), if_neg (by omega), Array.getElem?_setIfInBounds, if_pos rfl, if_neg hs]; simp; omega
    · by_cases hc : o + (k + 1) ≤ p ∧ p < o + (k + 1) + l.length ∧ p < cur.size
      · rw [if_pos hc, if_pos (by omega), show p - (o + k) = p - (o + (k + 1)) + 1 by omega]; rfl
      · rw [if_neg hc, if_neg (by omega), Array.getElem?_setIfInBounds, if_neg (by omega)]
theorem putAt_eq (cur : Array Value) (o : Nat) (vs : Array Value) : putAt cur o vs = (vs.toList.zipIdx 0).foldl (fun (cs : Array Value) (x : Value × Nat) => cs.setIfInBounds (o + x.2) x.1) cur := by
  unfold putAt
  rw [← Array.foldl_toList, Array.toList_zipIdx]
theorem putAt_size (cur : Array Value) (o : Nat) (vs : Array Value) : (putAt cur o vs).size = cur.size := by rw [putAt_eq]; exact (putL o vs.toList 0 cur).1
theorem putAt_get (cur : Array Value) (o : Nat) (vs : Array Value) (p : Nat) : (putAt cur o vs)[p]? = if o ≤ p ∧ p < o + vs.size ∧ p < cur.size then vs[p - o]? else cur[p]? := by
  rw [putAt_eq, (putL o vs.toList 0 cur).2 p]; simp

/-- Cells in a row, as they are meant. -/
def RL (F : Nat → Prop) (w : World) (m : AM) (h : AH) (xs : List AC) (cur : Array Value) : Prop := cur.size = xs.length ∧ ∀ (j : Nat) (c : AC), xs[j]? = some c → ∃ u, cur[j]? = some u ∧ one u = true ∧ RC F w m h c u
theorem RL.put {xs ys : List AC} {cur vs : Array Value} {d : Nat} (h1 : RL F w m h xs cur) (h2 : RL F w m h ys vs) (hd : d + ys.length ≤ xs.length) : RL F w m h (setAt xs d ys) (putAt cur d vs) := by
  refine ⟨by rw [putAt_size, h1.1]; simp [setAt]; omega, fun j c hj => ?_⟩
  rw [putAt_get]
  unfold setAt at hj
  by_cases hc : d ≤ j ∧ j < d + vs.size ∧ j < cur.size
  · rw [if_pos hc]
    refine h2.2 (j - d) c ?_
    rw [List.append_assoc, List.getElem?_append_right (by simp; omega), List.getElem?_append_left (by simp [← h2.1]; omega)] at hj
    have : j - (xs.take d).length = j - d := by simp; omega
    rwa [this] at hj
  · rw [if_neg hc]
    refine h1.2 j c ?_
    rw [h2.1, h1.1] at hc
    have hjl : j < xs.length := by
      have := (List.getElem?_eq_some_iff.1 hj).1
      simp at this; omega
    by_cases hlt : j < d
    · rw [List.append_assoc, List.getElem?_append_left (by simp; omega), List.getElem?_take, if_pos hlt] at hj
      exact hj
    · rw [List.getElem?_append_right (by simp; omega)] at hj
      simp only [List.length_append, List.length_take, List.getElem?_drop] at hj
      rwa [show d + ys.length + (j - (min d xs.length + ys.length)) = j by omega] at hj
theorem RL.zero {z : List Value} (h1 : z.all one = true) : RL F w m h (z.map .imm) z.toArray := ⟨by simp, fun j c hj => by
  simp only [List.getElem?_map, Option.map_eq_some_iff] at hj
  obtain ⟨u, hu, rfl⟩ := hj
  exact ⟨u, by simpa using hu, all_one h1 hu, rfl⟩⟩
theorem RL.of (hC : Cp g h) {y : AT} {v : Value} (hv : RT F w m h y v) (ho : y.cells.all (okc g) = true) : RL F w m h y.cells v.cells := cells_of hC hv ho

theorem fill_sound (hC : Cp g h) (hT : RTm F w m h T a) {t : TypeId} {fs : Array Field} (hu : P.underlying t = some (.struct fs)) {places : Array (Nat × Nat)} (hpl : ∀ (i : Nat) (f : Field) (j : TypeInfo), fs[i]? = some f → P.info? f.type = some j → places[i]? = some (f.offset, j.size)) :
    ∀ (ps : List (Nat × Operand)) (cs : List AC) (cur : Array Value) (K : List AC → Prop), RL F w m h cs cur → fillA P T g t ps cs K → ∃ cs' cur', K cs' ∧ Instr.fill (places[·]?) cur (ps.map fun (i, x) => (i, a.eval x)) = some cur' ∧ RL F w m h cs' cur'
  | [], cs, cur, K, hr, hf => ⟨cs, cur, hf, rfl, hr⟩
  | (i, x) :: ps, cs, cur, K, hr, hf => by
    simp only [fillA] at hf
    split at hf
    · rename_i y d u he hfi
      obtain ⟨hs, hd, ho, hf⟩ := hf
      obtain ⟨fs', f, j, hu', hf', hj, hne, rfl, rfl⟩ := field_spec hfi
      rw [hu] at hu'
      cases hu'
      obtain ⟨j', hj', hjs⟩ := size_spec hs
      rw [hj] at hj'
      cases hj'
      have hv := RL.of hC (ev_t hT he) ho
      obtain ⟨cs', cur', h1, h2, h3⟩ := fill_sound hC hT hu hpl ps _ _ K (hr.put hv hd) hf
      refine ⟨cs', cur', h1, ?_, h3⟩
      simp only [List.map_cons, Instr.fill, hpl i f j hf' hj]
      rw [if_neg (by simp only [Bool.or_eq_true, decide_eq_true_eq]; intro e0; rcases e0 with e1 | e1 <;> first | exact e1 (hv.1.trans hjs.symm) | (have e2 := hv.1; have e3 := hr.1; omega))]
      exact h2
    · exact hf.elim
theorem places_get {α β : Type} (f : α → Option β) : ∀ (l : List α) (r : List β), l.mapM f = some r → ∀ (i : Nat) (x : α), l[i]? = some x → ∃ y, f x = some y ∧ r[i]? = some y
  | [], r, h, i, x, hi => by simp at hi
  | z :: l, r, h, i, x, hi => by
    simp only [List.mapM_cons, Option.bind_eq_bind, Option.bind_eq_some_iff, Option.pure_def, Option.some.injEq] at h
    obtain ⟨y, hy, r', hr, rfl⟩ := h
    cases i with
    | zero => simp at hi; subst hi; exact ⟨y, hy, rfl⟩
    | succ i => simp at hi; obtain ⟨y', h1, h2⟩ := places_get f l r' hr i x hi; exact ⟨y', h1, by simpa using h2⟩
theorem do_build (hC : Cp g h) (hT : RTm F w m h T a) {t : TypeId} {parts : Array (Nat × Operand)} (hp : pop P T g n (.build t parts) K) : Does P F w m h n (do pure (Next.value (← Instr.build t (parts.map fun (i, x) => (i, a.eval x))))) K := by
  simp only [pop] at hp
  obtain ⟨hst, hp⟩ := hp
  split at hp
  · rename_i z hz
    obtain ⟨h1, hp⟩ := hp
    obtain ⟨it, v, hi, hv, rfl⟩ := zeroOf_spec hz
    unfold structOk at hst
    split at hst
    · rename_i fs hu
      obtain ⟨pl, hpl⟩ := Option.isSome_iff_exists.1 hst
      obtain ⟨cs', cur', hK, hf, hr⟩ := fill_sound hC hT hu (places := pl.toArray) (fun i f j hf hj => by
        obtain ⟨y, hy, hr⟩ := places_get _ _ _ hpl i f (by simpa using hf)
        simp only [hj, Option.map_some, Option.some.injEq] at hy
        subst hy
        simpa using hr) parts.toList _ _ _ (RL.zero h1) hp
      have hb : P.built t (parts.map fun (i, x) => (i, a.eval x)).toList = some cur' := by
        unfold Program.built
        simp only [hi, hu, hv, hpl]
        simpa using hf
      refine does0 hK (run_v (run_build w t _ cur' hb)) ⟨cur'.toList, by simp, by simpa using hr.1, fun j c hj => ?_⟩
      obtain ⟨u, h2, h3, h4⟩ := hr.2 j c hj
      exact ⟨u, by simpa using h2, h3, h4⟩
    · cases hst
  · exact hp.elim

/-- A row of rows, as it is meant. -/
def RE (F : Nat → Prop) (w : World) (m : AM) (h : AH) (k : Nat) (es : List (List AC)) (cur : Array Value) : Prop :=
  cur.size = es.length * k ∧ ∀ (i : Nat) (x : List AC), es[i]? = some x → x.length = k ∧ ∀ (j : Nat) (c : AC), x[j]? = some c → ∃ u, cur[i * k + j]? = some u ∧ one u = true ∧ RC F w m h c u
theorem RE.put {k : Nat} {es : List (List AC)} {cur vs : Array Value} {i : Nat} {ys : List AC} (h1 : RE F w m h k es cur) (h2 : RL F w m h ys vs) (hk : ys.length = k) (hi : i < es.length) : RE F w m h k (es.set i ys) (putAt cur (i * k) vs) := by
  refine ⟨by rw [putAt_size, h1.1]; simp, fun p x hx => ?_⟩
  rw [List.getElem?_set] at hx
  by_cases hip : i = p
  · subst hip
    rw [if_pos rfl, if_pos hi] at hx
    cases hx
    refine ⟨hk, fun j c hj => ?_⟩
    obtain ⟨u, hu, ho, hr⟩ := h2.2 j c hj
    have hjl : j < ys.length := (List.getElem?_eq_some_iff.1 hj).1
    refine ⟨u, ?_, ho, hr⟩
    have hle : (i + 1) * k ≤ es.length * k := Nat.mul_le_mul_right _ hi
    rw [Nat.add_mul] at hle
    rw [putAt_get, if_pos (by rw [h2.1, h1.1]; omega), show i * k + j - i * k = j by omega]
    exact hu
  · rw [if_neg hip] at hx
    obtain ⟨hl, hc⟩ := h1.2 p x hx
    refine ⟨hl, fun j c hj => ?_⟩
    have hjl : j < x.length := (List.getElem?_eq_some_iff.1 hj).1
    rw [putAt_get, if_neg]
    · exact hc j c hj
    · rw [h2.1, hk]
      rcases Nat.lt_or_gt_of_ne hip with hlt | hlt
      · have : (i + 1) * k ≤ p * k := Nat.mul_le_mul_right _ hlt
        rw [Nat.add_mul] at this; omega
      · have : (p + 1) * k ≤ i * k := Nat.mul_le_mul_right _ hlt
        rw [Nat.add_mul] at this; omega
theorem fillE_sound (hC : Cp g h) (hT : RTm F w m h T a) {k : Nat} (len : Nat) : ∀ (ps : List (Nat × Operand)) (es : List (List AC)) (cur : Array Value) (K : List (List AC) → Prop), es.length = len → RE F w m h k es cur → fillE T g k ps es K →
    ∃ es' cur', es'.length = len ∧ K es' ∧ Instr.fill (fun i => some (i * k, k)) cur (ps.map fun (i, x) => (i, a.eval x)) = some cur' ∧ RE F w m h k es' cur'
  | [], es, cur, K, hlen, hr, hf => ⟨es, cur, hlen, hf, rfl, hr⟩
  | (i, x) :: ps, es, cur, K, hlen, hr, hf => by
    simp only [fillE] at hf
    split at hf
    · rename_i y he
      obtain ⟨hk, hi, ho, hf⟩ := hf
      have hv := RL.of hC (ev_t hT he) ho
      obtain ⟨es', cur', h0, h1, h2, h3⟩ := fillE_sound hC hT len ps _ _ K (by simpa using hlen) (hr.put hv hk hi) hf
      refine ⟨es', cur', h0, h1, ?_, h3⟩
      have hle : (i + 1) * k ≤ es.length * k := Nat.mul_le_mul_right _ hi
      rw [Nat.add_mul] at hle
      simp only [List.map_cons, Instr.fill]
      rw [if_neg (by simp only [Bool.or_eq_true, decide_eq_true_eq]; intro e0; rcases e0 with e1 | e1 <;> first | exact e1 (hv.1.trans hk) | (have e2 := hv.1; have e3 := hr.1; omega))]
      exact h2
    · exact hf.elim
theorem do_buildSlice (hC : Cp g h) (hT : RTm F w m h T a) (hH : RH F w m h) {t : TypeId} {len : Nat} {parts : Array (Nat × Operand)} (hp : pop P T g n (.buildSlice t len parts) K) :
    Does P F w m h n (do pure (Next.value (← Instr.buildSlice t len (parts.map fun (i, x) => (i, a.eval x))))) K := by
  simp only [pop] at hp
  split at hp
  · rename_i e k by_ hE
    obtain ⟨z, hz, hzl, hk, hmax, h1, hp⟩ := hp
    obtain ⟨hu, i, hi, rfl, _⟩ := elem_spec hE
    obtain ⟨i', v, hi', hv, rfl⟩ := zeroOf_spec hz
    rw [hi] at hi'
    cases hi'
    have hvs : v.cells.size = i.size := by simpa using hzl
    have hcur0 : ∀ (zero : Array Value), (len * i.size ≠ 0 → zero = v.cells) → RE F w m h i.size (List.replicate len (v.cells.toList.map .imm)) ((Array.range (len * i.size)).map (zero[· % zero.size]!)) := by
      intro zero hzero
      refine ⟨by simp, fun p x hx => ?_⟩
      simp only [List.getElem?_replicate] at hx
      split at hx
      · rename_i hpl
        cases hx
        refine ⟨by simpa using hzl, fun j c hj => ?_⟩
        simp only [List.getElem?_map, Option.map_eq_some_iff] at hj
        obtain ⟨u, hu', rfl⟩ := hj
        have hjl : j < i.size := by rw [← hzl]; exact (List.getElem?_eq_some_iff.1 hu').1
        have hlt : p * i.size + j < len * i.size := by
          have : (p + 1) * i.size ≤ len * i.size := Nat.mul_le_mul_right _ hpl
          rw [Nat.add_mul] at this; omega
        have hz0 := hzero (by omega)
        subst hz0
        refine ⟨u, ?_, all_one h1 hu', rfl⟩
        have hmod : (p * i.size + j) % v.cells.size = j := by rw [hvs, Nat.add_comm, Nat.add_mul_mod_self_right, Nat.mod_eq_of_lt hjl]
        rw [Array.getElem?_map, Array.getElem?_range]
        simp only [hlt, if_true, Option.map_some, hmod]
        have hu2 : v.cells[j]? = some u := by simpa using hu'
        rw [getElem!_def, hu2]
      · cases hx
    obtain ⟨zero, hzr, hzero⟩ : ∃ zero : Array Value, ((len * i.size = 0 ∧ zero = #[]) ∨ (len * i.size ≠ 0 ∧ zero = v.cells)) ∧ (len * i.size ≠ 0 → zero = v.cells) := by
      by_cases h0 : len * i.size = 0
      · exact ⟨#[], .inl ⟨h0, rfl⟩, fun hne => absurd h0 hne⟩
      · exact ⟨v.cells, .inr ⟨h0, rfl⟩, fun _ => rfl⟩
    obtain ⟨es', cur', hlen', hK, hf, hr⟩ := fillE_sound hC hT len parts.toList _ _ _ (by simp) (hcur0 zero hzero) hp
    refine ⟨_, _, hK, .slice (some ⟨w.heap.size, 0, none⟩) len len, w.alloc (.cells cur' e), run_v ?_, out1 hH (cap := len) (by rw [hr.1, hlen']) (by omega) (by simp only [maxLen]; have := Nat.le_mul_of_pos_right len hk; omega) hr.2 (fun m' h' h2 h3 => .inr ⟨_, h2, .inl ⟨_, _, h3, by simp [hlen']⟩⟩)⟩
    simp only [Instr.buildSlice, Sem.run_bind, run_underlying hu, Result.andThen_ok, sizeOf, typeInfo, run_program, hi, Sem.run_pure]
    rw [if_neg (by omega)]
    have hf' : Instr.fill (fun x => some (x * i.size, i.size)) ((Array.range (len * i.size)).map (zero[· % zero.size]!)) (parts.map fun x => (x.1, a.eval x.2)).toList = some cur' := by simpa using hf
    rcases hzr with ⟨h0, rfl⟩ | ⟨h0, rfl⟩
    · rw [if_pos h0]
      simp only [Sem.run_bind, Sem.run_pure, Result.andThen_ok, hf']
      simp [newRow]
    · rw [if_neg h0]
      have hzv : (zeroValue e).run P w = .ok v w := by simp [zeroValue, typeInfo, hi, hv]
      simp only [Sem.run_bind, Sem.run_pure, Result.andThen_ok, hzv, hf']
      simp [newRow]
  · exact hp.elim
end
end Go.Proofs.YtgcofllgbdcicaaGreat.Am
