/- A part of AM, a framework of the prover own: functions of any program as maps of data. -/
import Derived.Test.YtgcofllgbdcicaaGreatAmL
namespace Go.Proofs.YtgcofllgbdcicaaGreat.Am
open Go.RowKit
set_option linter.unusedVariables false
set_option linter.unusedSimpArgs false
section
variable {P : Program} {F : Nat → Prop} {w : World} {m : AM} {g h : AH} {n : Nat} {T : Nat → AV} {a : Act}

/-- An operation carried out, a call of a Go function with its return. -/
def Yl (P : Program) (o : Oper) (a : Act) (w : World) (R : Value → World → Prop) : Prop :=
  match (execOp a.eval o).run P w with
  | .ok (.value v) w' => R v w'
  | .ok .skip w' => R undef w'
  | .ok (.enter f args) w' => Calls P f args w' fun e w'' => ∃ v, e = .returned v ∧ R v w''
  | _ => False
theorem Yl.wp {o : Oper} {R : Value → World → Prop} {K : Act → World → Prop} {Q : Exit → Act → World → Prop} (hy : Yl P o a w R) (hk : ∀ v w', R v w' → K (a.put o.dst v) w') : o.wp P a w K Q := by
  unfold Yl at hy
  unfold Oper.wp
  split at hy
  · rename_i v w' hr; rw [hr]; exact hk _ _ hy
  · rename_i w' hr; rw [hr]; exact hk _ _ hy
  · rename_i f args w' hr
    rw [hr]
    exact hy.mono fun e w'' ⟨v, he, hv⟩ => by subst he; exact hk _ _ hv
  · exact hy.elim
theorem Yl.mono {o : Oper} {R R' : Value → World → Prop} (hy : Yl P o a w R) (hk : ∀ v w', R v w' → R' v w') : Yl P o a w R' := by
  unfold Yl at hy ⊢
  split at hy
  · exact hk _ _ hy
  · exact hk _ _ hy
  · exact hy.mono fun e w'' ⟨v, he, hv⟩ => ⟨v, he, hk _ _ hv⟩
  · exact hy.elim
theorem Yl.value {o : Oper} {R : Value → World → Prop} {v : Value} {w' : World} (hr : (execOp a.eval o).run P w = .ok (.value v) w') (h : R v w') : Yl P o a w R := by
  unfold Yl; rw [hr]; exact h
theorem Yl.skip {o : Oper} {R : Value → World → Prop} {w' : World} (hr : (execOp a.eval o).run P w = .ok .skip w') (h : R undef w') : Yl P o a w R := by
  unfold Yl; rw [hr]; exact h
theorem run_call {o : Oper} {c : Call} {f : FuncId} (ho : o.op = .call c) (hc : c.callee = .value (.func f)) (hf : callOk P f = true) : (execOp a.eval o).run P w = .ok (.enter f (c.args.map a.eval)) w := by
  unfold callOk at hf
  split at hf
  · rename_i fn hfn
    simp only [Bool.and_eq_true, Bool.not_eq_true', Option.isSome_iff_ne_none, ne_eq] at hf
    have hb : fn.body.isNone = false := by cases hx : fn.body with
      | none => exact absurd hx (by simpa using hf.2)
      | some _ => rfl
    simp [execOp, ho, resolve, hc, Act.eval, Deferred.ofValue, invoke, callFunc, hfn, hb]
    rw [if_neg (by simpa using hf.1), if_neg hf.2]
  · cases hf
/-- The arguments of a call, as they are meant. -/
theorem args_sound (hT : RTm F w m h T a) {xs : List Operand} {args : List AT} (ha : xs.map (ev T) = args.map .t) :
    (xs.map a.eval).length = args.length ∧ ∀ (j : Nat) (x : AT), args[j]? = some x → ∃ v, (xs.map a.eval)[j]? = some v ∧ RT F w m h x v := by
  have hl : xs.length = args.length := by have := congrArg List.length ha; simpa using this
  refine ⟨by simpa using hl, fun j x hj => ?_⟩
  have hjl : j < xs.length := by rw [hl]; exact (List.getElem?_eq_some_iff.1 hj).1
  have h1 := congrArg (·[j]?) ha
  simp only [List.getElem?_map, List.getElem?_eq_getElem hjl, hj, Option.map_some, Option.some.injEq] at h1
  exact ⟨a.eval xs[j], by simp [hjl], ev_t hT h1⟩

/-- One operation of a region whose order is the text's. -/
def opA (P : Program) (T : Nat → AV) (h : AH) (o : Op) (K : AV → AH → Prop) : Prop :=
  match o with
  | .store t x y => stA P T h t x y (fun h' => K (.t (.c (.imm undef))) h')
  | .call c => match c.callee with
    | .builtin .append => apA P T h c K
    | .value (.func f) => ∃ args : List AT, c.args.toList.map (ev T) = args.map .t ∧ Con P f h args K
    | _ => pop P T h h.length (.call c) (fun res rows => K res (h ++ rows.map .live))
  | o => pop P T h h.length o (fun res rows => K res (h ++ rows.map .live))
theorem pop_step (hH : RH F w m h) (hT : RTm F w m h T a) {o : Oper} {K : AV → AH → Prop} (hp : pop P T h h.length o.op (fun res rows => K res (h ++ rows.map .live))) :
    Yl P o a w fun v w' => ∃ res h' m' F', K res h' ∧ Grow F F' w m h ∧ Step F' w m h w' m' h' ∧ RV F' w' m' h' res v := by
  obtain ⟨res, rows, hK, v, w', hr, ho⟩ := pop_sound o (Cp.refl h) hT hH hp
  obtain ⟨m', hs, hv⟩ := Step.of_out hH ho
  exact Yl.value hr ⟨res, _, m', F, hK, Grow.refl _ _ _ _, hs, hv⟩
theorem opA_sound (hH : RH F w m h) (hT : RTm F w m h T a) {o : Oper} {K : AV → AH → Prop} (hp : opA P T h o.op K) :
    Yl P o a w fun v w' => ∃ res h' m' F', K res h' ∧ Grow F F' w m h ∧ Step F' w m h w' m' h' ∧ RV F' w' m' h' res v := by
  unfold opA at hp
  split at hp
  · rename_i t x y hop
    obtain ⟨h', w', hK, hr, hs⟩ := do_store hT hH hp
    refine Yl.skip (w' := w') ?_ ⟨_, h', m, F, hK, Grow.refl _ _ _ _, hs, rfl⟩
    simp [execOp, hop, hr]
  · rename_i c hop
    split at hp
    · obtain ⟨res, h', v, w', m', hK, hr, hs, hv⟩ := do_append hT hH hop hp
      exact Yl.value hr ⟨res, h', m', F, hK, Grow.refl _ _ _ _, hs, hv⟩
    · rename_i f hc
      obtain ⟨args, ha, hcon⟩ := hp
      obtain ⟨hl, hx⟩ := args_sound hT ha
      unfold Yl
      rw [run_call hop hc hcon.1]
      have := hcon.2 F w m (c.args.toList.map a.eval) hH hl hx
      have e : (c.args.toList.map a.eval).toArray = c.args.map a.eval := by rw [← Array.toList_map]
      rw [e] at this
      exact this.mono fun e w'' ⟨v, res, h', m', F', he, hK, hG, hs, hv⟩ => ⟨v, he, res, h', m', F', hK, hG, hs, hv⟩
    · exact pop_step hH hT (by rw [hop]; exact hp)
  · exact pop_step hH hT hp

/-- A call that is told nothing of the own heap: its arguments read as data, its rows put at n, n + 1, .. -/
def pcall (P : Program) (f : FuncId) (h : AH) (n : Nat) (args : List AT) (K : AV → List AB → Prop) : Prop :=
  ∃ (args' : List AT) (Post : AV → List AB → Prop), PCon P f args' Post ∧
    ((args' = args ∧ (args.all fun x => x.cells.all fun c => match c with | .imm _ | .view _ => true | _ => false) = true ∧ ∀ res rows, Post res rows → K (res.shift n) (rows.map (AB.shift n))) ∨
     (args'.length = args.length ∧ (∀ (j : Nat) (x y : AT), args[j]? = some x → args'[j]? = some y → (∃ c d, x = .c c ∧ y = .c d ∧ ResC h c d) ∨ ∃ xs ys, x = .agg xs ∧ y = .agg ys ∧ xs.length = ys.length ∧ ∀ (i : Nat) (c d : AC), xs[i]? = some c → ys[i]? = some d → ResC h c d) ∧
       ∀ res rows, Post res rows → res.fresh = true ∧ (∀ ab ∈ rows, AB.fresh ab = true) ∧ K (res.shift n) (rows.map (AB.shift n))))
theorem RH.empty {F : Nat → Prop} (hF : ∀ b, F b → b < w.heap.size) : RH F w [] [] := ⟨fun r ab hr => by simp at hr, fun r r' ab ab' b c c' hr => by simp at hr, rfl, hF⟩
theorem rowsOf {rows : List AB} {j : Nat} {e : AE} (he : (rows.map AE.live)[j]? = some e) : ∃ ab, rows[j]? = some ab ∧ e = .live ab := by
  simp only [List.getElem?_map, Option.map_eq_some_iff] at he
  obtain ⟨ab, h1, rfl⟩ := he
  exact ⟨ab, h1, rfl⟩
/-- What a call brings that is told nothing of the own heap. -/
theorem out_of_call {F F' : Nat → Prop} {w' : World} {m' : AM} {rows : List AB} {res : AV} {v : Value} (hs : Step F' w [] [] w' m' (rows.map .live)) (hv : RV F' w' m' (rows.map .live) res v)
    (hf : (∀ b, F' b → F b) ∨ (res.fresh = true ∧ ∀ ab ∈ rows, AB.fresh ab = true)) : Out F w m h n (res.shift n) (rows.map (AB.shift n)) v w' := by
  have hl : m'.length = rows.length := by have := hs.hp.len; simpa using this
  have hblk : ∀ b, b < w.heap.size → w'.heap[b]? = w.heap[b]? := fun b hb => hs.blk b hb (fun r ab c hr => by simp at hr)
  have hrow : ∀ (j b c : Nat), m'[j]? = some (some (b, c)) → ∃ ab, (rows.map AE.live)[j]? = some (.live ab) := fun j b c hj => by
    have hjl : j < rows.length := by rw [← hl]; exact (List.getElem?_eq_some_iff.1 hj).1
    exact ⟨rows[j], by simp [hjl]⟩
  refine ⟨⟨hs.os, hs.tape, hs.output, hs.size, hblk⟩, m', by simpa using hl, fun j b c hj => ?_, fun j j' b c c' hj hj' => ?_, fun m'' h'' hk hp => ?_⟩
  · obtain ⟨ab, hr⟩ := hrow j b c hj
    refine ⟨?_, (hs.hp.lt hr hj).2⟩
    rcases hs.own j ab b c hr hj with ⟨r0, ab0, c0, h1, _⟩ | h1
    · simp at h1
    · exact h1
  · obtain ⟨ab, hr⟩ := hrow j b c hj
    obtain ⟨ab', hr'⟩ := hrow j' b c' hj'
    exact hs.hp.inj j j' ab ab' b c c' hr hr' hj hj'
  · have hsh : ∀ (j : Nat) (e : AE), (rows.map AE.live)[j]? = some e → ∃ ab, e = .live ab ∧ ∃ ab', h''[n + j]? = some (.live ab') ∧ ab'.k = ab.k ∧ ab'.es.length = ab.es.length ∧ m''[n + j]? = m'[j]? := fun j e he => by
      obtain ⟨ab, hab, rfl⟩ := rowsOf he
      obtain ⟨h1, h2⟩ := hp j (ab.shift n) (by simp [hab])
      exact ⟨ab, rfl, _, h1, rfl, by simp [AB.shift], h2⟩
    refine ⟨RV.shift hsh (hf.symm.imp (·.1) id) hv, fun j ab' hj hm' => ?_, fun j ab' b c hj hm' => ?_⟩
    · simp only [List.getElem?_map, Option.map_eq_some_iff] at hj
      obtain ⟨ab, hab, rfl⟩ := hj
      rcases hs.hp.at_ j ab (by simp [hab]) with ⟨_, h2⟩ | ⟨b, c, h2, _⟩
      · simpa [AB.shift] using h2
      · rw [hm'] at h2; cases h2
    · simp only [List.getElem?_map, Option.map_eq_some_iff] at hj
      obtain ⟨ab, hab, rfl⟩ := hj
      rcases hs.hp.at_ j ab (by simp [hab]) with ⟨h2, _⟩ | ⟨b', c', h2, _, cur, h3, h4, h5, h6, h7⟩
      · rw [hm'] at h2; cases h2
      · rw [hm'] at h2; cases h2
        refine ⟨cur, h3, h4, by simpa [AB.shift] using h5, h6, fun i x hx => ?_⟩
        simp only [AB.shift, List.getElem?_map, Option.map_eq_some_iff] at hx
        obtain ⟨y, hy, rfl⟩ := hx
        refine ⟨by simpa [AB.shift] using (h7 i y hy).1, fun p d hd => ?_⟩
        simp only [List.getElem?_map, Option.map_eq_some_iff] at hd
        obtain ⟨d0, hd0, rfl⟩ := hd
        obtain ⟨u, hu, ho, hr⟩ := (h7 i y hy).2 p d0 hd0
        refine ⟨u, hu, ho, RC.shift hsh ?_ hr⟩
        rcases hf with hf | ⟨_, hf⟩
        · exact .inr hf
        · left
          have h8 := hf ab (List.mem_of_getElem? hab)
          unfold AB.fresh at h8
          exact List.all_eq_true.1 (List.all_eq_true.1 h8 y (List.mem_of_getElem? hy)) d0 (List.mem_of_getElem? hd0)
/-- The same where the callee froze something of its own. -/
def OutG (F : Nat → Prop) (w : World) (m : AM) (h : AH) (n : Nat) (res : AV) (rows : List AB) (v : Value) (w' : World) : Prop :=
  ∃ F1 : Nat → Prop, (∀ b, F b → F1 b) ∧ (∀ b, F1 b → F b ∨ w.heap.size ≤ b) ∧ (∀ b, F1 b → b < w'.heap.size) ∧ Below w.heap.size w w' ∧ ∃ nb : AM, nb.length = rows.length ∧ (∀ (j b c : Nat), nb[j]? = some (some (b, c)) → w.heap.size ≤ b ∧ b < w'.heap.size ∧ ¬ F1 b) ∧
    (∀ (j j' b c c' : Nat), nb[j]? = some (some (b, c)) → nb[j']? = some (some (b, c')) → j = j') ∧
    ∀ (m' : AM) (h' : AH), Keeps m h m' h' → (∀ (j : Nat) (ab : AB), rows[j]? = some ab → h'[n + j]? = some (.live ab) ∧ m'[n + j]? = nb[j]?) →
      RV F1 w' m' h' res v ∧ (∀ (j : Nat) (ab : AB), rows[j]? = some ab → nb[j]? = some none → ab.es.length = 0) ∧ ∀ (j : Nat) (ab : AB) (b c : Nat), rows[j]? = some ab → nb[j]? = some (some (b, c)) → RB F1 w' m' h' b c ab
theorem outG_of {w' : World} {res : AV} {rows : List AB} {v : Value} (ho : Out F w m h n res rows v w') (hH : RH F w m h) : OutG F w m h n res rows v w' := by
  obtain ⟨hb, nb, hnl, hnb, hnd, hout⟩ := ho
  exact ⟨F, fun _ h => h, fun _ h => .inl h, fun b hf => Nat.lt_of_lt_of_le (hH.old b hf) hb.size, hb, nb, hnl, fun j b c hj => ⟨(hnb j b c hj).1, (hnb j b c hj).2, fun hf => by have := hH.old b hf; have := (hnb j b c hj).1; omega⟩, hnd, hout⟩
theorem out_of_callG {F F' : Nat → Prop} {w' : World} {m' : AM} {rows : List AB} {res : AV} {v : Value} (hG : Grow F F' w [] []) (hs : Step F' w [] [] w' m' (rows.map .live)) (hv : RV F' w' m' (rows.map .live) res v) : OutG F w m h n (res.shift n) (rows.map (AB.shift n)) v w' := by
  have hl : m'.length = rows.length := by have := hs.hp.len; simpa using this
  have hblk : ∀ b, b < w.heap.size → w'.heap[b]? = w.heap[b]? := fun b hb => hs.blk b hb (fun r ab c hr => by simp at hr)
  have hrow : ∀ (j b c : Nat), m'[j]? = some (some (b, c)) → ∃ ab, (rows.map AE.live)[j]? = some (.live ab) := fun j b c hj => by
    have hjl : j < rows.length := by rw [← hl]; exact (List.getElem?_eq_some_iff.1 hj).1
    exact ⟨rows[j], by simp [hjl]⟩
  refine ⟨F', hG.1, fun b hb => ?_, hs.hp.old, ⟨hs.os, hs.tape, hs.output, hs.size, hblk⟩, m', by simpa using hl, fun j b c hj => ?_, fun j j' b c c' hj hj' => ?_, fun m'' h'' hk hp => ?_⟩
  · rcases hG.2 b hb with h1 | h1 | ⟨r, ab, c, h1, _⟩
    · exact .inl h1
    · exact .inr h1
    · simp at h1
  · obtain ⟨ab, hr⟩ := hrow j b c hj
    refine ⟨?_, (hs.hp.lt hr hj).2, (hs.hp.lt hr hj).1⟩
    rcases hs.own j ab b c hr hj with ⟨r0, ab0, c0, h1, _⟩ | h1
    · simp at h1
    · exact h1
  · obtain ⟨ab, hr⟩ := hrow j b c hj
    obtain ⟨ab', hr'⟩ := hrow j' b c' hj'
    exact hs.hp.inj j j' ab ab' b c c' hr hr' hj hj'
  · have hsh : ∀ (j : Nat) (e : AE), (rows.map AE.live)[j]? = some e → ∃ ab, e = .live ab ∧ ∃ ab', h''[n + j]? = some (.live ab') ∧ ab'.k = ab.k ∧ ab'.es.length = ab.es.length ∧ m''[n + j]? = m'[j]? := fun j e he => by
      obtain ⟨ab, hab, rfl⟩ := rowsOf he
      obtain ⟨h1, h2⟩ := hp j (ab.shift n) (by simp [hab])
      exact ⟨ab, rfl, _, h1, rfl, by simp [AB.shift], h2⟩
    refine ⟨RV.shift hsh (.inr fun _ hb => hb) hv, fun j ab' hj hm' => ?_, fun j ab' b c hj hm' => ?_⟩
    · simp only [List.getElem?_map, Option.map_eq_some_iff] at hj
      obtain ⟨ab, hab, rfl⟩ := hj
      rcases hs.hp.at_ j ab (by simp [hab]) with ⟨_, h2⟩ | ⟨b, c, h2, _⟩
      · simpa [AB.shift] using h2
      · rw [hm'] at h2; cases h2
    · simp only [List.getElem?_map, Option.map_eq_some_iff] at hj
      obtain ⟨ab, hab, rfl⟩ := hj
      rcases hs.hp.at_ j ab (by simp [hab]) with ⟨h2, _⟩ | ⟨b', c', h2, _, cur, h3, h4, h5, h6, h7⟩
      · rw [hm'] at h2; cases h2
      · rw [hm'] at h2; cases h2
        refine ⟨cur, h3, h4, by simpa [AB.shift] using h5, h6, fun i x hx => ?_⟩
        simp only [AB.shift, List.getElem?_map, Option.map_eq_some_iff] at hx
        obtain ⟨y, hy, rfl⟩ := hx
        refine ⟨by simpa [AB.shift] using (h7 i y hy).1, fun p d hd => ?_⟩
        simp only [List.getElem?_map, Option.map_eq_some_iff] at hd
        obtain ⟨d0, hd0, rfl⟩ := hd
        obtain ⟨u, hu, ho, hr⟩ := (h7 i y hy).2 p d0 hd0
        exact ⟨u, hu, ho, RC.shift hsh (.inr fun _ hb => hb) hr⟩
theorem RT.pure {F : Nat → Prop} {x : AT} {v : Value} (hp : (x.cells.all fun c => match c with | .imm _ | .view _ => true | _ => false) = true) (hv : RT F w m h x v) : RT F w [] [] x v := by
  have key : ∀ (c : AC) (u : Value), (match c with | .imm _ | .view _ => true | _ => false) = true → RC F w m h c u → RC F w [] [] c u := by
    intro c u hc hr
    cases c <;> first | exact hr | cases hc
  cases x with
  | c y => exact key y v (by simpa [AT.cells] using hp) hv
  | agg xs =>
    obtain ⟨vs, h1, h2, h3⟩ := hv
    exact ⟨vs, h1, h2, fun j y hj => let ⟨u, hu, ho, hr⟩ := h3 j y hj; ⟨u, hu, ho, key y u (List.all_eq_true.1 hp y (List.mem_of_getElem? hj)) hr⟩⟩
theorem ResC.rc (hC : Cp g h) (hH : RH F w m h) {c d : AC} (hr : ResC g c d) {v : Value} (hv : RC F w m h c v) : RC (OwnF F m h) w [] [] d v := by
  have := hr.sound hC hH hv
  cases d <;> first | exact this | (unfold RP at this; exact this) | (unfold RP at this; exact this.elim) | trivial
theorem pcall_sound (hC : Cp g h) (hH : RH F w m h) (hT : RTm F w m h T a) {o : Oper} {c : Call} {f : FuncId} {args : List AT} {K : AV → List AB → Prop} (ho : o.op = .call c) (hc : c.callee = .value (.func f)) (ha : c.args.toList.map (ev T) = args.map .t)
    (hp : pcall P f g n args K) : Yl P o a w fun v w' => ∃ res rows, K res rows ∧ OutG F w m h n res rows v w' := by
  obtain ⟨args', Post, hcon, hp⟩ := hp
  obtain ⟨hl, hx⟩ := args_sound hT ha
  have e : (c.args.toList.map a.eval).toArray = c.args.map a.eval := by rw [← Array.toList_map]
  unfold Yl
  rw [run_call ho hc hcon.1]
  rcases hp with ⟨rfl, hpure, hK⟩ | ⟨hlen, hres, hK⟩
  · have := hcon.2 F w [] (c.args.toList.map a.eval) (RH.empty hH.old) hl (fun j x hj => by
      obtain ⟨v, hv, hr⟩ := hx j x hj
      exact ⟨v, hv, RT.pure (List.all_eq_true.1 hpure x (List.mem_of_getElem? hj)) hr⟩)
    rw [e] at this
    refine this.mono fun e w'' ⟨v, res, h', m', F1, he, ⟨rows, hh, hpost⟩, hG, hs, hv⟩ => ?_
    subst hh
    exact ⟨v, he, _, _, hK res rows hpost, out_of_callG hG hs hv⟩
  · have hF : ∀ b, OwnF F m h b → b < w.heap.size := fun b hb => by
      rcases hb with hb | ⟨r, ab, c, h1, h2⟩
      · exact hH.old b hb
      · exact (hH.lt h1 h2).2
    have := hcon.2 (OwnF F m h) w [] (c.args.toList.map a.eval) (RH.empty hF) (by rw [hl, hlen]) (fun j y hj => by
      have hjl : j < args.length := by rw [← hlen]; exact (List.getElem?_eq_some_iff.1 hj).1
      have hxx := List.getElem?_eq_getElem hjl
      obtain ⟨v, hv, hr⟩ := hx j _ hxx
      refine ⟨v, hv, ?_⟩
      rcases hres j _ y hxx hj with ⟨c0, d0, h1, rfl, h2⟩ | ⟨xs, ys, h1, rfl, h2, h3⟩
      · rw [h1] at hr; exact h2.rc hC hH hr
      · rw [h1] at hr
        obtain ⟨vs, g1, g2, g3⟩ := hr
        refine ⟨vs, g1, by rw [g2, h2], fun i d hi => ?_⟩
        have hil : i < xs.length := by rw [h2]; exact (List.getElem?_eq_some_iff.1 hi).1
        have hxi := List.getElem?_eq_getElem hil
        obtain ⟨u, hu, ho', hru⟩ := g3 i _ hxi
        exact ⟨u, hu, ho', (h3 i _ d hxi hi).rc hC hH hru⟩)
    rw [e] at this
    refine this.mono fun e w'' ⟨v, res, h', m', F1, he, ⟨rows, hh, hpost⟩, hG, hs, hv⟩ => ?_
    subst hh
    obtain ⟨hfr, hrf, hKK⟩ := hK res rows hpost
    exact ⟨v, he, _, _, hKK, outG_of (out_of_call hs hv (.inr ⟨hfr, hrf⟩)) hH⟩
theorem Step.of_outG {w' : World} (hH : RH F w m h) {res : AV} {rows : List AB} {v : Value} (ho : OutG F w m h h.length res rows v w') : ∃ m' F1, Grow F F1 w m h ∧ Step F1 w m h w' m' (h ++ rows.map .live) ∧ RV F1 w' m' (h ++ rows.map .live) res v := by
  obtain ⟨F1, hF1, hF2, hF3, hb, nb, hnl, hnb, hnd, hout⟩ := ho
  have hpl : ∀ (j : Nat) (ab : AB), rows[j]? = some ab → (h ++ rows.map .live)[h.length + j]? = some (.live ab) ∧ (m ++ nb)[h.length + j]? = nb[j]? := fun j ab hj => by
    refine ⟨by rw [List.getElem?_append_right (by omega)]; simp [hj], ?_⟩
    rw [List.getElem?_append_right (by rw [hH.len]; omega), hH.len]
    congr 1
    omega
  have hk : Keeps m h (m ++ nb) (h ++ rows.map .live) := keeps_append hH.len
  obtain ⟨hv, hne, hrb⟩ := hout (m ++ nb) (h ++ rows.map .live) hk hpl
  have split : ∀ (r b c : Nat) (ab : AB), (h ++ rows.map .live)[r]? = some (.live ab) → (m ++ nb)[r]? = some (some (b, c)) → (h[r]? = some (.live ab) ∧ m[r]? = some (some (b, c))) ∨ (h.length ≤ r ∧ rows[r - h.length]? = some ab ∧ nb[r - h.length]? = some (some (b, c))) := by
    intro r b c ab h1 h2
    rcases live_append h1 with ⟨hr, h3⟩ | ⟨hr, h3⟩
    · rw [List.getElem?_append_left (by rw [hH.len]; exact hr)] at h2; exact .inl ⟨h3, h2⟩
    · rw [List.getElem?_append_right (by rw [hH.len]; exact hr), hH.len] at h2; exact .inr ⟨hr, h3, h2⟩
  have hfor : ∀ b, F b → w'.heap[b]? = w.heap[b]? := fun b hf => hb.block b (hH.old b hf)
  refine ⟨m ++ nb, F1, ⟨hF1, fun b hb => (hF2 b hb).imp id .inl⟩, ⟨⟨fun r ab h1 => ?_, fun r r' ab ab' b c c' h1 h2 h3 h4 => ?_, by simp [hH.len, hnl], hF3⟩, hk, hb.os, hb.tape, hb.output, hb.size, fun b hlt _ => hb.block b hlt, fun r ab b c h1 h2 => ?_⟩, hv⟩
  · rcases live_append h1 with ⟨hr, h3⟩ | ⟨hr, h3⟩
    · rcases hH.at_ r ab h3 with ⟨h4, h5⟩ | ⟨b, c, h4, h5, h6⟩
      · exact .inl ⟨by rw [List.getElem?_append_left (by rw [hH.len]; exact hr)]; exact h4, h5⟩
      · have hlt := (hH.lt h3 h4).2
        exact .inr ⟨b, c, by rw [List.getElem?_append_left (by rw [hH.len]; exact hr)]; exact h4, fun hf => (hF2 b hf).elim h5 (fun hx => by omega), RB.ext hF1 hfor hk (hb.block b hlt) h6⟩
    · have hm : (m ++ nb)[r]? = nb[r - h.length]? := by rw [List.getElem?_append_right (by rw [hH.len]; exact hr), hH.len]
      have hjl : r - h.length < nb.length := by rw [hnl]; exact (List.getElem?_eq_some_iff.1 h3).1
      rw [hm]
      cases hq : nb[r - h.length]? with
      | none => rw [List.getElem?_eq_none_iff] at hq; omega
      | some q =>
        cases q with
        | none => exact .inl ⟨rfl, hne _ _ h3 hq⟩
        | some bc =>
          obtain ⟨b, c⟩ := bc
          exact .inr ⟨b, c, rfl, (hnb _ _ _ hq).2.2, hrb _ _ _ _ h3 hq⟩
  · rcases split r b c ab h1 h3 with ⟨h5, h6⟩ | ⟨h5, h6, h7⟩ <;> rcases split r' b c' ab' h2 h4 with ⟨g5, g6⟩ | ⟨g5, g6, g7⟩
    · exact hH.inj r r' ab ab' b c c' h5 g5 h6 g6
    · have := (hH.lt h5 h6).2; have := (hnb _ _ _ g7).1; omega
    · have := (hH.lt g5 g6).2; have := (hnb _ _ _ h7).1; omega
    · have := hnd _ _ _ _ _ h7 g7; omega
  · rcases split r b c ab h1 h2 with ⟨h5, h6⟩ | ⟨h5, h6, h7⟩
    · exact .inl ⟨r, ab, c, h5, h6⟩
    · exact .inr (hnb _ _ _ h7).1
end
end Go.Proofs.YtgcofllgbdcicaaGreat.Am
