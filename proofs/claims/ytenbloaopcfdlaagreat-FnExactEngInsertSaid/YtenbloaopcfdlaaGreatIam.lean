/- A part of AM, a framework of the prover own: functions of any program as maps of data. -/
import Derived.Test.YtenbloaopcfdlaaGreatIal
namespace Go.Proofs.YtenbloaopcfdlaaGreat.Am
open Go.RowKit
set_option linter.unusedVariables false
set_option linter.unusedSimpArgs false
inductive ZT
  | done
  | none
  | op (i : Nat) (rs : List Nat) (t r : ZT)
def zrd (ops : Array Oper) : List Nat → Array Bool → Option (Array Bool)
  | [], L => some L
  | j :: rs, L => if (Region.ready .any ops L).contains j then zrd ops rs (L.setIfInBounds j true) else none
def zB (ops : Array Oper) : ZT → Array Bool → List Nat → Bool → Bool
  | .done, _, al, top => top && al.isEmpty
  | .none, _, al, top => !top && al.isEmpty
  | .op i rs t r, L, al, _ => match al with
    | j :: al' => Nat.beq i j && (match zrd ops rs (L.setIfInBounds i true) with | some L' => zB ops t L' (Region.ready .any ops L') true | none => false) && zB ops r L al' false
    | _ => false
def zOk (ops : Array Oper) (rs : List Nat) (t : ZT) : Bool := headB ops ops.size && (match zrd ops rs (Array.replicate ops.size false) with | some L => zB ops t L (Region.ready .any ops L) true | none => false)
def stayO (P : Program) (ops : Array Oper) (o : Oper) (T : Nat → AV) (h : AH) : Prop := headA P ops (fun T' h' => h' = h ∧ ∀ d, o.dst = some d → T' d = T d) [o] T h
def stay (P : Program) (ops : Array Oper) (D : List Nat) (T : Nat → AV) (h : AH) : Prop := ∀ i ∈ D, ∀ o, ops[i]? = some o → stayO P ops o T h
def offD (ops : Array Oper) (rs : List Nat) (d : Nat) : Prop := ∀ j ∈ rs, ∀ o, ops[j]? = some o → o.dst ≠ some d
def anyZ [BP] (P : Program) (ops : Array Oper) (Q : (Nat → AV) → AH → Prop) : ZT → List Nat → (Nat → AV) → AH → Prop
  | .done, _, T, h => Q T h
  | .none, _, _, _ => True
  | .op i rs t r, D, T, h => (∃ (o : Oper) (K : (Nat → AV) → AH → Prop), ops[i]? = some o ∧ seqA P ops K [o] T h ∧
      ∀ T' h', K T' h' → ∃ T'', (∀ d, offD ops rs d → T'' d = T' d) ∧ stay P ops (D ++ rs) T'' h' ∧ anyZ P ops Q t (D ++ rs) T'' h') ∧ anyZ P ops Q r D T h
theorem opA_congr {β : BP} {P : Program} {T T' : Nat → AV} {h : AH} {o : Op} {K : AV → AH → Prop} (he : ∀ x ∈ o.operands, ev T x = ev T' x) (hp : opA P T h o K) : opA P T' h o K := by
  unfold opA at hp ⊢
  split at hp
  · rename_i t x y
    unfold stA at hp ⊢
    rw [← he x (by simp [Op.operands]), ← he y (by simp [Op.operands])]; exact hp
  · rename_i c
    have e1 : ∀ x ∈ c.args.toList, ev T x = ev T' x := fun x hx => he x (by simp [Op.operands, Call.operands]; right; simpa using hx)
    have em : c.args.toList.map (ev T') = c.args.toList.map (ev T) := List.map_congr_left (fun x hx => (e1 x hx).symm)
    split at hp
    · rename_i hc
      unfold apA at hp ⊢
      rw [hc] at hp ⊢
      split at hp
      · rename_i s x t t' _ hargs hty
        rw [hargs] at e1
        rw [← e1 s (by simp), ← e1 x (by simp)]
        exact hp
      · exact hp.elim
    · obtain ⟨args, ha, hcon⟩ := hp
      exact ⟨args, by rw [em]; exact ha, hcon⟩
    · rename_i t hc
      have ht := he (.tmp t) (by simp [Op.operands, Call.operands, hc])
      simp only [ev] at ht
      rw [← ht]
      split at hp
      · obtain ⟨args, ha, hcon⟩ := hp
        exact ⟨args, by rw [em]; exact ha, hcon⟩
      · exact hp.elim
    · exact pop_congr he hp
  · exact pop_congr he hp
theorem zrd_spec {ops : Array Oper} : ∀ (rs : List Nat) (L L' : Array Bool), L.size = ops.size → zrd ops rs L = some L' → L'.size = ops.size ∧ (∀ j, L'.getD j true = false ↔ L.getD j true = false ∧ j ∉ rs) ∧ (∀ j ∈ rs, L.getD j true = false ∧ j < ops.size) ∧
    ((∀ i o, L.getD i true = true → ops[i]? = some o → ∀ e ∈ o.after, Region.binds .any e = true → L.getD e.on true = true) → ∀ i o, L'.getD i true = true → ops[i]? = some o → ∀ e ∈ o.after, Region.binds .any e = true → L'.getD e.on true = true)
  | [], L, L', hs, h => by
    cases h
    exact ⟨hs, fun j => by simp, fun j hj => by simp at hj, fun h => h⟩
  | j :: rs, L, L', hs, h => by
    unfold zrd at h
    split at h
    · rename_i hr
      have hr : j ∈ Region.ready .any ops L := by simpa using hr
      obtain ⟨hun, o, ho, hall⟩ := mem_ready.1 hr
      have hjl : j < ops.size := (Array.getElem?_eq_some_iff.1 ho).1
      obtain ⟨h1, h2, h3, h4⟩ := zrd_spec rs _ L' (by simpa using hs) h
      have key : ∀ i, (L.setIfInBounds j true).getD i true = false ↔ L.getD i true = false ∧ i ≠ j := fun i => by
        by_cases hij : j = i
        · subst hij
          have hil : j < L.size := by rw [hs]; exact hjl
          simp [hil]
        · rw [getD_set_ne true hij]
          exact ⟨fun h => ⟨h, fun e => hij e.symm⟩, fun h => h.1⟩
      refine ⟨h1, fun i => ?_, fun i hi => ?_, fun hd => h4 fun i o' hi ho' e he hb => ?_⟩
      · rw [h2, key, List.mem_cons, not_or, and_assoc]
      · rcases List.mem_cons.1 hi with rfl | hi
        · exact ⟨hun, hjl⟩
        · obtain ⟨h5, h6⟩ := h3 i hi
          exact ⟨((key i).1 h5).1, h6⟩
      · have hL : L.getD e.on true = true := by
          by_cases hij : i = j
          · subst hij
            rw [ho] at ho'
            cases ho'
            have := hall e he hb
            cases hx : L.getD e.on true with
            | true => rfl
            | false => rw [getD_both hx] at this; cases this
          · refine hd i o' ?_ ho' e he hb
            cases hx : L.getD i true with
            | true => rfl
            | false => rw [(key i).2 ⟨hx, hij⟩] at hi; cases hi
        cases hx : (L.setIfInBounds j true).getD e.on true with
        | true => rfl
        | false => rw [((key _).1 hx).1] at hL; cases hL
    · cases h
section
variable {P : Program} {w0 : World} {m0 : AM} {h0 : AH} {N : Nat} {ops : Array Oper}
theorem zB_at {β : BP} {Q : (Nat → AV) → AH → Prop} {L : Array Bool} {D : List Nat} {T : Nat → AV} {h : AH} : ∀ (t : ZT) (al : List Nat) (top : Bool), zB ops t L al top = true → anyZ P ops Q t D T h → ∀ i ∈ al, ∃ rs t' L', zrd ops rs (L.setIfInBounds i true) = some L' ∧ zB ops t' L' (Region.ready .any ops L') true = true ∧
    ∃ (o : Oper) (K : (Nat → AV) → AH → Prop), ops[i]? = some o ∧ seqA P ops K [o] T h ∧ ∀ T' h', K T' h' → ∃ T'', (∀ d, offD ops rs d → T'' d = T' d) ∧ stay P ops (D ++ rs) T'' h' ∧ anyZ P ops Q t' (D ++ rs) T'' h'
  | .done, al, top, hB, hq, i, hi => by
    simp only [zB, Bool.and_eq_true, List.isEmpty_iff] at hB
    rw [hB.2] at hi; simp at hi
  | .none, al, top, hB, hq, i, hi => by
    simp only [zB, Bool.and_eq_true, List.isEmpty_iff] at hB
    rw [hB.2] at hi; simp at hi
  | .op j rs t r, al, top, hB, hq, i, hi => by
    unfold zB at hB
    split at hB
    · rename_i k al'
      simp only [Bool.and_eq_true] at hB
      obtain ⟨⟨hjk, hB1⟩, hB2⟩ := hB
      have hjk : j = k := Nat.eq_of_beq_eq_true hjk
      subst hjk
      obtain ⟨h1, h2⟩ := hq
      rcases List.mem_cons.1 hi with rfl | hi
      · split at hB1
        · rename_i L' hL'
          exact ⟨rs, t, L', hL', hB1, h1⟩
        · cases hB1
      · exact zB_at r al' false hB2 h2 i hi
    · cases hB
theorem zB_end {β : BP} {Q : (Nat → AV) → AH → Prop} {L : Array Bool} {D : List Nat} {T : Nat → AV} {h : AH} (t : ZT) (hB : zB ops t L [] true = true) (hq : anyZ P ops Q t D T h) : Q T h := by
  cases t with
  | done => exact hq
  | none => simp [zB] at hB
  | op i rs t r => simp [zB] at hB
theorem seq_one {β : BP} {K : (Nat → AV) → AH → Prop} {o : Oper} {T : Nat → AV} {h : AH} {F : Nat → Prop} {a : Act} {w : World} {m : AM} {i : Nat} {Q' : Exit → Act → World → Prop} {Kw : Act → World → Prop}
    (hg : guardOk N ops = true) (ho : ops[i]? = some o) (hH : RH F w m h) (hsz : a.tmps.size = N) (hlook : ∀ d, d ∈ o.looksAt ops → RV F w m h (T d) (a.tmps.getD d undef)) (hs : seqA P ops K [o] T h)
    (hK : ∀ (F1 : Nat → Prop) (v : Value) (w' : World) (m' : AM) (h' : AH) (res : AV), K (put T o.dst res) h' → Grow F F1 w m h → Step F1 w m h w' m' h' → RV F1 w' m' h' res v → Kw (a.put o.dst v) w') : wpOp P ops Q' i Kw a w := by
  have hmem : o ∈ ops.toList := List.mem_of_getElem? (by simpa using ho : ops.toList[i]? = some o)
  unfold wpOp
  rw [ho]
  simp only
  unfold seqA at hs
  rcases grd_sound (F := F) (w := w) (m := m) (h := h) (a := a) (fun g t h1 h2 => by rw [hsz]; exact guardOk_spec hg hmem g t h1 h2) (fun g t h1 h2 => hlook t (looks_guard h1 h2)) hs with ⟨hw, hA⟩ | ⟨hw, hA⟩
  · rw [if_pos hw]
    left
    have hT' : RTm F w m h (fun d => if d ∈ o.looksAt ops then T d else .t (.c .dead)) a := fun d => by
      by_cases hd' : d ∈ o.looksAt ops
      · simp only [hd', if_true]; exact hlook d hd'
      · simp only [hd', if_false]; exact (trivial : RC F w m h .dead _)
    have hA' := opA_congr (T' := fun d => if d ∈ o.looksAt ops then T d else .t (.c .dead)) (fun x hx => by
      cases x with
      | tmp t => simp only [ev, looks_op (ops := ops) hx, if_true]
      | const v => rfl
      | global g => rfl
      | func f => rfl) hA
    refine (opA_sound hH hT' hA').wp (fun v w' ⟨res, h', m', F1, hk, hG1, hst, hv⟩ => ?_)
    exact hK F1 v w' m' h' res hk hG1 hst hv
  · rw [if_neg (by rw [hw]; simp)]
    exact hK F undef w m h _ hA (Grow.refl _ _ _ _) (Step.refl hH) rfl
theorem read_one {β : BP} {K : (Nat → AV) → AH → Prop} {o : Oper} {T : Nat → AV} {h : AH} {F : Nat → Prop} {a : Act} {w : World} {m : AM} {i : Nat} {Q' : Exit → Act → World → Prop} {Kw : Act → World → Prop}
    (hg : guardOk N ops = true) (ho : ops[i]? = some o) (hH : RH F w m h) (hsz : a.tmps.size = N) (hlook : ∀ d, d ∈ o.looksAt ops → RV F w m h (T d) (a.tmps.getD d undef)) (hs : headA P ops K [o] T h)
    (hK : ∀ (F1 : Nat → Prop) (v : Value) (w' : World) (m' : AM) (h' : AH) (res : AV), K (put T o.dst res) h' → Grow F F1 w m h → Step F1 w m h w' m' h' → RV F1 w' m' h' res v → Kw (a.put o.dst v) w') : wpOp P ops Q' i Kw a w := by
  have hmem : o ∈ ops.toList := List.mem_of_getElem? (by simpa using ho : ops.toList[i]? = some o)
  unfold wpOp
  rw [ho]
  simp only
  unfold headA at hs
  rcases grd_sound (F := F) (w := w) (m := m) (h := h) (a := a) (fun g t h1 h2 => by rw [hsz]; exact guardOk_spec hg hmem g t h1 h2) (fun g t h1 h2 => hlook t (looks_guard h1 h2)) hs with ⟨hw, res, rows, hA, hk⟩ | ⟨hw, hA⟩
  · rw [if_pos hw]
    left
    have hT' : RTm F w m h (fun d => if d ∈ o.looksAt ops then T d else .t (.c .dead)) a := fun d => by
      by_cases hd' : d ∈ o.looksAt ops
      · simp only [hd', if_true]; exact hlook d hd'
      · simp only [hd', if_false]; exact (trivial : RC F w m h .dead _)
    have hA' := popP_congr (T' := fun d => if d ∈ o.looksAt ops then T d else .t (.c .dead)) (fun x hx => by
      cases x with
      | tmp t => simp only [ev, looks_op (ops := ops) hx, if_true]
      | const v => rfl
      | global g => rfl
      | func f => rfl) hA
    refine (popP_sound o (Cp.refl h) hT' hH hA').wp (fun v w' ⟨res', rows', ⟨e1, e2⟩, hout⟩ => ?_)
    subst e1 e2
    obtain ⟨m', F1, hG1, hst, hv⟩ := Step.of_outG hH hout
    exact hK F1 v w' m' _ _ hk hG1 hst hv
  · rw [if_neg (by rw [hw]; simp)]
    exact hK F undef w m h _ hA (Grow.refl _ _ _ _) (Step.refl hH) rfl
structure MidZ [BP] (F : Nat → Prop) (w0 : World) (m0 : AM) (h0 : AH) (N : Nat) (ops : Array Oper) (D : List Nat) (Lc L : Array Bool) (W : List Nat) (T : Nat → AV) (h : AH) (a : Act) (w : World) (m : AM) : Prop where
  sl : L.size = ops.size
  sc : Lc.size = ops.size
  sub : ∀ i, Lc.getD i true = false → L.getD i true = false
  pend : ∀ i, L.getD i true = false → Lc.getD i true = true → i ∈ D
  inD : ∀ i ∈ D, Lc.getD i true = true ∧ i < ops.size
  down : ∀ i o, Lc.getD i true = true → ops[i]? = some o → ∀ e ∈ o.after, Region.binds .any e = true → Lc.getD e.on true = true
  nodup : W.Nodup
  mem : ∀ i, i ∈ W ↔ i < ops.size ∧ L.getD i true = false
  tm : ∀ d, (∃ i ∈ D, L.getD i true = false ∧ ∃ o, ops[i]? = some o ∧ o.dst = some d) ∨ RV F w m h (T d) (a.tmps.getD d undef)
  st : StepX F w0 m0 h0 w m h
  df : a.defers = []
  sz : a.tmps.size = N
theorem getD_lt {L : Array Bool} {i : Nat} (h : L.getD i true = false) : i < L.size := by
  rcases Nat.lt_or_ge i L.size with h1 | h1
  · exact h1
  · simp [Array.getD, Nat.not_lt.2 h1] at h
theorem anyZ_sound {β : BP} {F0 : Nat → Prop} {Q : Exit → (Nat → AV) → AH → Prop} (hhead : headB ops ops.size = true) (hg : guardOk N ops = true) (hd : ops.toList.all (dstOk N) = true) :
    ∀ (f : Nat) (t : ZT) (D : List Nat) (Lc L : Array Bool) (W : List Nat) (T : Nat → AV) (h : AH) (F : Nat → Prop) (a : Act) (w : World) (m : AM), W.length = f → zB ops t Lc (Region.ready .any ops Lc) true = true → stay P ops D T h → Grow F0 F w0 m0 h0 → MidZ F w0 m0 h0 N ops D Lc L W T h a w m →
      anyZ P ops (Q .normal) t D T h → wpAny P .any ops (Meets F0 w0 m0 h0 N Q) f L a w := by
  have hend : ∀ (t : ZT) (D : List Nat) (Lc L : Array Bool) (W : List Nat) (T : Nat → AV) (h : AH) (F : Nat → Prop) (a : Act) (w : World) (m : AM), zB ops t Lc (Region.ready .any ops Lc) true = true → Grow F0 F w0 m0 h0 → MidZ F w0 m0 h0 N ops D Lc L W T h a w m → anyZ P ops (Q .normal) t D T h → Region.ready .any ops L = [] → Meets F0 w0 m0 h0 N Q .normal a w := by
    intro t D Lc L W T h F a w m hB hG M hq hr
    have hU : ∀ i, L.getD i true = false → Lc.getD i true = false := by
      have key : ∀ n i, i < n → L.getD i true = false → Lc.getD i true = true → False := by
        intro n
        induction n with
        | zero => intro i hi; omega
        | succ n ih =>
          intro i hi h1 h2
          have hil : i < ops.size := by rw [← M.sl]; exact getD_lt h1
          obtain ⟨o, ho, haft, _⟩ := headB_spec hhead hil
          have : i ∈ Region.ready .any ops L := mem_ready.2 ⟨h1, o, ho, fun e he hb => by
            have hlt := haft e he hb
            cases hx : L.getD e.on true with
            | true =>
              have hel : e.on < L.size := by rw [M.sl]; omega
              simp [Array.getD, hel] at hx ⊢
              exact hx
            | false => exact (ih e.on (by omega) hx (M.down i o h2 ho e he hb)).elim⟩
          rw [hr] at this
          simp at this
      intro i h1
      cases hx : Lc.getD i true with
      | false => rfl
      | true => exact (key (i + 1) i (by omega) h1 hx).elim
    have hLL : L = Lc := by
      apply Array.ext_getElem?
      intro i
      by_cases hi : i < ops.size
      · have hil : i < L.size := by rw [M.sl]; exact hi
        have hic : i < Lc.size := by rw [M.sc]; exact hi
        rw [Array.getElem?_eq_getElem hil, Array.getElem?_eq_getElem hic]
        have e1 : L.getD i true = L[i] := by simp [Array.getD, hil]
        have e2 : Lc.getD i true = Lc[i] := by simp [Array.getD, hic]
        rw [← e1, ← e2]
        congr 1
        cases hx : L.getD i true with
        | false => exact (hU i hx).symm
        | true =>
          cases hy : Lc.getD i true with
          | true => rfl
          | false => rw [M.sub i hy] at hx; cases hx
      · rw [Array.getElem?_eq_none (by rw [M.sl]; omega), Array.getElem?_eq_none (by rw [M.sc]; omega)]
    rw [← hLL, hr] at hB
    refine ⟨T, h, m, F, zB_end t hB hq, hG, fun d => ?_, M.st, M.df, M.sz⟩
    rcases M.tm d with ⟨i, hi, h1, _⟩ | h1
    · have := (M.inD i hi).1
      rw [hU i h1] at this
      cases this
    · exact h1
  intro f
  induction f with
  | zero =>
    intro t D Lc L W T h F a w m hW hB hst hG M hq
    have hn : Region.ready .any ops L = [] := by
      cases hc : Region.ready .any ops L with
      | nil => rfl
      | cons x xs =>
        obtain ⟨h1, _⟩ := mem_ready.1 (by rw [hc]; simp : x ∈ Region.ready .any ops L)
        have : x ∈ W := (M.mem x).2 ⟨by rw [← M.sl]; exact getD_lt h1, h1⟩
        rw [List.eq_nil_of_length_eq_zero hW] at this
        simp at this
    exact ⟨hn, hend t D Lc L W T h F a w m hB hG M hq hn⟩
  | succ f ih =>
    intro t D Lc L W T h F a w m hW hB hst hG M hq
    refine ⟨fun hn => hend t D Lc L W T h F a w m hB hG M hq hn, fun i hi => ?_⟩
    obtain ⟨hun, o, ho, hall⟩ := mem_ready.1 hi
    have hil : i < ops.size := (Array.getElem?_eq_some_iff.1 ho).1
    have hmemo : o ∈ ops.toList := List.mem_of_getElem? (by simpa using ho : ops.toList[i]? = some o)
    have hdo : dstOk N o = true := List.all_eq_true.1 hd o hmemo
    have hiW : i ∈ W := (M.mem i).2 ⟨hil, hun⟩
    have hWl : (W.erase i).length = f := by rw [List.length_erase_of_mem hiW, hW]; rfl
    obtain ⟨o2, ho2, haft, hdep⟩ := headB_spec hhead hil
    rw [ho] at ho2
    cases ho2
    have hlook : ∀ d, d ∈ o.looksAt ops → RV F w m h (T d) (a.tmps.getD d undef) := fun d hd' => by
      rcases M.tm d with ⟨j, hj, hjun, o', ho', hjd⟩ | h1
      · obtain ⟨_, hw⟩ := (hdep j o' d (M.inD j hj).2 ho' hjd).2 hd'
        obtain ⟨oi, hoi, e, he, hb, hon⟩ := Region.waitsFor_spec hw
        rw [ho] at hoi
        cases hoi
        have h2 := hall e he hb
        rw [hon, getD_both hjun] at h2
        cases h2
      · exact h1
    have hset : ∀ j, (L.setIfInBounds i true).getD j true = false ↔ L.getD j true = false ∧ j ≠ i := fun j => by
      by_cases hij : i = j
      · subst hij
        have : i < L.size := by rw [M.sl]; exact hil
        simp [this]
      · rw [getD_set_ne true hij]
        exact ⟨fun h => ⟨h, fun e => hij e.symm⟩, fun h => h.1⟩
    have hmem' : ∀ j, j ∈ W.erase i ↔ j < ops.size ∧ (L.setIfInBounds i true).getD j true = false := fun j => by
      rw [M.nodup.mem_erase_iff, M.mem j, hset]
      exact ⟨fun ⟨h1, h2, h3⟩ => ⟨h2, h3, h1⟩, fun ⟨h1, h2, h3⟩ => ⟨h3, h1, h2⟩⟩
    have hput : ∀ (v : Value) (d : Nat), o.dst = some d → (a.put o.dst v).tmps.getD d undef = v := fun v d hdd => by
      rw [put_get]
      have hlt : d < N := by unfold dstOk at hdo; rw [hdd] at hdo; simpa using hdo
      rw [if_pos ⟨hdd, by rw [M.sz]; exact hlt⟩]
    have hput2 : ∀ (v : Value) (d : Nat), o.dst ≠ some d → (a.put o.dst v).tmps.getD d undef = a.tmps.getD d undef := fun v d hdd => by
      rw [put_get, if_neg (fun hx => hdd hx.1)]
    cases hci : Lc.getD i true with
    | true =>
      have hiD := M.pend i hun hci
      refine read_one hg ho M.st.hp M.sz hlook (hst i hiD o ho) (fun F1 v w' m' h' res hk hG1 hstep hv => ?_)
      obtain ⟨rfl, hTd⟩ := hk
      refine ih t D Lc _ (W.erase i) T h' F1 _ w' m' hWl hB hst (hG.trans M.st hG1) ⟨by simpa using M.sl, M.sc, fun j hj => (hset j).2 ⟨M.sub j hj, fun e => by rw [e, hci] at hj; cases hj⟩, fun j hj hj2 => M.pend j ((hset j).1 hj).1 hj2, M.inD, M.down, M.nodup.erase i, hmem', fun d => ?_, M.st.trans hstep, by rw [put_defers]; exact M.df, by rw [put_size]; exact M.sz⟩ hq
      by_cases hdd : o.dst = some d
      · right
        rw [hput v d hdd, ← hTd d hdd]
        unfold put
        rw [hdd]
        simpa using hv
      · rw [hput2 v d hdd]
        rcases M.tm d with ⟨j, hj, hjun, o', ho', hjd⟩ | h1
        · left
          refine ⟨j, hj, (hset j).2 ⟨hjun, fun e => ?_⟩, o', ho', hjd⟩
          subst e
          rw [ho] at ho'
          cases ho'
          exact hdd hjd
        · exact .inr (RV.stepG hstep hG1.1 M.st.hp h1)
    | false =>
      have hrc : i ∈ Region.ready .any ops Lc := mem_ready.2 ⟨hci, o, ho, fun e he hb => by
        have h1 := hall e he hb
        have hel : e.on < ops.size := by have := haft e he hb; omega
        cases hx : Lc.getD e.on true with
        | true =>
          have : e.on < Lc.size := by rw [M.sc]; exact hel
          simp [Array.getD, this] at hx ⊢
          exact hx
        | false => rw [getD_both (M.sub _ hx)] at h1; cases h1⟩
      obtain ⟨rs, t', L', hz, hB', o2, K, ho2, hs, hK⟩ := zB_at t _ true hB hq i hrc
      rw [ho] at ho2
      cases ho2
      refine seq_one hg ho M.st.hp M.sz hlook hs (fun F1 v w' m' h' res hk hG1 hstep hv => ?_)
      obtain ⟨T'', hT, hst', hq'⟩ := hK _ _ hk
      have hsetc : ∀ j, (Lc.setIfInBounds i true).getD j true = false ↔ Lc.getD j true = false ∧ j ≠ i := fun j => by
        by_cases hij : i = j
        · subst hij
          have : i < Lc.size := by rw [M.sc]; exact hil
          simp [this]
        · rw [getD_set_ne true hij]
          exact ⟨fun h => ⟨h, fun e => hij e.symm⟩, fun h => h.1⟩
      obtain ⟨z1, z2, z3, z4⟩ := zrd_spec rs _ L' (by simpa using M.sc) hz
      refine ih t' (D ++ rs) L' _ (W.erase i) T'' h' F1 _ w' m' hWl hB' hst' (hG.trans M.st hG1) ⟨by simpa using M.sl, z1, fun j hj => ?_, fun j hj hj2 => ?_, fun j hj => ?_, z4 fun j o' hj ho' e he hb => ?_, M.nodup.erase i, hmem', fun d => ?_, M.st.trans hstep, by rw [put_defers]; exact M.df, by rw [put_size]; exact M.sz⟩ hq'
      · obtain ⟨h1, _⟩ := (z2 j).1 hj
        obtain ⟨h2, h3⟩ := (hsetc j).1 h1
        exact (hset j).2 ⟨M.sub j h2, h3⟩
      · obtain ⟨h1, h2⟩ := (hset j).1 hj
        by_cases hjr : j ∈ rs
        · exact List.mem_append_right _ hjr
        · refine List.mem_append_left _ (M.pend j h1 ?_)
          cases hx : Lc.getD j true with
          | true => rfl
          | false => rw [(z2 j).2 ⟨(hsetc j).2 ⟨hx, h2⟩, hjr⟩] at hj2; cases hj2
      · rcases List.mem_append.1 hj with h1 | h1
        · obtain ⟨h2, h3⟩ := M.inD j h1
          refine ⟨?_, h3⟩
          cases hx : L'.getD j true with
          | true => rfl
          | false => rw [((hsetc j).1 ((z2 j).1 hx).1).1] at h2; cases h2
        · refine ⟨?_, (z3 j h1).2⟩
          cases hx : L'.getD j true with
          | true => rfl
          | false => exact (((z2 j).1 hx).2 h1).elim
      · have h1 : Lc.getD e.on true = true := by
          by_cases hij : j = i
          · subst hij
            rw [ho] at ho'
            cases ho'
            have h2 := hall e he hb
            cases hx : Lc.getD e.on true with
            | true => rfl
            | false => rw [getD_both (M.sub _ hx)] at h2; cases h2
          · refine M.down j o' ?_ ho' e he hb
            cases hx : Lc.getD j true with
            | true => rfl
            | false => rw [(hsetc j).2 ⟨hx, hij⟩] at hj; cases hj
        cases hx : (Lc.setIfInBounds i true).getD e.on true with
        | true => rfl
        | false => rw [((hsetc _).1 hx).1] at h1; cases h1
      · by_cases hoff : offD ops rs d
        · rw [hT d hoff]
          by_cases hdd : o.dst = some d
          · right
            rw [hput v d hdd]
            unfold put
            rw [hdd]
            simpa using hv
          · rw [hput2 v d hdd, put_ne _ _ hdd]
            rcases M.tm d with ⟨j, hj, hjun, o', ho', hjd⟩ | h1
            · left
              refine ⟨j, List.mem_append_left _ hj, (hset j).2 ⟨hjun, fun e => ?_⟩, o', ho', hjd⟩
              subst e
              rw [ho] at ho'
              cases ho'
              exact hdd hjd
            · exact .inr (RV.stepG hstep hG1.1 M.st.hp h1)
        · left
          unfold offD at hoff
          simp only [Classical.not_forall, Classical.not_not] at hoff
          obtain ⟨j, hj, o', ho', hjd⟩ := hoff
          obtain ⟨h1, h2⟩ := (hsetc j).1 (z3 j hj).1
          exact ⟨j, List.mem_append_right _ hj, (hset j).2 ⟨M.sub j h1, h2⟩, o', ho', hjd⟩
theorem vc_lazy {β : BP} {n0 : Nat} {Q : Exit → (Nat → AV) → AH → Prop} {id : Nat} {l : List Oper} {T : Nat → AV} {h : AH} (rs : List Nat) (t : ZT) (hm : P.follows .mixedOrders = true) (hok : textOk N l.toArray = true) (hz : zOk l.toArray rs t = true)
    (hs : ∃ T'', (∀ d, offD l.toArray rs d → T'' d = T d) ∧ stay P l.toArray rs T'' h ∧ anyZ P l.toArray (Q .normal) t rs T'' h) : VC P n0 N (.region id l.toArray true) Q T h := fun F w0 m0 h0 a w m hn r => by
  unfold textOk at hok
  simp only [Bool.and_eq_true] at hok
  unfold zOk at hz
  simp only [Bool.and_eq_true] at hz
  obtain ⟨hhead, hz⟩ := hz
  split at hz
  · rename_i Lc hLc
    obtain ⟨T'', hT, hst, hq⟩ := hs
    refine wp_region_any hm ?_
    have hst0 := Step.drew r.st.hp
    obtain ⟨z1, z2, z3, z4⟩ := zrd_spec rs _ Lc (by simp) hLc
    have hf : ∀ j, (Array.replicate l.toArray.size false).getD j true = false ↔ j < l.toArray.size := fun j => by
      constructor
      · intro h
        have := getD_lt h
        simpa using this
      · intro h
        exact getD_in (by simpa using h) (getD_replicate_false _ _)
    refine anyZ_sound (F0 := F) (Q := Q) hhead hok.1 hok.2 l.toArray.size t rs Lc _ (List.range l.toArray.size) T'' h F a _ m (by simp) hz hst (Grow.refl _ _ _ _) ⟨by simp, z1, fun j hj => ((z2 j).1 hj).1, fun j hj hj2 => ?_, fun j hj => ⟨?_, (z3 j hj).2⟩, z4 fun j o' hj ho' => ?_, List.nodup_range, fun j => by rw [List.mem_range, hf]; exact ⟨fun h => ⟨h, h⟩, fun h => h.1⟩, fun d => ?_, r.st.trans hst0, r.df, r.sz⟩ hq
    · refine Classical.not_not.1 fun hjr => ?_
      rw [(z2 j).2 ⟨hj, hjr⟩] at hj2
      cases hj2
    · cases hx : Lc.getD j true with
      | true => rfl
      | false => exact (((z2 j).1 hx).2 hj).elim
    · rw [(hf j).2 (Array.getElem?_eq_some_iff.1 ho').1] at hj
      cases hj
    · by_cases hoff : offD l.toArray rs d
      · rw [hT d hoff]
        exact .inr (RV.step hst0 r.st.hp (r.tm d))
      · left
        unfold offD at hoff
        simp only [Classical.not_forall, Classical.not_not] at hoff
        obtain ⟨j, hj, o', ho', hjd⟩ := hoff
        exact ⟨j, hj, (z3 j hj).1, o', ho', hjd⟩
  · cases hz
end
def runZr (g : Gd) (tab : List (TypeId × TI)) (ops : List Oper) (Q : List (Nat × AV) → EH → Prop) : List Nat → List (Nat × AV) → EH → Prop
  | [], l, h => Q l h
  | j :: rs, l, h => match nth ops j with
    | some o => runS g tab ops (fun l' h' => h' = h ∧ runZr g tab ops Q rs l' h) [o] 1 l h
    | none => False
def chkZ (g : Gd) (tab : List (TypeId × TI)) (ops : List Oper) : List Nat → List (Nat × AV) → EH → Prop
  | [], _, _ => True
  | j :: D, l, h => (match nth ops j with
    | some o => runS g tab ops (fun l' h' => h' = h ∧ (match o.dst with | some d => lkT l' d = lkT l d | none => True)) [o] 1 l h
    | none => False) ∧ chkZ g tab ops D l h
def runZ (g : Gd) (tab : List (TypeId × TI)) (ops : List Oper) (Q : List (Nat × AV) → EH → Prop) : ZT → List Nat → List (Nat × AV) → EH → Prop
  | .done, _, l, h => Q l h
  | .none, _, _, _ => True
  | .op i rs t r, D, l, h => (match nth ops i with
    | some o => runS g tab ops (fun l1 h1 => runZr g tab ops (fun l2 h2 => chkZ g tab ops (D ++ rs) l2 h2 ∧ runZ g tab ops Q t (D ++ rs) l2 h2) rs l1 h1) [o] 0 l h
    | none => False) ∧ runZ g tab ops Q r D l h
def runZ0 (g : Gd) (tab : List (TypeId × TI)) (ops : List Oper) (rs : List Nat) (t : ZT) (Q : List (Nat × AV) → EH → Prop) (l : List (Nat × AV)) (h : EH) : Prop :=
  runZr g tab ops (fun l2 h2 => chkZ g tab ops rs l2 h2 ∧ runZ g tab ops Q t rs l2 h2) rs l h
section
variable {P : Program} {n0 N : Nat} {tab : List (TypeId × TI)}
theorem head_one {β : BP} (hf : Fits P tab) {ops : Array Oper} {Q : List (Nat × AV) → EH → Prop} {o : Oper} {l : List (Nat × AV)} {h : EH} (hp : runS (G0 P n0 N) tab ops.toList Q [o] 1 l h) : headA P ops (QH Q) [o] (lkT l) (toH h) := by
  have := runS_sound hf [o] 1 l h hp
  exact this
theorem runZr_sound {β : BP} (hf : Fits P tab) {ops : Array Oper} {Q : List (Nat × AV) → EH → Prop} : ∀ (rs : List Nat) (l : List (Nat × AV)) (h : EH), runZr (G0 P n0 N) tab ops.toList Q rs l h → ∃ l2, (∀ d, offD ops rs d → lkT l2 d = lkT l d) ∧ Q l2 h
  | [], l, h, hp => ⟨l, fun _ _ => rfl, hp⟩
  | j :: rs, l, h, hp => by
    unfold runZr at hp
    split at hp
    · rename_i o ho
      rw [nth_eq, Array.getElem?_toList] at ho
      have h1 := head_one hf hp
      unfold headA at h1
      have key : ∃ v l', put (lkT l) o.dst v = lkT l' ∧ runZr (G0 P n0 N) tab ops.toList Q rs l' h := by
        rcases grd_gval h1 with ⟨_, res, rows, _, l', eh, e1, e2, e3, hr⟩ | ⟨_, l', eh, e1, e2, e3, hr⟩
        · exact ⟨_, l', e1, hr⟩
        · exact ⟨_, l', e1, hr⟩
      obtain ⟨v, l', e1, hr⟩ := key
      obtain ⟨l2, h2, h3⟩ := runZr_sound hf rs l' h hr
      refine ⟨l2, fun d hd => ?_, h3⟩
      rw [h2 d fun i hi o' ho' => hd i (List.mem_cons_of_mem _ hi) o' ho', ← e1]
      exact put_ne _ _ (hd j (List.mem_cons_self ..) o ho)
    · exact hp.elim
theorem chkZ_sound {β : BP} (hf : Fits P tab) {ops : Array Oper} : ∀ (D : List Nat) (l : List (Nat × AV)) (h : EH), chkZ (G0 P n0 N) tab ops.toList D l h → stay P ops D (lkT l) (toH h)
  | [], l, h, hp => fun i hi => by simp at hi
  | j :: D, l, h, hp => fun i hi o ho => by
    obtain ⟨h1, h2⟩ := hp
    rcases List.mem_cons.1 hi with rfl | hi
    · split at h1
      · rename_i o' ho'
        rw [nth_eq, Array.getElem?_toList, ho] at ho'
        cases ho'
        have h3 := head_one hf h1
        unfold stayO
        unfold headA at h3 ⊢
        have fin : ∀ T' h', QH (fun l' h' => h' = h ∧ (match o.dst with | some d => lkT l' d = lkT l d | none => True)) T' h' → h' = toH h ∧ ∀ d, o.dst = some d → T' d = lkT l d := fun T' h' ⟨l', eh, e1, e2, e3, e4⟩ => by
          subst e1 e2 e3
          refine ⟨rfl, fun d hd => ?_⟩
          rw [hd] at e4
          exact e4
        exact grd_mono (fun ⟨res, rows, a1, a2⟩ => ⟨res, rows, a1, fin _ _ a2⟩) (fun a2 => fin _ _ a2) h3
      · exact h1.elim
    · exact chkZ_sound hf D l h h2 i hi o ho
theorem runZ_sound {β : BP} (hf : Fits P tab) {ops : Array Oper} {Q : List (Nat × AV) → EH → Prop} : ∀ (t : ZT) (D : List Nat) (l : List (Nat × AV)) (h : EH), runZ (G0 P n0 N) tab ops.toList Q t D l h → anyZ P ops (QH Q) t D (lkT l) (toH h)
  | .done, D, l, h, hp => ⟨l, h, rfl, rfl, hp⟩
  | .none, _, _, _, _ => trivial
  | .op i rs t r, D, l, h, hp => by
    obtain ⟨h1, h2⟩ := hp
    refine ⟨?_, runZ_sound hf r D l h h2⟩
    split at h1
    · rename_i o ho
      rw [nth_eq, Array.getElem?_toList] at ho
      have h3 := runS_sound hf [o] 0 l h h1
      refine ⟨o, _, ho, h3, fun T' h' hk => ?_⟩
      obtain ⟨l', eh, rfl, rfl, hq⟩ := hk
      obtain ⟨l2, hl2, hc, hr⟩ := runZr_sound hf rs l' eh hq
      exact ⟨lkT l2, hl2, chkZ_sound hf _ l2 eh hc, runZ_sound hf t _ l2 eh hr⟩
    · exact h1.elim
theorem hand_lazy {β : BP} {g : Gd} {hd : HF} (hg : g = G0 P n0 N) (hhd : hd = hd0 P n0 N) (hfit : Fits P tab) {id : Nat} {os : List Oper} (rs : List Nat) (t : ZT) (hok : textOk N os.toArray = true) (hz : zOk os.toArray rs t = true) {Q : Exit → List (Nat × AV) → EH → Prop} {l : List (Nat × AV)} {h : EH}
    {S : Type} (ok : S → Prop) (l2 : S → List (Nat × AV)) (h2 : S → EH) (hp : ∀ B : List (Nat × AV) → EH → Prop, (∀ s, ok s → ∀ l' h', Weak n0 N (lkT l') (toH h') (l2 s) (toH (h2 s)) → B l' h') → runZ0 g tab os rs t B l h) (hq : ∀ s, ok s → Q .normal (l2 s) (h2 s)) : hd (.region id os.toArray true) Q l h := by
  subst hhd hg
  have h1 := hp (fun l' h' => ∃ s, ok s ∧ Weak n0 N (lkT l') (toH h') (l2 s) (toH (h2 s))) fun s hs l' h' hw => ⟨s, hs, hw⟩
  obtain ⟨l3, hl3, hc, hr⟩ := runZr_sound (ops := os.toArray) hfit rs l h h1
  have hvc := vc_lazy (P := P) (n0 := n0) (id := id) (Q := fun e T h => match e with | .normal => QH (fun l' h' => ∃ s, ok s ∧ Weak n0 N (lkT l') (toH h') (l2 s) (toH (h2 s))) T h | _ => False) rs t hfit.mix hok hz ⟨lkT l3, hl3, chkZ_sound hfit rs l3 h hc, runZ_sound hfit t rs l3 h hr⟩
  intro F w0 m0 h0 a w m hn r
  refine Code.wp_mono (fun e a' w' ⟨T', h', m', F1, hw, hG, r'⟩ => ?_) (hvc F w0 m0 h0 a w m hn r)
  cases e <;> first | exact hw.elim | skip
  obtain ⟨l', eh, e1, e2, s, hs, hw⟩ := hw
  subst e1 e2
  obtain ⟨F2, m2, hG2, r2⟩ := hw F1 w0 m0 h0 a' w' m' hn r'
  exact ⟨_, _, m2, F2, ⟨l2 s, h2 s, rfl, rfl, hq s hs⟩, hG.comp hG2, r2⟩
end
def keepK (T : Nat → AV) : List (Nat × AV) → Prop
  | [] => True
  | (d, v) :: l => T d = v ∧ keepK T l
theorem keepK_at {T : Nat → AV} : ∀ (l : List (Nat × AV)), keepK T l → ∀ d, lkT l d = .t (.c .dead) ∨ lkT l d = T d
  | [], _, d => .inl rfl
  | (k, v) :: l, h, d => by
    unfold lkT
    split
    · rename_i hb
      rw [hb]
      exact .inr h.1.symm
    · exact keepK_at l h.2 d
def goneE : EH → EH → Prop
  | [], [] => True
  | e' :: l', e :: l => (e' = e ∨ e' = .gn) ∧ goneE l' l
  | _, _ => False
theorem goneE_at : ∀ {h2 h : EH}, goneE h2 h → h2.length = h.length ∧ ∀ r : Nat, (toH h2)[r]? = (toH h)[r]? ∨ ((toH h2)[r]? = some .gone ∧ r < h.length)
  | [], [], _ => ⟨rfl, fun r => .inl rfl⟩
  | e' :: l', e :: l, hg => by
    obtain ⟨h1, h2⟩ := goneE_at hg.2
    refine ⟨by simp [h1], fun r => ?_⟩
    cases r with
    | zero =>
      rcases hg.1 with h3 | h3
      · exact .inl (by simp [toH, h3])
      · exact .inr ⟨by rw [h3]; rfl, by simp⟩
    | succ r =>
      rcases h2 r with h3 | ⟨h3, h4⟩
      · exact .inl (by simpa [toH] using h3)
      · exact .inr ⟨by simpa [toH] using h3, by simp; omega⟩
theorem weak_gone {β : BP} {n0 N : Nat} {T : Nat → AV} {h h2 : EH} {l : List (Nat × AV)} (hk : keepK T l) (hg : goneE h2 h) : Weak n0 N T (toH h) l (toH h2) := fun F w0 m0 h0 a w m hn r => by
  obtain ⟨hlen, hat⟩ := goneE_at hg
  have hH := r.st.hp
  have hkeep : Keeps m (toH h) m (toH h2) := fun q => ⟨fun h1 => by
    rcases hat q with h3 | ⟨h3, _⟩
    · rw [h3]; exact h1
    · exact h3, fun ab h1 => by
    rcases hat q with h3 | ⟨h3, _⟩
    · exact .inr ⟨ab, by rw [h3]; exact h1, rfl, rfl, rfl⟩
    · exact .inl h3⟩
  have hlive : ∀ (q : Nat) (ab : AB), (toH h2)[q]? = some (.live ab) → (toH h)[q]? = some (.live ab) := fun q ab h1 => by
    rcases hat q with h3 | ⟨h3, _⟩
    · rw [← h3]; exact h1
    · rw [h3] at h1; cases h1
  have hH2 : RH F w m (toH h2) := ⟨fun q ab h1 => by
    rcases hH.at_ q ab (hlive q ab h1) with h2 | ⟨b, c, h2, h3, h4⟩
    · exact .inl h2
    · exact .inr ⟨b, c, h2, h3, RB.ext (fun _ hb => hb) (fun _ _ => rfl) hkeep rfl h4⟩, fun q q' ab ab' b c c' h1 h2 h3 h4 => hH.inj q q' ab ab' b c c' (hlive q ab h1) (hlive q' ab' h2) h3 h4, by rw [hH.len, toH_len, toH_len, hlen], hH.old, hH.lo⟩
  refine ⟨F, m, Grow.refl _ _ _ _, ⟨fun d => ?_, ⟨hH2, Keeps.trans r.st.keeps hkeep, r.st.os, r.st.tape, r.st.output, r.st.size, r.st.blk, fun q ab b c hq hm => r.st.own q ab b c (hlive q ab hq) hm, r.st.szx⟩, r.df, r.sz⟩⟩
  rcases keepK_at l hk d with h1 | h1 <;> rw [h1]
  · exact (trivial : RC F w m (toH h2) .dead _)
  · exact RV.ext (fun _ hb => hb) (fun _ _ => rfl) hkeep (r.tm d)
end Go.Proofs.YtenbloaopcfdlaaGreat.Am
