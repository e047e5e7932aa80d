/- A part of AM, a framework of the prover own: functions of any program as maps of data. -/
import Derived.Test.YtgcofllgbdcicaaGreatAmK
namespace Go.Proofs.YtgcofllgbdcicaaGreat.Am
open Go.RowKit
set_option linter.unusedVariables false
set_option linter.unusedSimpArgs false

/-- What a call may be trusted with: over the own heap h and arguments that mean 'args' it returns, and 'Post' holds of what it returns and of the heap then. -/
def callOk (P : Program) (f : FuncId) : Bool := match P.funcs[f]? with | some fn => !(fn.name == "runtime.NumGoroutine") && fn.body.isSome | none => false
def Con (P : Program) (f : FuncId) (h : AH) (args : List AT) (Post : AV → AH → Prop) : Prop := callOk P f = true ∧
  ∀ (F : Nat → Prop) (w : World) (m : AM) (vs : List Value), RH F w m h → vs.length = args.length → (∀ (j : Nat) (x : AT), args[j]? = some x → ∃ v, vs[j]? = some v ∧ RT F w m h x v) →
    Calls P f vs.toArray w fun e w' => ∃ v res h' m' F', e = .returned v ∧ Post res h' ∧ Grow F F' w m h ∧ Step F' w m h w' m' h' ∧ RV F' w' m' h' res v
/-- The same of a call that is told nothing of any own heap. -/
def PCon (P : Program) (f : FuncId) (args : List AT) (Post : AV → List AB → Prop) : Prop := Con P f [] args fun res h' => ∃ rows, h' = rows.map .live ∧ Post res rows
theorem Con.mono {P : Program} {f : FuncId} {h : AH} {args : List AT} {Post Post' : AV → AH → Prop} (hc : Con P f h args Post) (hi : ∀ res h', Post res h' → Post' res h') : Con P f h args Post' :=
  ⟨hc.1, fun F w m vs hH hl ha => (hc.2 F w m vs hH hl ha).mono fun e w' ⟨v, res, h', m', F', he, hp, hG, hs, hv⟩ => ⟨v, res, h', m', F', he, hi _ _ hp, hG, hs, hv⟩⟩

/-! ### Rows moved to another place of the heap -/
def AC.shift (n : Nat) : AC → AC
  | .own r => .own (n + r)
  | .sub r lo k => .sub (n + r) lo k
  | .ptr r i o => .ptr (n + r) i o
  | c => c
def AT.shift (n : Nat) : AT → AT
  | .c x => .c (x.shift n)
  | .agg xs => .agg (xs.map (AC.shift n))
def AV.shift (n : Nat) : AV → AV
  | .t x => .t (x.shift n)
  | .tup xs => .tup (xs.map (AT.shift n))
def AB.shift (n : Nat) (ab : AB) : AB := ⟨ab.ty, ab.k, ab.es.map (·.map (AC.shift n))⟩
def AC.fresh : AC → Bool
  | .view _ | .eptr _ _ => false
  | _ => true
def AT.fresh : AT → Bool
  | .c x => x.fresh
  | .agg xs => xs.all AC.fresh
def AV.fresh : AV → Bool
  | .t x => x.fresh
  | .tup xs => xs.all AT.fresh
def AB.fresh (ab : AB) : Bool := ab.es.all (·.all AC.fresh)
section
variable {F F' : Nat → Prop} {w : World} {m m' : AM} {h h' : AH} {n : Nat}
theorem RC.shift (hp : ∀ (j : Nat) (e : AE), h[j]? = some e → ∃ ab, e = .live ab ∧ ∃ ab', h'[n + j]? = some (.live ab') ∧ ab'.k = ab.k ∧ ab'.es.length = ab.es.length ∧ m'[n + j]? = m[j]?) {c : AC} {v : Value} (hf : c.fresh = true ∨ ∀ b, F b → F' b)
    (hc : RC F w m h c v) : RC F' w m' h' (c.shift n) v := by
  cases c with
  | imm u => exact hc
  | view xs =>
    rcases hf with hf | hf
    · cases hf
    · exact RP.ext hf (fun _ _ => rfl) hc
  | own r =>
    rcases hc with hg | ⟨ab, h1, h2⟩
    · obtain ⟨ab, he, _⟩ := hp r _ hg; cases he
    · obtain ⟨ab1, he, ab', h3, h4, h5, h6⟩ := hp r _ h1
      cases he
      exact .inr ⟨ab', h3, by rw [h6, h5]; exact h2⟩
  | sub r lo k =>
    rcases hc with hg | ⟨ab, c, p, h1, h2, h7, h8, h9, h10⟩
    · obtain ⟨ab, he, _⟩ := hp r _ hg; cases he
    · obtain ⟨ab1, he, ab', h3, h4, h5, h6⟩ := hp r _ h1
      cases he
      exact .inr ⟨ab', c, p, h3, by rw [h5]; exact h2, h7, h8, h9, by rw [h6, h4]; exact h10⟩
  | ptr r i o =>
    rcases hc with hg | ⟨ab, b, cap, h1, h2, h7⟩
    · obtain ⟨ab, he, _⟩ := hp r _ hg; cases he
    · obtain ⟨ab1, he, ab', h3, h4, h5, h6⟩ := hp r _ h1
      cases he
      exact .inr ⟨ab', b, cap, h3, by rw [h6]; exact h2, by rw [h4]; exact h7⟩
  | eptr cs o =>
    rcases hf with hf | hf
    · cases hf
    · obtain ⟨b, oo, h1, h2, h3⟩ := hc
      exact ⟨b, oo, h1, hf b h2, RPL.ext hf (fun _ _ => rfl) h2 h3⟩
  | dead => trivial
theorem RT.shift (hp : ∀ (j : Nat) (e : AE), h[j]? = some e → ∃ ab, e = .live ab ∧ ∃ ab', h'[n + j]? = some (.live ab') ∧ ab'.k = ab.k ∧ ab'.es.length = ab.es.length ∧ m'[n + j]? = m[j]?) {c : AT} {v : Value} (hf : c.fresh = true ∨ ∀ b, F b → F' b)
    (hc : RT F w m h c v) : RT F' w m' h' (c.shift n) v := by
  cases c with
  | c x => exact RC.shift hp hf hc
  | agg xs =>
    obtain ⟨vs, h1, h2, h3⟩ := hc
    refine ⟨vs, h1, by simpa using h2, fun j x hj => ?_⟩
    simp only [List.getElem?_map, Option.map_eq_some_iff] at hj
    obtain ⟨y, hy, rfl⟩ := hj
    obtain ⟨u, hu, ho, hr⟩ := h3 j y hy
    exact ⟨u, hu, ho, RC.shift hp (hf.imp (fun hx => List.all_eq_true.1 hx y (List.mem_of_getElem? hy)) id) hr⟩
theorem RV.shift (hp : ∀ (j : Nat) (e : AE), h[j]? = some e → ∃ ab, e = .live ab ∧ ∃ ab', h'[n + j]? = some (.live ab') ∧ ab'.k = ab.k ∧ ab'.es.length = ab.es.length ∧ m'[n + j]? = m[j]?) {c : AV} {v : Value} (hf : c.fresh = true ∨ ∀ b, F b → F' b)
    (hc : RV F w m h c v) : RV F' w m' h' (c.shift n) v := by
  cases c with
  | t x => exact RT.shift hp hf hc
  | tup xs =>
    obtain ⟨vs, h1, h2, h3⟩ := hc
    refine ⟨vs, h1, by simpa using h2, fun j x hj => ?_⟩
    simp only [List.getElem?_map, Option.map_eq_some_iff] at hj
    obtain ⟨y, hy, rfl⟩ := hj
    obtain ⟨u, hu, hr⟩ := h3 j y hy
    exact ⟨u, hu, RT.shift hp (hf.imp (fun hx => List.all_eq_true.1 hx y (List.mem_of_getElem? hy)) id) hr⟩
end

/-! ### Own rows read as data -/
inductive ResC (h : AH) : AC → AC → Prop
  | imm (u : Value) : ResC h (.imm u) (.imm u)
  | view (xs : List (List AC)) : ResC h (.view xs) (.view xs)
  | row (c : AC) (xs ys : List (List AC)) (k : Nat) (hs : (∃ r ab, c = .own r ∧ h[r]? = some (.live ab) ∧ ab.es = xs ∧ ab.k = k) ∨ ∃ r lo n ab, c = .sub r lo n ∧ h[r]? = some (.live ab) ∧ (ab.es.drop lo).take n = xs ∧ ab.k = k) (hl : xs.length = ys.length)
      (hx : ∀ (i : Nat) (x : List AC), xs[i]? = some x → x.length = k) (hy : ∀ (i : Nat) (y : List AC), ys[i]? = some y → y.length = k)
      (he : ∀ (i : Nat) (x y : List AC), xs[i]? = some x → ys[i]? = some y → ∀ (j : Nat) (c d : AC), x[j]? = some c → y[j]? = some d → ResC h c d) : ResC h c (.view ys)
/-- The blocks that are read through own rows. -/
def OwnF (F : Nat → Prop) (m : AM) (h : AH) (b : Nat) : Prop := F b ∨ ∃ (r : Nat) (ab : AB) (c : Nat), h[r]? = some (.live ab) ∧ m[r]? = some (some (b, c))
section
variable {F : Nat → Prop} {w : World} {m : AM} {h : AH}
theorem RPL.mk {b : Nat} : ∀ {cs : List AC} {o : Nat}, (∀ (j : Nat) (c : AC), cs[j]? = some c → ∃ u, w.cell? ⟨b, o + j, none⟩ = some u ∧ one u = true ∧ RP F w c u) → RPL F w b o cs
  | [], o, h => by unfold RPL; trivial
  | c :: cs, o, h => by
    unfold RPL
    exact ⟨by simpa using h 0 c rfl, RPL.mk (fun j d hj => by have := h (j + 1) d (by simpa using hj); rwa [show o + (j + 1) = o + 1 + j by omega] at this)⟩
theorem RPE.mk {b k : Nat} : ∀ {xs : List (List AC)} {o : Nat}, (∀ (i : Nat) (x : List AC), xs[i]? = some x → x.length = k ∧ RPL F w b (o + i * k) x) → RPE F w b k o xs
  | [], o, h => by unfold RPE; trivial
  | x :: xs, o, h => by
    unfold RPE
    obtain ⟨h1, h2⟩ := h 0 x rfl
    exact ⟨h1, by simpa using h2, RPE.mk (fun i y hi => by have := h (i + 1) y (by simpa using hi); rwa [show o + (i + 1) * k = o + k + i * k by rw [Nat.add_mul]; omega] at this)⟩
theorem ResC.sound {g : AH} (hC : Cp g h) (hH : RH F w m h) {c d : AC} (hr : ResC g c d) : ∀ {v : Value}, RC F w m h c v → RP (OwnF F m h) w d v := by
  induction hr with
  | imm u => intro v hv; exact hv
  | view xs => intro v hv; exact RP.ext (fun _ hb => .inl hb) (fun _ _ => rfl) hv
  | row c xs ys k hs hl hxk hyk he ih =>
    intro v hv
    unfold RP
    have elems : ∀ (b o : Nat) (hF : OwnF F m h b), (∀ (i : Nat) (x : List AC), xs[i]? = some x → ∀ (j : Nat) (c : AC), x[j]? = some c → ∃ u, w.cell? ⟨b, o + (i * k + j), none⟩ = some u ∧ one u = true ∧ RC F w m h c u) → RPE (OwnF F m h) w b k o ys := by
      intro b o hF hc
      refine RPE.mk (fun i y hy => ?_)
      have hil : i < xs.length := by rw [hl]; exact (List.getElem?_eq_some_iff.1 hy).1
      have hx := List.getElem?_eq_getElem hil
      have h1 := hyk i y hy
      have h2 := hxk i _ hx
      refine ⟨h1, RPL.mk (fun j d hj => ?_)⟩
      have hjl : j < (xs[i]).length := by rw [h2, ← h1]; exact (List.getElem?_eq_some_iff.1 hj).1
      have hx2 := List.getElem?_eq_getElem hjl
      obtain ⟨u, hu, ho, hr⟩ := hc i _ hx j _ hx2
      exact ⟨u, by rw [Nat.add_assoc]; exact hu, ho, ih i _ y hx hy j _ d hx2 hj hr⟩
    rcases hs with ⟨r, ab, rfl, hr, rfl, rfl⟩ | ⟨r, lo, nn, ab, rfl, hr, rfl, rfl⟩
    · rcases hv with hg | ⟨ab', h1, ⟨b, cap, h2, rfl⟩ | ⟨h2, h3, rfl⟩⟩
      · exact (hC.gone hr hg).elim
      · obtain rfl := hC.live hr h1
        obtain ⟨_, hF, hB⟩ := hH.get h1 h1 h2
        have hB' := hB
        obtain ⟨cur, _, _, hle, hmx, _⟩ := hB'
        refine ⟨_, cap, by rw [hl], by omega, hmx, ?_⟩
        right
        exact ⟨b, 0, ab'.k, rfl, .inr ⟨r, ab', cap, h1, h2⟩, elems b 0 (.inr ⟨r, ab', cap, h1, h2⟩) (fun i x hx j c hj => by simpa using hB.cell hx j c hj)⟩
      · obtain rfl := hC.live hr h1
        have : ys = [] := List.eq_nil_of_length_eq_zero (by omega)
        subst this
        exact ⟨none, 0, rfl, by simp, by simp, .inl rfl⟩
    · rcases hv with hg | ⟨ab', c, p, h1, h3, h8, h9, rfl, h11⟩
      · exact (hC.gone hr hg).elim
      · obtain rfl := hC.live hr h1
        have hlen : ys.length = nn := by rw [← hl]; simp; omega
        refine ⟨p, c, by rw [hlen], by omega, h9, ?_⟩
        rcases Nat.eq_zero_or_pos nn with h0 | h0
        · left; exact List.eq_nil_of_length_eq_zero (by omega)
        · right
          obtain ⟨b, cap, h2, rfl⟩ := h11 h0
          obtain ⟨_, hF, hB⟩ := hH.get h1 h1 h2
          refine ⟨b, lo * ab'.k, ab'.k, rfl, .inr ⟨r, ab', cap, h1, h2⟩, elems b _ (.inr ⟨r, ab', cap, h1, h2⟩) (fun i x hx j c hj => ?_)⟩
          rw [List.getElem?_take] at hx
          split at hx
          · rw [List.getElem?_drop] at hx
            have := hB.cell hx j c hj
            rw [Nat.add_mul, Nat.add_assoc] at this
            exact this
          · cases hx
end
end Go.Proofs.YtgcofllgbdcicaaGreat.Am
