/- A part of AM, a framework of the prover own: functions of any program as maps of data. -/
import Derived.Test.YtgcofllgbdcicaaGreatAmAA
namespace Go.Proofs.YtgcofllgbdcicaaGreat.Am
open Go.RowKit
set_option linter.unusedVariables false
/-- A row's length as an Int ('cbv' would lay open the cast). -/
def lenI (xs : List (List AC)) : Int := (xs.length : Int)
theorem lenI_eq (xs : List (List AC)) : lenI xs = (xs.length : Int) := rfl
section
variable {P : Program} {n0 N : Nat} {g : Gd}
theorem goN (hg : g = G0 P n0 N) {p q : Prop} (hp : p) (hq : q) : g .N p q := by subst hg; exact ⟨hp, hq⟩
theorem goX (hg : g = G0 P n0 N) {xs : List (List AC)} {z : Int} {k : Nat} {K : List AC → Prop} (y : List AC) (hz : 0 ≤ z) (hy : xs[z.toNat]? = some y) (hk : y.length = k) (hK : K y) : g .X xs z k K := by subst hg; exact ⟨hz, y, hy, hk, hK⟩
theorem goY (hg : g = G0 P n0 N) {xs : List (List AC)} {z : Int} {k : Nat} {K : Nat → Prop} (hz : 0 ≤ z) (hy : z < lenI xs) (hK : ∀ j : Nat, j = z.toNat → j < xs.length → K j) : g .Y k xs z K := by subst hg; have := lenI_eq xs; exact ⟨hz, by omega, hK _ rfl (by omega)⟩
theorem goSt (hg : g = G0 P n0 N) (xs : List (List AC)) (i : Nat) (x : List AC) : g .st xs i x = xs.set i x := by subst hg; rfl
theorem goAp (hg : g = G0 P n0 N) (xs ys : List (List AC)) : g .ap xs ys = xs ++ ys := by subst hg; rfl
theorem goRp (hg : g = G0 P n0 N) (n : Int) (x : List AC) : g .rp n x = List.replicate n.toNat x := by subst hg; rfl
theorem goLn (hg : g = G0 P n0 N) (xs : List (List AC)) : g .ln xs = lenI xs := by subst hg; rfl
theorem goMk (hg : g = G0 P n0 N) {xs : List (List AC)} {by_ : Nat} {q : Prop} (hb : by_ ≤ 65536) (hl : xs.length ≤ 1048576) (hq : q) : g .N (g .ln xs = g .ln xs ∧ 0 ≤ g .ln xs ∧ (by_ : Int) * g .ln xs ≤ 140737488355328 ∧ g .ln xs ≤ 4611686018427387904) q := by
  subst hg
  have h1 : by_ * xs.length ≤ 68719476736 := Nat.le_trans (Nat.mul_le_mul hb hl) (by decide)
  have h2 : ((by_ * xs.length : Nat) : Int) ≤ 68719476736 := by omega
  rw [Int.natCast_mul] at h2
  refine ⟨⟨rfl, ?_, ?_, ?_⟩, hq⟩
  · exact Int.natCast_nonneg _
  · show (by_ : Int) * (xs.length : Int) ≤ 140737488355328; omega
  · show (xs.length : Int) ≤ 4611686018427387904; omega
theorem goAdd (hg : g = G0 P n0 N) (a b : Int) : g .w .add .i64 a b = wrap64 (a + b) := by subst hg; exact IntWalk.i64_left _
theorem goSub (hg : g = G0 P n0 N) (a b : Int) : g .w .sub .i64 a b = wrap64 (a - b) := by subst hg; exact IntWalk.i64_left _
theorem goMul (hg : g = G0 P n0 N) (a b : Int) : g .w .mul .i64 a b = wrap64 (a * b) := by subst hg; exact IntWalk.i64_left _
theorem goLss (hg : g = G0 P n0 N) (a b : Int) : g .q .lss a b = decide (a < b) := by subst hg; rfl
theorem goLeq (hg : g = G0 P n0 N) (a b : Int) : g .q .leq a b = decide (a ≤ b) := by subst hg; rfl
theorem goGtr (hg : g = G0 P n0 N) (a b : Int) : g .q .gtr a b = decide (a > b) := by subst hg; rfl
theorem goGeq (hg : g = G0 P n0 N) (a b : Int) : g .q .geq a b = decide (a ≥ b) := by subst hg; rfl
theorem goEql (hg : g = G0 P n0 N) (a b : Int) : g .q .eql a b = (a == b) := by subst hg; rfl
theorem goNeq (hg : g = G0 P n0 N) (a b : Int) : g .q .neq a b = (a != b) := by subst hg; rfl
/-- A loop's state over an empty heap. -/
theorem wk0 {T : Nat → AV} {l' : List (Nat × AV)} (hk : rnK [] [] T l') : Wk 0 T [] l' [] [] := ⟨Nat.le_refl _, fun i hi => absurd hi (Nat.not_lt_zero _), List.nodup_nil, trivial, hk⟩
theorem goNeqB (hg : g = G0 P n0 N) (a b : Bool) : g .qb .neq a b = (a != b) := by subst hg; rfl
theorem goEqlB (hg : g = G0 P n0 N) (a b : Bool) : g .qb .eql a b = (a == b) := by subst hg; rfl
def plainE (es : List (List AC)) : Bool := es.all fun x => x.all plain
/-- The blocks that are kept, each as it is. -/
def selOk (h : AH) : List Nat → AH → Prop
  | [], [] => True
  | j :: ρ, e :: es => (∃ ab, h[j]? = some (.live ab) ∧ e = .live ab ∧ plainE ab.es = true) ∧ selOk h ρ es
  | _, _ => False
theorem selOk_rnH {h h' : AH} : ∀ (ρ : List Nat) (es : AH) (pre : List Nat), selOk h ρ es → rnH 0 ((pre ++ ρ).map some) h' h pre.length es
  | [], [], pre, _ => trivial
  | [], _ :: _, _, h => h.elim
  | _ :: _, [], _, h => h.elim
  | j :: ρ, e :: es, pre, hs => by
    obtain ⟨⟨ab, h1, rfl, h3⟩, h4⟩ := hs
    have := selOk_rnH (h' := h') ρ es (pre ++ [j]) h4
    rw [List.append_assoc, List.singleton_append, List.length_append, List.length_singleton] at this
    unfold rnH
    refine ⟨fun hi => absurd hi (Nat.not_lt_zero _), ?_, this⟩
    have e1 : (List.map some (pre ++ j :: ρ))[pre.length]? = some (some j) := by simp
    simp only [e1, h1]
    exact ⟨by first | trivial | rfl, by first | trivial | rfl, .inl ⟨by first | trivial | rfl, h3⟩⟩
theorem nodup_ids : ∀ (ρ : List Nat), (ρ.map some).filterMap id = ρ
  | [] => rfl
  | j :: ρ => by simp
theorem wkS {T : Nat → AV} {h h' : AH} {l' : List (Nat × AV)} (ρ : List Nat) (hn : ρ.Nodup) (hs : selOk h ρ h') (hk : rnK (ρ.map some) h' T l') : Wk 0 T h l' h' (ρ.map some) :=
  ⟨Nat.zero_le _, fun i hi => absurd hi (Nat.not_lt_zero _), by rw [nodup_ids]; exact hn, selOk_rnH ρ h' [] hs, hk⟩
/-- The round's end of a loop. -/
theorem back {S : Type} {ok : S → Prop} {μ : S → Nat} {s : S} {Tf : S → List (Nat × AV)} {hf : S → EH} {B : List (Nat × AV) → EH → Prop} {l : List (Nat × AV)} {h : EH}
    (hB : B = fun l' h' => ∃ s' ρ, ok s' ∧ μ s' < μ s ∧ Wk n0 (lkT l') (toH h') (Tf s') (toH (hf s')) ρ) (s' : S) (ρ : List (Option Nat)) (hw : Wk n0 (lkT l) (toH h) (Tf s') (toH (hf s')) ρ) (h1 : ok s') (h2 : μ s' < μ s) : B l h := by
  subst hB; exact ⟨s', ρ, h1, h2, hw⟩
theorem goMn (hg : g = G0 P n0 N) (a b : Int) : g .mn a b = if b < a then b else a := by subst hg; rfl
theorem goMx (hg : g = G0 P n0 N) (a b : Int) : g .mx a b = if a < b then b else a := by subst hg; rfl
/-- The end of a function that returns one number, one bool. -/
theorem fin0i {F : List AT → EH → Prop} {eh : EH} {m z : Int} (hF : F = FinP 0 (fun res h' => ∃ rows, h' = rows.map .live ∧ (res = .t (.c (.imm (.int .i64 m))) ∧ rows = []))) (h : z = m) : F [.c (.imm (.int .i64 z))] eh := by
  subst h; exact fin0 hF rfl ⟨rfl, rfl⟩
theorem fin0b {F : List AT → EH → Prop} {eh : EH} {m z : Bool} (hF : F = FinP 0 (fun res h' => ∃ rows, h' = rows.map .live ∧ (res = .t (.c (.imm (.bool m))) ∧ rows = []))) (h : z = m) : F [.c (.imm (.bool z))] eh := by
  subst h; exact fin0 hF rfl ⟨rfl, rfl⟩
/-- Arguments read as data: an own row as what stands in it. -/
def ResA (h : AH) : List AT → List AT → Prop
  | [], [] => True
  | .c c :: xs, .c d :: ys => ResC h c d ∧ ResA h xs ys
  | .agg a :: xs, .agg b :: ys => (a = b ∧ a.all dat = true) ∧ ResA h xs ys
  | _, _ => False
theorem resDat {h : AH} {c : AC} (hc : dat c = true) : ResC h c c := by
  cases c <;> first | exact .imm _ | exact .view _ | cases hc
theorem resRow {h : AH} {r : Nat} {ab : AB} (hn : h[r]? = some (.live ab)) (hk : ∀ x ∈ ab.es, x.length = ab.k) (hd : ∀ x ∈ ab.es, x.all dat = true) : ResC h (.own r) (.view ab.es) :=
  .row (.own r) ab.es ab.es ab.k (.inl ⟨r, ab, rfl, hn, rfl, rfl⟩) rfl (fun i x hx => hk x (List.mem_of_getElem? hx)) (fun i x hx => hk x (List.mem_of_getElem? hx)) fun i x y hx hy j c d hc hd' => by
    rw [hx] at hy
    cases hy
    rw [hc] at hd'
    cases hd'
    exact resDat (List.all_eq_true.1 (hd x (List.mem_of_getElem? hx)) c (List.mem_of_getElem? hc))
theorem resA_len {h : AH} : ∀ (xs ys : List AT), ResA h xs ys → ys.length = xs.length
  | [], [], _ => rfl
  | [], _ :: _, h => by simp [ResA] at h
  | .c _ :: _, [], h => h.elim
  | .agg _ :: _, [], h => h.elim
  | .c _ :: xs, .c _ :: ys, h => by simp [resA_len xs ys h.2]
  | .agg _ :: xs, .agg _ :: ys, h => by simp [resA_len xs ys h.2]
  | .c _ :: _, .agg _ :: _, h => h.elim
  | .agg _ :: _, .c _ :: _, h => h.elim
theorem resA_at {h : AH} : ∀ (xs ys : List AT), ResA h xs ys → ∀ (j : Nat) (x y : AT), xs[j]? = some x → ys[j]? = some y → (∃ c d, x = .c c ∧ y = .c d ∧ ResC h c d) ∨ ∃ xs ys, x = .agg xs ∧ y = .agg ys ∧ xs.length = ys.length ∧ ∀ (i : Nat) (c d : AC), xs[i]? = some c → ys[i]? = some d → ResC h c d
  | [], _, _, j, x, y, hx, _ => by simp at hx
  | .c c :: xs, .c d :: ys, h, j, x, y, hx, hy => by
    cases j with
    | zero => simp at hx hy; subst hx hy; exact .inl ⟨c, d, rfl, rfl, h.1⟩
    | succ j => exact resA_at xs ys h.2 j x y (by simpa using hx) (by simpa using hy)
  | .agg a :: xs, .agg b :: ys, h, j, x, y, hx, hy => by
    cases j with
    | zero =>
      simp at hx hy
      subst hx hy
      obtain ⟨⟨rfl, hd⟩, _⟩ := h
      refine .inr ⟨a, a, rfl, rfl, rfl, fun i c d hc hd' => ?_⟩
      rw [hc] at hd'
      cases hd'
      exact resDat (List.all_eq_true.1 hd c (List.mem_of_getElem? hc))
    | succ j => exact resA_at xs ys h.2 j x y (by simpa using hx) (by simpa using hy)
  | .c _ :: _, [], h, _, _, _, _, _ => h.elim
  | .agg _ :: _, [], h, _, _, _, _, _ => h.elim
  | .c _ :: _, .agg _ :: _, h, _, _, _, _, _ => h.elim
  | .agg _ :: _, .c _ :: _, h, _, _, _, _, _ => h.elim
/-- No row and no view in it. -/
def bareV : AV → Bool
  | .t (.c (.imm _)) => true
  | .t (.agg xs) => xs.all fun c => match c with | .imm _ => true | _ => false
  | _ => false
theorem bare_plain {r : AV} (hr : bareV r = true) : plainV r = true := by
  match r, hr with
  | .t (.c (.imm _)), _ => rfl
  | .t (.agg xs), h =>
    simp only [bareV, List.all_eq_true] at h
    show xs.all plain = true
    rw [List.all_eq_true]
    intro c hc
    have := h c hc
    cases c <;> first | rfl | cases this
theorem bare_fresh {r : AV} (hr : bareV r = true) : r.fresh = true := by
  match r, hr with
  | .t (.c (.imm _)), _ => rfl
  | .t (.agg xs), h =>
    simp only [bareV, List.all_eq_true] at h
    show xs.all AC.fresh = true
    rw [List.all_eq_true]
    intro c hc
    have := h c hc
    cases c <;> first | rfl | cases this
theorem pcall_res {f : FuncId} {h : AH} {n : Nat} {args args' : List AT} {r : AV} {K : AV → List AB → Prop} (hc : PCon P f args' fun res rows => res = r ∧ rows = []) (ha : ResA h args args') (hr : bareV r = true) (hK : K r []) : pcall P f h n args K :=
  ⟨args', _, hc, .inr ⟨resA_len _ _ ha, resA_at _ _ ha, fun res rows hp => by
    obtain ⟨rfl, rfl⟩ := hp
    exact ⟨bare_fresh hr, fun ab hab => by simp at hab, by rw [plain_shiftV (bare_plain hr)]; exact hK⟩⟩⟩
/-- A call whose arguments hold own rows, and whose value is bare. -/
theorem callR (hg : g = G0 P n0 N) {h : EH} {f : FuncId} {args args' : List AT} {K : AV → EH → Prop} {r : AV} (hc : PCon P f args' fun res rows => res = r ∧ rows = []) (ha : ResA (toH h) args args') (hr : bareV r = true) (hK : K r (h ++ [])) : g .C f h args K :=
  callC hg (pcall_res hc ha hr ⟨[], rfl, hK⟩)
theorem callRP (hg : g = G0 P n0 N) {h : EH} {n : Nat} {f : FuncId} {args args' : List AT} {K : AV → EH → Prop} {r : AV} (hc : PCon P f args' fun res rows => res = r ∧ rows = []) (ha : ResA (toH h) args args') (hr : bareV r = true) (hK : K r []) : g .PC f h n args K := by
  subst hg
  exact ⟨r, [], pcall_res hc ha hr ⟨rfl, rfl⟩, [], rfl, hK⟩
end
end Go.Proofs.YtgcofllgbdcicaaGreat.Am
