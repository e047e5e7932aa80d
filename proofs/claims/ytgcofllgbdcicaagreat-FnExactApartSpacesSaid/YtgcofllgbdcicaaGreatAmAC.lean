/- A part of AM, a framework of the prover own: functions of any program as maps of data. -/
import Derived.Test.YtgcofllgbdcicaaGreatAmAB
namespace Go.Proofs.YtgcofllgbdcicaaGreat.Am
open Go.RowKit
set_option linter.unusedVariables false
set_option linter.unusedSimpArgs false
section
variable {P : Program} {n0 N n : Nat} {g : Gd}
/-- The end of a function that returns nil: an empty row. -/
theorem finNil {F : List AT → EH → Prop} {Post : AV → List AB → Prop} {eh : EH} (t k : Nat) (hF : F = FinP 0 (fun res h' => ∃ rows, h' = rows.map .live ∧ Post res rows))
    (hpost : Post (.t (.c (.own 0))) [⟨t, k, []⟩]) : F [.c (.imm (.slice none 0 0))] eh := by
  subst hF
  refine .inl ⟨.t (.c (.own 0)), [.live ⟨t, k, []⟩], [none], ⟨Nat.zero_le _, fun i hi => absurd hi (Nat.not_lt_zero _), by simp, ?_, ?_⟩, [⟨t, k, []⟩], rfl, hpost⟩
  · simp only [rnH, List.getElem?_cons_zero]
    exact ⟨fun h => absurd h (Nat.not_lt_zero _), rfl, trivial⟩
  · refine ⟨?_, trivial⟩
    show rnC [none] [.live ⟨t, k, []⟩] (.own 0) (.imm (.slice none 0 0))
    rfl
/-- The end of a function that returns one new row: its type and cells are known. -/
theorem finRow {F : List AT → EH → Prop} {r : Nat} {eh : EH} {ab : AB} (hF : F = FinP 0 (fun res h' => ∃ rows, h' = rows.map .live ∧ (res = .t (.c (.own 0)) ∧ rows = [ab]))) (hr : nth eh r = some (.rw ab)) (hp : plainE ab.es = true) : F [.c (.own r)] eh :=
  fin1 ab hF hr hp ⟨rfl, rfl⟩
/-- A loop that begins with a nil row, and with nothing else. -/
theorem wkN {T : Nat → AV} {h : AH} {l' : List (Nat × AV)} (t k : Nat) (hk : rnK [none] [.live ⟨t, k, []⟩] T l') : Wk 0 T h l' [.live ⟨t, k, []⟩] [none] :=
  ⟨Nat.zero_le _, fun i hi => absurd hi (Nat.not_lt_zero _), by simp, by
    simp only [rnH, List.getElem?_cons_zero]
    exact ⟨fun h => absurd h (Nat.not_lt_zero _), rfl, trivial⟩, hk⟩
theorem resA_nil {h : AH} : ResA h [] [] := trivial
theorem resA_c {h : AH} {c d : AC} {xs ys : List AT} (h1 : ResC h c d) (h2 : ResA h xs ys) : ResA h (.c c :: xs) (.c d :: ys) := ⟨h1, h2⟩
theorem resA_agg {h : AH} {a : List AC} {xs ys : List AT} (hd : a.all dat = true) (h2 : ResA h xs ys) : ResA h (.agg a :: xs) (.agg a :: ys) := ⟨⟨rfl, hd⟩, h2⟩
theorem dat_data : ∀ {args : List AT}, datA args = true → ∀ {h : AH}, ResA h args args
  | [], _, _ => trivial
  | .c c :: xs, hp, h => by
    simp only [datA, Bool.and_eq_true] at hp
    exact ⟨resDat (by simpa [AT.cells] using hp.1), dat_data hp.2⟩
  | .agg a :: xs, hp, h => by
    simp only [datA, Bool.and_eq_true] at hp
    exact ⟨⟨rfl, by simpa [AT.cells] using hp.1⟩, dat_data hp.2⟩
theorem plain_fresh {es : List (List AC)} (h : es.all (fun x => x.all fun c => match c with | .imm _ => true | _ => false) = true) (t k : Nat) : AB.fresh ⟨t, k, es⟩ = true := by
  simp only [AB.fresh, List.all_eq_true] at h ⊢
  intro x hx c hc
  have := h x hx c hc
  cases c <;> first | rfl | cases this
def immE (es : List (List AC)) : Bool := es.all fun x => x.all fun c => match c with | .imm _ => true | _ => false
theorem imm_plainE {es : List (List AC)} (h : immE es = true) : plainE es = true := by
  simp only [immE, plainE, List.all_eq_true] at h ⊢
  intro x hx c hc
  have := h x hx c hc
  cases c <;> first | rfl | cases this
theorem shift_row {ab : AB} (h : plainE ab.es = true) (n : Nat) : AB.shift n ab = ab := by
  obtain ⟨t, k, es⟩ := ab
  exact congrArg (AB.mk t k) (plain_shiftE h)
/-- A call that returns one new row of plain cells. -/
theorem callRow (hg : g = G0 P n0 N) {h : EH} {f : FuncId} {args args' : List AT} {K : AV → EH → Prop} {ab : AB} (hc : PCon P f args' fun res rows => res = .t (.c (.own 0)) ∧ rows = [ab]) (ha : ResA (toH h) args args') (hp : immE ab.es = true)
    (hK : K (.t (.c (.own (lenL h)))) (h ++ [.rw ab])) : g .C f h args K := by
  refine callC hg ⟨args', _, hc, .inr ⟨resA_len _ _ ha, resA_at _ _ ha, fun res rows hpost => ?_⟩⟩
  obtain ⟨rfl, rfl⟩ := hpost
  refine ⟨rfl, fun ab' hab => ?_, [.rw ab], ?_, ?_⟩
  · obtain rfl := List.mem_singleton.1 hab
    exact plain_fresh hp _ _
  · simp only [List.map_cons, List.map_nil, shift_row (imm_plainE hp)]; rfl
  · rw [lenL_eq] at hK; rw [toH_len]; exact hK
theorem callRowP (hg : g = G0 P n0 N) {h : EH} {n : Nat} {f : FuncId} {args args' : List AT} {K : AV → EH → Prop} {ab : AB} (hc : PCon P f args' fun res rows => res = .t (.c (.own 0)) ∧ rows = [ab]) (ha : ResA (toH h) args args') (hp : immE ab.es = true)
    (hK : K (.t (.c (.own n))) [.rw ab]) : g .PC f h n args K := by
  subst hg
  refine ⟨.t (.c (.own n)), [ab], ⟨args', _, hc, .inr ⟨resA_len _ _ ha, resA_at _ _ ha, fun res rows hpost => ?_⟩⟩, [.rw ab], rfl, hK⟩
  obtain ⟨rfl, rfl⟩ := hpost
  refine ⟨rfl, fun ab' hab => ?_, rfl, ?_⟩
  · obtain rfl := List.mem_singleton.1 hab
    exact plain_fresh hp _ _
  · simp only [List.map_cons, List.map_nil, shift_row (imm_plainE hp)]
theorem below_step {F : Nat → Prop} {w w' : World} (hF : ∀ b, F b → b < w.heap.size) (hb : Below w.heap.size w w') : Step F w [] [] w' [] [] := by
  obtain ⟨h1, h2, h3, h4, h5⟩ := hb
  exact ⟨RH.empty fun b h => Nat.lt_of_lt_of_le (hF b h) h4, Keeps.refl _ _, h1, h2, h3, h4, fun b hb _ => h5 b hb, fun r ab b c hr => by simp at hr⟩
/-- From a walk over the machine to a contract over data. -/
theorem pcon_of_calls {f : FuncId} {args : List AT} {us : List Value} {r : AV} {v : Value} (hk : callOk P f = true) (hlen : us.length = args.length)
    (ha : ∀ (F : Nat → Prop) (w : World) (j : Nat) (x : AT) (u : Value), args[j]? = some x → RT F w [] [] x u → us[j]? = some u) (hr : ∀ (F : Nat → Prop) (w : World), RV F w [] [] r v)
    (hc : ∀ w, Calls P f us.toArray w fun e w' => e = .returned v ∧ Below w.heap.size w w') : PCon P f args fun res rows => res = r ∧ rows = [] :=
  ⟨hk, fun F w m vs hH hl hv => by
    have hm : m = [] := by have := hH.len; simpa using this
    subst hm
    have hvs : vs = us := by
      refine List.ext_getElem? fun j => ?_
      by_cases hj : j < args.length
      · obtain ⟨v, h1, h2⟩ := hv j args[j] (List.getElem?_eq_getElem hj)
        rw [h1, ha F w j _ v (List.getElem?_eq_getElem hj) h2]
      · rw [List.getElem?_eq_none (by omega), List.getElem?_eq_none (by omega)]
    subst hvs
    exact (hc w).mono fun e w' ⟨he, hb⟩ => ⟨v, r, [], [], F, he, ⟨[], rfl, rfl, rfl⟩, Grow.refl _ _ _ _, below_step hH.old hb, hr F w'⟩⟩
/-- Calls whose value is one number, one bool, a pair of numbers: the value is a name from then on. -/
theorem callI (hg : g = G0 P n0 N) {h : EH} {f : FuncId} {args : List AT} {K : AV → EH → Prop} {r : Int} (hc : PCon P f args fun res rows => res = .t (.c (.imm (.int .i64 r))) ∧ rows = []) (hp : datA args = true)
    (hK : ∀ R, R = r → K (.t (.c (.imm (.int .i64 R)))) (h ++ [])) : g .C f h args K := call0 hg hc hp rfl (hK r rfl)
theorem callIP (hg : g = G0 P n0 N) {h : EH} {n : Nat} {f : FuncId} {args : List AT} {K : AV → EH → Prop} {r : Int} (hc : PCon P f args fun res rows => res = .t (.c (.imm (.int .i64 r))) ∧ rows = []) (hp : datA args = true)
    (hK : ∀ R, R = r → K (.t (.c (.imm (.int .i64 R)))) []) : g .PC f h n args K := call0P hg hc hp rfl (hK r rfl)
theorem callB (hg : g = G0 P n0 N) {h : EH} {f : FuncId} {args : List AT} {K : AV → EH → Prop} {r : Bool} (hc : PCon P f args fun res rows => res = .t (.c (.imm (.bool r))) ∧ rows = []) (hp : datA args = true)
    (hK : ∀ R, R = r → K (.t (.c (.imm (.bool R)))) (h ++ [])) : g .C f h args K := call0 hg hc hp rfl (hK r rfl)
theorem callBP (hg : g = G0 P n0 N) {h : EH} {n : Nat} {f : FuncId} {args : List AT} {K : AV → EH → Prop} {r : Bool} (hc : PCon P f args fun res rows => res = .t (.c (.imm (.bool r))) ∧ rows = []) (hp : datA args = true)
    (hK : ∀ R, R = r → K (.t (.c (.imm (.bool R)))) []) : g .PC f h n args K := call0P hg hc hp rfl (hK r rfl)
theorem callV (hg : g = G0 P n0 N) {h : EH} {f : FuncId} {args : List AT} {K : AV → EH → Prop} {r s : Int} (hc : PCon P f args fun res rows => res = .t (.agg [.imm (.int .i64 r), .imm (.int .i64 s)]) ∧ rows = []) (hp : datA args = true)
    (hK : ∀ R S, R = r → S = s → K (.t (.agg [.imm (.int .i64 R), .imm (.int .i64 S)])) (h ++ [])) : g .C f h args K := call0 hg hc hp rfl (hK r s rfl rfl)
theorem callVP (hg : g = G0 P n0 N) {h : EH} {n : Nat} {f : FuncId} {args : List AT} {K : AV → EH → Prop} {r s : Int} (hc : PCon P f args fun res rows => res = .t (.agg [.imm (.int .i64 r), .imm (.int .i64 s)]) ∧ rows = []) (hp : datA args = true)
    (hK : ∀ R S, R = r → S = s → K (.t (.agg [.imm (.int .i64 R), .imm (.int .i64 S)])) []) : g .PC f h n args K := call0P hg hc hp rfl (hK r s rfl rfl)
theorem fin0v {F : List AT → EH → Prop} {eh : EH} {a b r s : Int} (hF : F = FinP 0 (fun res h' => ∃ rows, h' = rows.map .live ∧ (res = .t (.agg [.imm (.int .i64 r), .imm (.int .i64 s)]) ∧ rows = []))) (h : a = r ∧ b = s) : F [.agg [.imm (.int .i64 a), .imm (.int .i64 b)]] eh := by
  obtain ⟨rfl, rfl⟩ := h; exact fin0 hF rfl ⟨rfl, rfl⟩
theorem goQuo (hg : g = G0 P n0 N) (a b : Int) : g .w .quo .i64 a b = wrap64 (a.tdiv b) := by subst hg; exact IntWalk.i64_left _
theorem goRem (hg : g = G0 P n0 N) (a b : Int) : g .w .rem .i64 a b = a.tmod b := by subst hg; rfl
theorem goNg (hg : g = G0 P n0 N) (a : Int) : g .ng .i64 a = wrap64 (0 - a) := by subst hg; exact IntWalk.i64_left _
theorem goNZ (hg : g = G0 P n0 N) {b : Int} {q : Prop} (hb : b ≠ 0) (hq : q) : g .N (b ≠ 0) q := by subst hg; exact ⟨hb, hq⟩
theorem callE (hg : g = G0 P n0 N) {h : EH} {f : FuncId} {args : List AT} {K : AV → EH → Prop} {r0 : Int} {r1 : Int} {r2 : Int} {r3 : Int} (hc : PCon P f args fun res rows => res = .t (.agg [.imm (.int .i64 r0), .imm (.int .i64 r1), .imm (.int .i64 r2), .imm (.int .i64 r3)]) ∧ rows = []) (hp : datA args = true)
    (hK : ∀ R0 R1 R2 R3, R0 = r0 → R1 = r1 → R2 = r2 → R3 = r3 → K (.t (.agg [.imm (.int .i64 R0), .imm (.int .i64 R1), .imm (.int .i64 R2), .imm (.int .i64 R3)])) (h ++ [])) : g .C f h args K := call0 hg hc hp rfl (hK _ _ _ _ rfl rfl rfl rfl)
theorem callEP (hg : g = G0 P n0 N) {h : EH} {n : Nat} {f : FuncId} {args : List AT} {K : AV → EH → Prop} {r0 : Int} {r1 : Int} {r2 : Int} {r3 : Int} (hc : PCon P f args fun res rows => res = .t (.agg [.imm (.int .i64 r0), .imm (.int .i64 r1), .imm (.int .i64 r2), .imm (.int .i64 r3)]) ∧ rows = []) (hp : datA args = true)
    (hK : ∀ R0 R1 R2 R3, R0 = r0 → R1 = r1 → R2 = r2 → R3 = r3 → K (.t (.agg [.imm (.int .i64 R0), .imm (.int .i64 R1), .imm (.int .i64 R2), .imm (.int .i64 R3)])) []) : g .PC f h n args K := call0P hg hc hp rfl (hK _ _ _ _ rfl rfl rfl rfl)
theorem fin0e {F : List AT → EH → Prop} {eh : EH} {r0 : Int} {r1 : Int} {r2 : Int} {r3 : Int} {R0 : Int} {R1 : Int} {R2 : Int} {R3 : Int} (hF : F = FinP 0 (fun res h' => ∃ rows, h' = rows.map .live ∧ (res = .t (.agg [.imm (.int .i64 r0), .imm (.int .i64 r1), .imm (.int .i64 r2), .imm (.int .i64 r3)]) ∧ rows = []))) (h : R0 = r0 ∧ R1 = r1 ∧ R2 = r2 ∧ R3 = r3) : F [.agg [.imm (.int .i64 R0), .imm (.int .i64 R1), .imm (.int .i64 R2), .imm (.int .i64 R3)]] eh := by
  obtain ⟨rfl, rfl, rfl, rfl⟩ := h; exact fin0 hF rfl ⟨rfl, rfl⟩
theorem callP (hg : g = G0 P n0 N) {h : EH} {f : FuncId} {args : List AT} {K : AV → EH → Prop} {r0 : Int} {r1 : Int} (hc : PCon P f args fun res rows => res = .tup [.c (.imm (.int .i64 r0)), .c (.imm (.int .i64 r1))] ∧ rows = []) (hp : datA args = true)
    (hK : ∀ R0 R1, R0 = r0 → R1 = r1 → K (.tup [.c (.imm (.int .i64 R0)), .c (.imm (.int .i64 R1))]) (h ++ [])) : g .C f h args K := call0 hg hc hp rfl (hK _ _ rfl rfl)
theorem callPP (hg : g = G0 P n0 N) {h : EH} {n : Nat} {f : FuncId} {args : List AT} {K : AV → EH → Prop} {r0 : Int} {r1 : Int} (hc : PCon P f args fun res rows => res = .tup [.c (.imm (.int .i64 r0)), .c (.imm (.int .i64 r1))] ∧ rows = []) (hp : datA args = true)
    (hK : ∀ R0 R1, R0 = r0 → R1 = r1 → K (.tup [.c (.imm (.int .i64 R0)), .c (.imm (.int .i64 R1))]) []) : g .PC f h n args K := call0P hg hc hp rfl (hK _ _ rfl rfl)
theorem fin0p {F : List AT → EH → Prop} {eh : EH} {r0 : Int} {r1 : Int} {R0 : Int} {R1 : Int} (hF : F = FinP 0 (fun res h' => ∃ rows, h' = rows.map .live ∧ (res = .tup [.c (.imm (.int .i64 r0)), .c (.imm (.int .i64 r1))] ∧ rows = []))) (h : R0 = r0 ∧ R1 = r1) : F [.c (.imm (.int .i64 R0)), .c (.imm (.int .i64 R1))] eh := by
  obtain ⟨rfl, rfl⟩ := h; exact fin0 hF rfl ⟨rfl, rfl⟩
theorem callQ (hg : g = G0 P n0 N) {h : EH} {f : FuncId} {args : List AT} {K : AV → EH → Prop} {r0 : Int} {r1 : Bool} (hc : PCon P f args fun res rows => res = .tup [.c (.imm (.int .i64 r0)), .c (.imm (.bool r1))] ∧ rows = []) (hp : datA args = true)
    (hK : ∀ R0 R1, R0 = r0 → R1 = r1 → K (.tup [.c (.imm (.int .i64 R0)), .c (.imm (.bool R1))]) (h ++ [])) : g .C f h args K := call0 hg hc hp rfl (hK _ _ rfl rfl)
theorem callQP (hg : g = G0 P n0 N) {h : EH} {n : Nat} {f : FuncId} {args : List AT} {K : AV → EH → Prop} {r0 : Int} {r1 : Bool} (hc : PCon P f args fun res rows => res = .tup [.c (.imm (.int .i64 r0)), .c (.imm (.bool r1))] ∧ rows = []) (hp : datA args = true)
    (hK : ∀ R0 R1, R0 = r0 → R1 = r1 → K (.tup [.c (.imm (.int .i64 R0)), .c (.imm (.bool R1))]) []) : g .PC f h n args K := call0P hg hc hp rfl (hK _ _ rfl rfl)
theorem fin0q {F : List AT → EH → Prop} {eh : EH} {r0 : Int} {r1 : Bool} {R0 : Int} {R1 : Bool} (hF : F = FinP 0 (fun res h' => ∃ rows, h' = rows.map .live ∧ (res = .tup [.c (.imm (.int .i64 r0)), .c (.imm (.bool r1))] ∧ rows = []))) (h : R0 = r0 ∧ R1 = r1) : F [.c (.imm (.int .i64 R0)), .c (.imm (.bool R1))] eh := by
  obtain ⟨rfl, rfl⟩ := h; exact fin0 hF rfl ⟨rfl, rfl⟩
theorem callW (hg : g = G0 P n0 N) {h : EH} {f : FuncId} {args : List AT} {K : AV → EH → Prop} {r0 : Int} {r1 : Int} {r2 : Int} {r3 : Int} (hc : PCon P f args fun res rows => res = .tup [.agg [.imm (.int .i64 r0), .imm (.int .i64 r1)], .agg [.imm (.int .i64 r2), .imm (.int .i64 r3)]] ∧ rows = []) (hp : datA args = true)
    (hK : ∀ R0 R1 R2 R3, R0 = r0 → R1 = r1 → R2 = r2 → R3 = r3 → K (.tup [.agg [.imm (.int .i64 R0), .imm (.int .i64 R1)], .agg [.imm (.int .i64 R2), .imm (.int .i64 R3)]]) (h ++ [])) : g .C f h args K := call0 hg hc hp rfl (hK _ _ _ _ rfl rfl rfl rfl)
theorem callWP (hg : g = G0 P n0 N) {h : EH} {n : Nat} {f : FuncId} {args : List AT} {K : AV → EH → Prop} {r0 : Int} {r1 : Int} {r2 : Int} {r3 : Int} (hc : PCon P f args fun res rows => res = .tup [.agg [.imm (.int .i64 r0), .imm (.int .i64 r1)], .agg [.imm (.int .i64 r2), .imm (.int .i64 r3)]] ∧ rows = []) (hp : datA args = true)
    (hK : ∀ R0 R1 R2 R3, R0 = r0 → R1 = r1 → R2 = r2 → R3 = r3 → K (.tup [.agg [.imm (.int .i64 R0), .imm (.int .i64 R1)], .agg [.imm (.int .i64 R2), .imm (.int .i64 R3)]]) []) : g .PC f h n args K := call0P hg hc hp rfl (hK _ _ _ _ rfl rfl rfl rfl)
theorem fin0w {F : List AT → EH → Prop} {eh : EH} {r0 : Int} {r1 : Int} {r2 : Int} {r3 : Int} {R0 : Int} {R1 : Int} {R2 : Int} {R3 : Int} (hF : F = FinP 0 (fun res h' => ∃ rows, h' = rows.map .live ∧ (res = .tup [.agg [.imm (.int .i64 r0), .imm (.int .i64 r1)], .agg [.imm (.int .i64 r2), .imm (.int .i64 r3)]] ∧ rows = []))) (h : R0 = r0 ∧ R1 = r1 ∧ R2 = r2 ∧ R3 = r3) : F [.agg [.imm (.int .i64 R0), .imm (.int .i64 R1)], .agg [.imm (.int .i64 R2), .imm (.int .i64 R3)]] eh := by
  obtain ⟨rfl, rfl, rfl, rfl⟩ := h; exact fin0 hF rfl ⟨rfl, rfl⟩
theorem callF (hg : g = G0 P n0 N) {h : EH} {f : FuncId} {args : List AT} {K : AV → EH → Prop} {r0 : Int} {r1 : Int} {r2 : Int} {r3 : Int} {r4 : Int} (hc : PCon P f args fun res rows => res = .t (.agg [.imm (.int .i64 r0), .imm (.int .i64 r1), .imm (.int .i64 r2), .imm (.int .i64 r3), .imm (.int .i64 r4)]) ∧ rows = []) (hp : datA args = true)
    (hK : ∀ R0 R1 R2 R3 R4, R0 = r0 → R1 = r1 → R2 = r2 → R3 = r3 → R4 = r4 → K (.t (.agg [.imm (.int .i64 R0), .imm (.int .i64 R1), .imm (.int .i64 R2), .imm (.int .i64 R3), .imm (.int .i64 R4)])) (h ++ [])) : g .C f h args K := call0 hg hc hp rfl (hK _ _ _ _ _ rfl rfl rfl rfl rfl)
theorem callFP (hg : g = G0 P n0 N) {h : EH} {n : Nat} {f : FuncId} {args : List AT} {K : AV → EH → Prop} {r0 : Int} {r1 : Int} {r2 : Int} {r3 : Int} {r4 : Int} (hc : PCon P f args fun res rows => res = .t (.agg [.imm (.int .i64 r0), .imm (.int .i64 r1), .imm (.int .i64 r2), .imm (.int .i64 r3), .imm (.int .i64 r4)]) ∧ rows = []) (hp : datA args = true)
    (hK : ∀ R0 R1 R2 R3 R4, R0 = r0 → R1 = r1 → R2 = r2 → R3 = r3 → R4 = r4 → K (.t (.agg [.imm (.int .i64 R0), .imm (.int .i64 R1), .imm (.int .i64 R2), .imm (.int .i64 R3), .imm (.int .i64 R4)])) []) : g .PC f h n args K := call0P hg hc hp rfl (hK _ _ _ _ _ rfl rfl rfl rfl rfl)
theorem fin0f {F : List AT → EH → Prop} {eh : EH} {r0 : Int} {r1 : Int} {r2 : Int} {r3 : Int} {r4 : Int} {R0 : Int} {R1 : Int} {R2 : Int} {R3 : Int} {R4 : Int} (hF : F = FinP 0 (fun res h' => ∃ rows, h' = rows.map .live ∧ (res = .t (.agg [.imm (.int .i64 r0), .imm (.int .i64 r1), .imm (.int .i64 r2), .imm (.int .i64 r3), .imm (.int .i64 r4)]) ∧ rows = []))) (h : R0 = r0 ∧ R1 = r1 ∧ R2 = r2 ∧ R3 = r3 ∧ R4 = r4) : F [.agg [.imm (.int .i64 R0), .imm (.int .i64 R1), .imm (.int .i64 R2), .imm (.int .i64 R3), .imm (.int .i64 R4)]] eh := by
  obtain ⟨rfl, rfl, rfl, rfl, rfl⟩ := h; exact fin0 hF rfl ⟨rfl, rfl⟩
end
end Go.Proofs.YtgcofllgbdcicaaGreat.Am
