/- The laws' own helpers, as maps of data: copies, comparisons, sizes. -/
import Derived.Test.YtacngamcjgkjkaaBr
import Derived.Test.YtacngamcjgkjkaaTab
namespace Go.Proofs.Ytacngamcjgkjkaa
open Go.ChangeShapes Go.WideShapes Go.ChangeAt Go.RowKit Am
set_option linter.unusedVariables false
set_option linter.unusedSimpArgs false
set_option maxRecDepth 100000

abbrev ai (n : Int) : AT := .c (.imm (.int .i64 n))
abbrev abl (b : Bool) : AT := .c (.imm (.bool b))
theorem lc_len (a : Array Value) : (lc a).length = a.size := by simp [lc]
theorem lc_plain (a : Array Value) : (lc a).all plain = true := by simp [lc, plain]
theorem vw_plain {α : Type} (c : α → Array Value) (xs : List α) : plainE (vw c xs) = true := by
  simp only [plainE, vw, List.all_map, List.all_eq_true]
  intro x _
  exact lc_plain _
theorem set_at {α : Type} {es : List α} {j i : Nat} {x : α} (hj : j < es.length) : (es.set j x)[i]? = if i = j then some x else es[i]? := by
  rw [List.getElem?_set]
  by_cases h : j = i
  · subst h; simp [hj]
  · rw [if_neg h, if_neg (fun h' => h h'.symm)]
/-- A row that is filled from its start on. -/
structure Fill (k : Nat) (V es : List (List AC)) (z : Int) : Prop where
  z0 : 0 ≤ z
  z1 : z ≤ lenI V
  len : es.length = V.length
  ks : ∀ e ∈ es, e.length = k
  pl : plainE es = true
  eq : ∀ i : Nat, i < z.toNat → es[i]? = V[i]?
theorem Fill.start {k : Nat} {V : List (List AC)} {z : List AC} (hk : z.length = k) (hp : z.all plain = true) {n : Int} (hn : n = lenI V) : Fill k V (List.replicate n.toNat z) 0 :=
  ⟨by omega, by have := lenI_eq V; omega, by have := lenI_eq V; simp; omega, fun e he => by rw [(List.mem_replicate.1 he).2]; exact hk, by simp [plainE, hp], fun i hi => by simp at hi⟩
theorem Fill.step {k : Nat} {V es : List (List AC)} {z : Int} {j : Nat} {y : List AC} (h : Fill k V es z) (hz : z < lenI V) (hj : j = z.toNat) (hy : V[z.toNat]? = some y) (hk : y.length = k) (hp : y.all plain = true) : Fill k V (es.set j y) (z + 1) := by
  have := h.z0
  have := h.len
  have := lenI_eq V
  refine ⟨by omega, by omega, by simpa using h.len, fun e he => ?_, ?_, fun i hi => ?_⟩
  · rcases List.mem_or_eq_of_mem_set he with h1 | rfl
    · exact h.ks e h1
    · exact hk
  · rw [plainE, List.all_eq_true]
    intro e he
    rcases List.mem_or_eq_of_mem_set he with h1 | rfl
    · exact List.all_eq_true.1 h.pl e h1
    · exact hp
  · rw [set_at (by omega)]
    by_cases hij : i = j
    · rw [if_pos hij, hij, hj, hy]
    · rw [if_neg hij]; exact h.eq i (by omega)
theorem Fill.done {k : Nat} {V es : List (List AC)} {z : Int} (h : Fill k V es z) (hz : ¬ z < lenI V) : es = V := by
  have := lenI_eq V
  have := h.z1
  have := h.len
  refine List.ext_getElem? fun i => ?_
  by_cases hi : i < V.length
  · exact h.eq i (by omega)
  · rw [List.getElem?_eq_none (by omega), List.getElem?_eq_none (by omega)]
theorem Fill.mem {k : Nat} {V es : List (List AC)} {z : Int} (h : Fill k V es z) {j : Nat} (hj : j < es.length) : ∃ e, es[j]? = some e ∧ e.length = k := ⟨es[j], List.getElem?_eq_getElem hj, h.ks _ (List.getElem_mem hj)⟩
def szR (n left : Int) : Int := if left - n < 0 then -1 else left - n
theorem wrap_small (n : Int) (h : -9223372036854775808 ≤ n ∧ n ≤ 9223372036854775807) : wrap64 n = n := IntWalk.wrap64_in n h
theorem laws_toItem_a (x : GItem) : PCon Try.prog 63 [.agg (lc (GItem.c x))] fun res rows => res = .t (.agg (lc (GItem.c x))) ∧ rows = [] := by
  obtain ⟨a0, a1, a2, a3, a4, a5, a6, a7, a8⟩ := x
  refine pcon_run (c := body Try.f63) fits Try.func63 (by kernel_rfl) (by kernel_rfl) (by rfl) (by kernel_rfl) fun g F hg hF => ?_
  cbv
  exact fin0 hF rfl ⟨rfl, rfl⟩
theorem laws_eqItem_a (x y : GItem) : PCon Try.prog 64 [.agg (lc (GItem.c x)), .agg (lc (GItem.c y))] fun res rows => res = .t (abl (decide (x = y))) ∧ rows = [] := by
  obtain ⟨a0, a1, a2, a3, a4, a5, a6, a7, a8⟩ := x
  obtain ⟨b0, b1, b2, b3, b4, b5, b6, b7, b8⟩ := y
  refine pcon_run (c := body Try.f64) fits Try.func64 (by kernel_rfl) (by kernel_rfl) (by rfl) (by kernel_rfl) fun g F hg hF => ?_
  cbv
  cases e0 : g .q .neq a0 b0
  case true =>
    rw [goNeq hg, bne_iff_ne] at e0
    cbv
    exact fin0 hF rfl ⟨by simp [mkV, e0], rfl⟩
  rw [goNeq hg, bne_eq_false_iff_eq] at e0
  subst e0
  cbv
  cases e1 : g .q .neq a1 b1
  case true =>
    rw [goNeq hg, bne_iff_ne] at e1
    cbv
    exact fin0 hF rfl ⟨by simp [mkV, e1], rfl⟩
  rw [goNeq hg, bne_eq_false_iff_eq] at e1
  subst e1
  cbv
  cases e2 : g .q .neq a2 b2
  case true =>
    rw [goNeq hg, bne_iff_ne] at e2
    cbv
    exact fin0 hF rfl ⟨by simp [mkV, e2], rfl⟩
  rw [goNeq hg, bne_eq_false_iff_eq] at e2
  subst e2
  cbv
  cases e3 : g .q .neq a3 b3
  case true =>
    rw [goNeq hg, bne_iff_ne] at e3
    cbv
    exact fin0 hF rfl ⟨by simp [mkV, e3], rfl⟩
  rw [goNeq hg, bne_eq_false_iff_eq] at e3
  subst e3
  cbv
  cases e4 : g .q .neq a4 b4
  case true =>
    rw [goNeq hg, bne_iff_ne] at e4
    cbv
    exact fin0 hF rfl ⟨by simp [mkV, e4], rfl⟩
  rw [goNeq hg, bne_eq_false_iff_eq] at e4
  subst e4
  cbv
  cases e5 : g .q .neq a5 b5
  case true =>
    rw [goNeq hg, bne_iff_ne] at e5
    cbv
    exact fin0 hF rfl ⟨by simp [mkV, e5], rfl⟩
  rw [goNeq hg, bne_eq_false_iff_eq] at e5
  subst e5
  cbv
  cases e6 : g .q .neq a6 b6
  case true =>
    rw [goNeq hg, bne_iff_ne] at e6
    cbv
    exact fin0 hF rfl ⟨by simp [mkV, e6], rfl⟩
  rw [goNeq hg, bne_eq_false_iff_eq] at e6
  subst e6
  cbv
  cases e7 : g .qb .neq a7 b7
  case true =>
    rw [goNeqB hg, bne_iff_ne] at e7
    cbv
    exact fin0 hF rfl ⟨by simp [mkV, e7], rfl⟩
  rw [goNeqB hg, bne_eq_false_iff_eq] at e7
  subst e7
  cbv
  cases e8 : g .qb .neq a8 b8
  case true =>
    rw [goNeqB hg, bne_iff_ne] at e8
    cbv
    exact fin0 hF rfl ⟨by simp [mkV, e8], rfl⟩
  rw [goNeqB hg, bne_eq_false_iff_eq] at e8
  subst e8
  cbv
  exact fin0 hF rfl ⟨by simp [mkV], rfl⟩
theorem laws_szItemS_b (V : List (List AC)) (L : Int) (hV : V.length ≤ 9223372036854775807) (h0 : 0 ≤ L) (h1 : L ≤ 1048576) : PCon Try.prog 34 [.c (.view V), ai L] fun res rows => res = .t (ai (szR (lenI V) L)) ∧ rows = [] := by
  obtain ⟨M, hM⟩ : ∃ M, M = lenI V := ⟨_, rfl⟩
  have hM0 : 0 ≤ M := by rw [hM, lenI_eq]; omega
  have hM1 : M ≤ 9223372036854775807 := by rw [hM, lenI_eq]; omega
  rw [← hM]
  refine pcon_run (c := body Try.f34) fits Try.func34 (by kernel_rfl) (by kernel_rfl) (by rfl) (by kernel_rfl) fun g F hg hF => ?_
  cbv
  have e1 : g .w .sub .i64 L (g .ln V) = L - M := by rw [goSub hg, goLn hg, ← hM, wrap_small _ (by omega)]
  obtain ⟨D, hD⟩ : ∃ D, D = L - M := ⟨_, rfl⟩
  rw [← hD] at e1
  rw [e1]
  cases e : g .q .lss D 0
  · rw [goLss hg, decide_eq_false_iff_not] at e
    cbv
    exact fin0i hF (by unfold szR; rw [← hD, if_neg e])
  · rw [goLss hg, decide_eq_true_eq] at e
    cbv
    exact fin0i hF (by unfold szR; rw [← hD, if_pos e])
theorem laws_szItemS_a (V : List (List AC)) (hV : V.length ≤ 9223372036854775807) : PCon Try.prog 34 [.c (.view V), ai 1048576] fun res rows => res = .t (ai (szR (lenI V) 1048576)) ∧ rows = [] := by
  obtain ⟨L, hL⟩ : ∃ L : Int, L = 1048576 := ⟨_, rfl⟩
  rw [← hL]
  refine pcon_run (c := body Try.f34) fits Try.func34 (by kernel_rfl) (by kernel_rfl) (by rfl) (by kernel_rfl) fun g F hg hF => ?_
  cbv
  have e0 := lenI_eq V
  have e1 : g .w .sub .i64 L (g .ln V) = L - lenI V := by rw [goSub hg, goLn hg, wrap_small _ (by omega)]
  obtain ⟨D, hD⟩ : ∃ D, D = L - lenI V := ⟨_, rfl⟩
  rw [← hD] at e1
  rw [e1]
  cases e : g .q .lss D 0
  · rw [goLss hg, decide_eq_false_iff_not] at e
    have e2 : szR (lenI V) L = D := by unfold szR; rw [← hD, if_neg e]
    cbv
    exact fin0 hF rfl ⟨by rw [e2]; rfl, rfl⟩
  · rw [goLss hg, decide_eq_true_eq] at e
    have e2 : szR (lenI V) L = -1 := by unfold szR; rw [← hD, if_pos e]
    cbv
    exact fin0 hF rfl ⟨by rw [e2]; rfl, rfl⟩
theorem laws_toItemS_a (xs : List GItem) (hl : xs.length ≤ 1048576) : PCon Try.prog 35 [.c (.view (vw GItem.c xs))] fun res rows => ∃ ab, res = .t (.c (.own 0)) ∧ rows = [ab] ∧ (ab.es.all fun x => x.all plain) = true ∧ ab = ⟨35, 9, vw GItem.c xs⟩ := by
  obtain ⟨V, hV⟩ : ∃ V, V = vw GItem.c xs := ⟨_, rfl⟩
  have hVl : V.length = xs.length := by rw [hV, vw_length]
  rw [← hV]
  refine pcon_run (c := body Try.f35) fits Try.func35 (by kernel_rfl) (by kernel_rfl) (by rfl) (by kernel_rfl) fun g F hg hF => ?_
  cbv
  refine goMk hg (by decide) (by rw [hVl]; exact hl) ?_
  cbv
  have hst : Fill 9 V (List.replicate (g .ln V).toNat [.imm (.int .i64 0), .imm (.int .i64 0), .imm (.int .i64 0), .imm (.int .i64 0), .imm (.int .i64 0), .imm (.int .i64 0), .imm (.int .i64 0), .imm (.bool false), .imm (.bool false)]) 0 := Fill.start (k := 9) (z := [.imm (.int .i64 0), .imm (.int .i64 0), .imm (.int .i64 0), .imm (.int .i64 0), .imm (.int .i64 0), .imm (.int .i64 0), .imm (.int .i64 0), .imm (.bool false), .imm (.bool false)]) rfl rfl (goLn hg V)
  refine loop_run hg fits (by kernel_rfl) (fun s : Int × List (List AC) => [(0, .t (.c (.view V))), (3, .t (.c (.own 0))), (4, .t (ai s.1))]) (fun s => [.rw ⟨35, 9, s.2⟩]) (fun s => Fill 9 V s.2 s.1) (fun s => V.length - s.1.toNat)
    (0, g .rp (g .ln V) [.imm (.int .i64 0), .imm (.int .i64 0), .imm (.int .i64 0), .imm (.int .i64 0), .imm (.int .i64 0), .imm (.int .i64 0), .imm (.int .i64 0), .imm (.bool false), .imm (.bool false)]) [some 0] ?_ (wkS [0] (by decide) ⟨⟨_, rfl, rfl, ?_⟩, trivial⟩ ⟨rfl, rfl, rfl, trivial⟩) (fun s B hs hB => ?_)
  · simp only [goRp hg]; exact hst
  · simp only [goRp hg]; exact hst.pl
  · obtain ⟨z, es⟩ := s
    simp only at hs
    have h0 := hs.z0
    have h1 := hs.z1
    cbv
    cases hc : g .q .lss z (g .ln V)
    · cbv
      rw [goLss hg, goLn hg, decide_eq_false_iff_not] at hc
      obtain rfl := hs.done hc
      exact fin1 _ hF rfl hs.pl ⟨_, rfl, rfl, hs.pl, by rw [hV]⟩
    · cbv
      rw [goLss hg, goLn hg, decide_eq_true_eq] at hc
      have hle := lenI_eq V
      obtain ⟨x, hx⟩ := at_z (xs := xs) h0 (by omega)
      have hy : V[z.toNat]? = some (lc (GItem.c x)) := by rw [hV]; exact vw_at hx
      obtain ⟨a0, a1, a2, a3, a4, a5, a6, a7, a8⟩ := x
      refine goX hg _ h0 hy rfl ?_
      cbv
      refine call0 hg (laws_toItem_a ⟨a0, a1, a2, a3, a4, a5, a6, a7, a8⟩) rfl rfl ?_
      cbv
      refine goY hg h0 (by have := hs.len; have := lenI_eq V; have : lenI es = (es.length : Int) := rfl; show z < lenI es; omega) (fun j hj hlt => ?_)
      cbv
      refine goN hg (hs.mem hlt) ?_
      cbv
      have hle := lenI_eq V
      have h2 : g .w .add .i64 z 1 = z + 1 := by rw [goAdd hg, wrap_small _ (by omega)]
      rw [h2, goSt hg]
      have hs' := hs.step hc hj hy rfl rfl
      exact back hB (z + 1, _) [some 0] (wkS [0] (by decide) ⟨⟨_, rfl, rfl, hs'.pl⟩, trivial⟩ ⟨rfl, rfl, rfl, trivial⟩) hs' (by show V.length - (z + 1).toNat < V.length - z.toNat; omega)
theorem laws_eqItemS_a (xs ys : List GItem) (hl : xs.length ≤ 1048576) : PCon Try.prog 36 [.c (.view (vw GItem.c xs)), .c (.view (vw GItem.c ys))] fun res rows => res = .t (abl (decide (xs = ys))) ∧ rows = [] := by
  obtain ⟨V, hV⟩ : ∃ V, V = vw GItem.c xs := ⟨_, rfl⟩
  obtain ⟨W, hW⟩ : ∃ W, W = vw GItem.c ys := ⟨_, rfl⟩
  have hVl : V.length = xs.length := by rw [hV, vw_length]
  have hWl : W.length = ys.length := by rw [hW, vw_length]
  rw [← hV, ← hW]
  refine pcon_run (c := body Try.f36) fits Try.func36 (by kernel_rfl) (by kernel_rfl) (by rfl) (by kernel_rfl) fun g F hg hF => ?_
  cbv
  cases e0 : g .q .neq (g .ln V) (g .ln W)
  case true =>
    rw [goNeq hg, bne_iff_ne, goLn hg, goLn hg] at e0
    cbv
    refine fin0 hF rfl ⟨?_, rfl⟩
    have : ¬ xs = ys := fun h => e0 (by rw [lenI_eq, lenI_eq, hVl, hWl, h])
    simp [mkV, this]
  rw [goNeq hg, bne_eq_false_iff_eq, goLn hg, goLn hg] at e0
  have hll : xs.length = ys.length := by have := lenI_eq V; have := lenI_eq W; omega
  cbv
  refine loop_run hg fits (by kernel_rfl) (fun z : Int => [(0, .t (.c (.view V))), (1, .t (.c (.view W))), (5, .t (ai z))]) (fun _ => []) (fun z => 0 ≤ z ∧ z ≤ lenI V ∧ ∀ i : Nat, i < z.toNat → xs[i]? = ys[i]?) (fun z => xs.length - z.toNat)
    0 [] ⟨by omega, by have := lenI_eq V; omega, fun i hi => by simp at hi⟩ (wk0 ⟨rfl, rfl, rfl, trivial⟩) (fun z B hs hB => ?_)
  obtain ⟨h0, h1, h2⟩ := hs
  cbv
  cases hc : g .q .lss z (g .ln V)
  · cbv
    rw [goLss hg, goLn hg, decide_eq_false_iff_not] at hc
    refine fin0 hF rfl ⟨?_, rfl⟩
    have : xs = ys := by
      have hle := lenI_eq V
      refine List.ext_getElem? fun i => ?_
      by_cases hi : i < xs.length
      · exact h2 i (by omega)
      · rw [List.getElem?_eq_none (by omega), List.getElem?_eq_none (by omega)]
    simp [mkV, this]
  · cbv
    rw [goLss hg, goLn hg, decide_eq_true_eq] at hc
    have hle := lenI_eq V
    obtain ⟨x, hx⟩ := at_z (xs := xs) h0 (by omega)
    obtain ⟨y, hy⟩ := at_z (xs := ys) h0 (by omega)
    have hx' : V[z.toNat]? = some (lc (GItem.c x)) := by rw [hV]; exact vw_at hx
    have hy' : W[z.toNat]? = some (lc (GItem.c y)) := by rw [hW]; exact vw_at hy
    have hne : ¬ x = y → ¬ xs = ys := fun h he => h (by subst he; rw [hx] at hy; exact Option.some.inj hy)
    obtain ⟨a0, a1, a2, a3, a4, a5, a6, a7, a8⟩ := x
    obtain ⟨b0, b1, b2, b3, b4, b5, b6, b7, b8⟩ := y
    refine goX hg _ h0 hx' rfl ?_
    cbv
    refine goX hg _ h0 hy' rfl ?_
    cbv
    refine call0P hg (laws_eqItem_a ⟨a0, a1, a2, a3, a4, a5, a6, a7, a8⟩ ⟨b0, b1, b2, b3, b4, b5, b6, b7, b8⟩) rfl rfl ?_
    cbv
    obtain ⟨D, hD⟩ : ∃ D : Bool, D = decide ((⟨a0, a1, a2, a3, a4, a5, a6, a7, a8⟩ : GItem) = ⟨b0, b1, b2, b3, b4, b5, b6, b7, b8⟩) := ⟨_, rfl⟩
    rw [← hD]
    cases D
    · cbv
      refine fin0 hF rfl ⟨?_, rfl⟩
      simp [mkV, hne (by simpa using hD.symm)]
    · cbv
      have hxy : (⟨a0, a1, a2, a3, a4, a5, a6, a7, a8⟩ : GItem) = ⟨b0, b1, b2, b3, b4, b5, b6, b7, b8⟩ := by simpa using hD.symm
      have hle := lenI_eq V
      have h3 : g .w .add .i64 z 1 = z + 1 := by rw [goAdd hg, wrap_small _ (by omega)]
      rw [h3]
      refine back hB (z + 1) [] (wk0 ⟨rfl, rfl, rfl, trivial⟩) ⟨by omega, by omega, fun i hi => ?_⟩ (by omega)
      by_cases hi2 : i < z.toNat
      · exact h2 i hi2
      · rw [show i = z.toNat by omega, hx, hy, hxy]

end Go.Proofs.Ytacngamcjgkjkaa
