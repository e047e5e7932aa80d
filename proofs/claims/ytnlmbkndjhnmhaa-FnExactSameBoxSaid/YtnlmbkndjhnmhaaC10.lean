/- Boxes compared. -/
import Derived.Test.YtnlmbkndjhnmhaaC9
import Derived.Test.YtnlmbkndjhnmhaaOn
namespace Go.Proofs.Ytnlmbkndjhnmhaa
open Go.ChangeShapes Go.WideShapes Go.ChangeAt Go.RowKit Am
set_option linter.unusedVariables false
set_option linter.unusedSimpArgs false
set_option maxRecDepth 100000

theorem lt_via {a b z : Int} (h : a = b) (hz : z < a) : z < b := h ▸ hz
theorem same_upto {α : Type} {xs ys : List α} {z M : Int} (hM : M = (xs.length : Int)) (hl : xs.length = ys.length) (hz : M ≤ z) (h : ∀ i : Nat, i < z.toNat → xs[i]? = ys[i]?) : xs = ys := by
  refine List.ext_getElem? fun i => ?_
  by_cases hi : i < xs.length
  · exact h i (by omega)
  · rw [List.getElem?_eq_none (by omega), List.getElem?_eq_none (by omega)]
theorem goEF {n0 N : Nat} {g : Gd} (hg : g = G0 Try.prog n0 N) (a0 a1 a2 a3 a4 b0 b1 b2 b3 b4 : Int) {K : Bool → Prop} (hK : K (!(decide ((⟨a0, a1, a2, a3, a4⟩ : GFrame) = ⟨b0, b1, b2, b3, b4⟩)))) :
    g .E .neq 74 [.imm (.int .i64 a0), .imm (.int .i64 a1), .imm (.int .i64 a2), .imm (.int .i64 a3), .imm (.int .i64 a4)] [.imm (.int .i64 b0), .imm (.int .i64 b1), .imm (.int .i64 b2), .imm (.int .i64 b3), .imm (.int .i64 b4)] K := by
  subst hg
  refine ⟨by kernel_rfl, ⟨_, Try.underlying74⟩, [.int .i64 a0, .int .i64 a1, .int .i64 a2, .int .i64 a3, .int .i64 a4], [.int .i64 b0, .int .i64 b1, .int .i64 b2, .int .i64 b3, .int .i64 b4], _, rfl, rfl, ?_, hK⟩
  have h1 : eqT Try.prog 8 74 [.int .i64 a0, .int .i64 a1, .int .i64 a2, .int .i64 a3, .int .i64 a4] [.int .i64 b0, .int .i64 b1, .int .i64 b2, .int .i64 b3, .int .i64 b4] = some ((a0 == b0) && ((a1 == b1) && ((a2 == b2) && ((a3 == b3) && ((a4 == b4) && true))))) := by
    rfl
  rw [h1]
  congr 1
  rw [Bool.eq_iff_iff]
  simp
theorem agg_ne {n0 N : Nat} {g : Gd} (hg : g = G0 Try.prog n0 N) {a b : Int} : (g .q .neq a b = true → ¬ a = b) ∧ (g .q .neq a b = false → a = b) := by
  rw [goNeq hg]; simp
abbrev agB (w h b : Int) (V : List (List AC)) : AT := .agg [.imm (.int .i64 w), .imm (.int .i64 h), .imm (.int .i64 b), .view V]
section
variable {P : Program} {n0 N n : Nat} {g : Gd}
/-- A box's end: its row is new. -/
theorem finBox {F : List AT → EH → Prop} {w h b : Int} {r : Nat} {eh : EH} {ab : AB} (hF : F = FinP 0 (fun res h' => ∃ rows, h' = rows.map .live ∧ (res = .t (.agg [.imm (.int .i64 w), .imm (.int .i64 h), .imm (.int .i64 b), .own 0]) ∧ rows = [ab]))) (hr : nth eh r = some (.rw ab)) (hp : plainE ab.es = true) :
    F [.agg [.imm (.int .i64 w), .imm (.int .i64 h), .imm (.int .i64 b), .own r]] eh := by
  subst hF
  refine ⟨.t (.agg [.imm (.int .i64 w), .imm (.int .i64 h), .imm (.int .i64 b), .own 0]), [.live ab], [some r], ⟨Nat.zero_le _, fun i hi => absurd hi (Nat.not_lt_zero _), by simp, ?_, ?_⟩, [ab], rfl, rfl, rfl⟩
  · simp only [rnH, List.getElem?_cons_zero, nth_rw hr]
    exact ⟨fun h => absurd h (Nat.not_lt_zero _), ⟨by first | trivial | rfl, by first | trivial | rfl, .inl ⟨by first | trivial | rfl, hp⟩⟩, trivial⟩
  · refine ⟨?_, trivial⟩
    exact .inr ⟨rfl, rfl, rfl, rfl, trivial⟩
theorem callBox (hg : g = G0 P n0 N) {h : EH} {f : FuncId} {args : List AT} {K : AV → EH → Prop} {a b c : Int} {ab : AB} (hc : PCon P f args fun res rows => res = .t (.agg [.imm (.int .i64 a), .imm (.int .i64 b), .imm (.int .i64 c), .own 0]) ∧ rows = [ab]) (hd : datA args = true) (hp : plainE ab.es = true)
    (hK : K (.t (.agg [.imm (.int .i64 a), .imm (.int .i64 b), .imm (.int .i64 c), .own (lenL h)])) (h ++ [.rw ab])) : g .C f h args K :=
  callC hg (pcall_pure hc hd fun res rows hpost => by
    obtain ⟨rfl, rfl⟩ := hpost
    rw [lenL_eq] at hK
    refine ⟨[.rw ab], by simp only [List.map_cons, List.map_nil, shift_row hp]; rfl, ?_⟩
    rw [toH_len]; exact hK)
theorem callBoxP (hg : g = G0 P n0 N) {h : EH} {f : FuncId} {args : List AT} {K : AV → EH → Prop} {a b c : Int} {ab : AB} (hc : PCon P f args fun res rows => res = .t (.agg [.imm (.int .i64 a), .imm (.int .i64 b), .imm (.int .i64 c), .own 0]) ∧ rows = [ab]) (hd : datA args = true) (hp : plainE ab.es = true)
    (hK : K (.t (.agg [.imm (.int .i64 a), .imm (.int .i64 b), .imm (.int .i64 c), .own n])) [.rw ab]) : g .PC f h n args K := by
  subst hg
  refine ⟨.t (.agg [.imm (.int .i64 a), .imm (.int .i64 b), .imm (.int .i64 c), .own n]), [ab], pcall_pure hc hd fun res rows hpost => ?_, [.rw ab], rfl, hK⟩
  obtain ⟨rfl, rfl⟩ := hpost
  exact ⟨rfl, by simp only [List.map_cons, List.map_nil, shift_row hp]⟩
/-- Arguments read as data, cell by cell. -/
inductive ResL (h : AH) : List AC → List AC → Prop
  | nil : ResL h [] []
  | cons {c d : AC} {xs ys : List AC} : ResC h c d → ResL h xs ys → ResL h (c :: xs) (d :: ys)
inductive ResB (h : AH) : List AT → List AT → Prop
  | nil : ResB h [] []
  | c {c d : AC} {xs ys : List AT} : ResC h c d → ResB h xs ys → ResB h (.c c :: xs) (.c d :: ys)
  | agg {a b : List AC} {xs ys : List AT} : ResL h a b → ResB h xs ys → ResB h (.agg a :: xs) (.agg b :: ys)
theorem ResL.at_ {h : AH} {a b : List AC} (hr : ResL h a b) : a.length = b.length ∧ ∀ (i : Nat) (c d : AC), a[i]? = some c → b[i]? = some d → ResC h c d := by
  induction hr with
  | nil => exact ⟨rfl, fun i c d h => by simp at h⟩
  | cons h1 _ ih =>
    refine ⟨by simp [ih.1], fun i c d hc hd => ?_⟩
    cases i with
    | zero => simp at hc hd; subst hc hd; exact h1
    | succ i => exact ih.2 i c d (by simpa using hc) (by simpa using hd)
theorem ResB.at_ {h : AH} {a b : List AT} (hr : ResB h a b) : b.length = a.length ∧ ∀ (j : Nat) (x y : AT), a[j]? = some x → b[j]? = some y → (∃ c d, x = .c c ∧ y = .c d ∧ ResC h c d) ∨ ∃ xs ys, x = .agg xs ∧ y = .agg ys ∧ xs.length = ys.length ∧ ∀ (i : Nat) (c d : AC), xs[i]? = some c → ys[i]? = some d → ResC h c d := by
  induction hr with
  | nil => exact ⟨rfl, fun i c d h => by simp at h⟩
  | c h1 _ ih =>
    refine ⟨by simp [ih.1], fun i x y hx hy => ?_⟩
    cases i with
    | zero => simp at hx hy; subst hx hy; exact .inl ⟨_, _, rfl, rfl, h1⟩
    | succ i => exact ih.2 i x y (by simpa using hx) (by simpa using hy)
  | agg h1 _ ih =>
    refine ⟨by simp [ih.1], fun i x y hx hy => ?_⟩
    cases i with
    | zero => simp at hx hy; subst hx hy; exact .inr ⟨_, _, rfl, rfl, h1.at_.1, h1.at_.2⟩
    | succ i => exact ih.2 i x y (by simpa using hx) (by simpa using hy)
theorem callRB (hg : g = G0 P n0 N) {h : EH} {f : FuncId} {args args' : List AT} {K : AV → EH → Prop} {r : AV} (hc : PCon P f args' fun res rows => res = r ∧ rows = []) (ha : ResB (toH h) args args') (hr : bareV r = true) (hK : K r (h ++ [])) : g .C f h args K :=
  callC hg ⟨args', _, hc, .inr ⟨ha.at_.1, ha.at_.2, fun res rows hp => by
    obtain ⟨rfl, rfl⟩ := hp
    exact ⟨bare_fresh hr, fun ab hab => by simp at hab, [], rfl, by rw [plain_shiftV (bare_plain hr)]; exact hK⟩⟩⟩
theorem callRBP (hg : g = G0 P n0 N) {h : EH} {f : FuncId} {args args' : List AT} {K : AV → EH → Prop} {r : AV} (hc : PCon P f args' fun res rows => res = r ∧ rows = []) (ha : ResB (toH h) args args') (hr : bareV r = true) (hK : K r []) : g .PC f h n args K := by
  subst hg
  refine ⟨r, [], ⟨args', _, hc, .inr ⟨ha.at_.1, ha.at_.2, fun res rows hp => ?_⟩⟩, [], rfl, hK⟩
  obtain ⟨rfl, rfl⟩ := hp
  exact ⟨bare_fresh hr, fun ab hab => by simp at hab, by rw [plain_shiftV (bare_plain hr)], rfl⟩
/-- A box over an own row, read as data. -/
theorem resBox {h : AH} {a b c : Int} {r : Nat} {ab : AB} (hn : h[r]? = some (.live ab)) (hk : ∀ x ∈ ab.es, x.length = ab.k) (hd : ∀ x ∈ ab.es, x.all dat = true) :
    ResL h [.imm (.int .i64 a), .imm (.int .i64 b), .imm (.int .i64 c), .own r] [.imm (.int .i64 a), .imm (.int .i64 b), .imm (.int .i64 c), .view ab.es] :=
  .cons (.imm _) (.cons (.imm _) (.cons (.imm _) (.cons (resRow hn hk hd) .nil)))
end
def sameB (w h b : Int) (xs : List GFrame) (w' h' b' : Int) (ys : List GFrame) : Bool := decide (w = w') && (decide (h = h') && (decide (b = b') && decide (xs = ys)))
set_option maxHeartbeats 1600000 in
theorem impl_SameFrames_a (xs ys : List GFrame) (hxl : xs.length ≤ 1048576) : PCon Try.prog 71 [.c (.view (vw GFrame.c xs)), .c (.view (vw GFrame.c ys))] fun res rows => res = .t (abl (decide (xs = ys))) ∧ rows = [] := by
  obtain ⟨V, hV⟩ : ∃ V, V = vw GFrame.c xs := ⟨_, rfl⟩
  have hVl : V.length = xs.length := by rw [hV, vw_length]
  have iV : immE V = true := by rw [hV]; exact vw_imm _ _
  have kV : ∀ y ∈ V, y.length = 5 := by rw [hV]; exact vw_k (c := GFrame.c) (k := 5) fun _ => rfl
  have dV : ∀ y ∈ V, y.all dat = true := by rw [hV]; exact vw_dat
  obtain ⟨W, hW⟩ : ∃ W, W = vw GFrame.c ys := ⟨_, rfl⟩
  have hWl : W.length = ys.length := by rw [hW, vw_length]
  have iW : immE W = true := by rw [hW]; exact vw_imm _ _
  have kW : ∀ y ∈ W, y.length = 5 := by rw [hW]; exact vw_k (c := GFrame.c) (k := 5) fun _ => rfl
  have dW : ∀ y ∈ W, y.all dat = true := by rw [hW]; exact vw_dat
  have hVW : lenI V = lenI W → xs.length = ys.length := fun h => by rw [lenI_eq, lenI_eq] at h; omega
  have hVW2 : ¬ lenI V = lenI W → ¬ xs = ys := fun h he => h (by subst he; rw [lenI_eq, lenI_eq, hVl, hWl])
  have hV0 : 0 ≤ lenI V := by rw [lenI_eq]; omega
  have hV1 : lenI V ≤ 1048576 := by rw [lenI_eq]; omega
  have hVx : lenI V = (xs.length : Int) := by rw [lenI_eq]; omega
  rw [← hV, ← hW]
  refine pcon_run (c := body Try.f71) fits Try.func71 (by kernel_rfl) (by kernel_rfl) (by rfl) (by kernel_rfl) fun g F hg hF => ?_
  cbv
  cases e0 : g .q .neq (g .ln V) (g .ln W)
  case true =>
    rw [goNeq hg, bne_iff_ne, goLn hg, goLn hg] at e0
    cbv
    exact fin0b hF (by simp [hVW2 e0])
  rw [goNeq hg, bne_eq_false_iff_eq, goLn hg, goLn hg] at e0
  have hll := hVW e0
  have hWx : lenI V = (ys.length : Int) := by rw [← hll]; exact hVx
  cbv
  refine loop_run hg fits (by kernel_rfl) (fun z : Int => [(0, .t (.c (.view V))), (1, .t (.c (.view W))), (12, .t (ai (g .ln V))), (13, .t (ai z))]) (fun _ => []) (fun z => 0 ≤ z ∧ z ≤ lenI V ∧ ∀ i : Nat, i < z.toNat → xs[i]? = ys[i]?) (fun z => (lenI V).toNat - z.toNat)
    0 [] ⟨Int.le_refl 0, hV0, fun i hi => by simp at hi⟩ (wk0 ⟨rfl, rfl, rfl, rfl, trivial⟩) (fun z B hs hB => ?_)
  obtain ⟨h0, h1, h2⟩ := hs
  cbv
  cases hc : g .q .lss z (g .ln V)
  · rw [goLss hg, goLn hg, decide_eq_false_iff_not] at hc
    cbv
    refine fin0b hF ?_
    have : xs = ys := same_upto hVx hll (by omega) h2
    simp [this]
  · rw [goLss hg, goLn hg, decide_eq_true_eq] at hc
    cbv
    obtain ⟨x, hx⟩ := at_z (xs := xs) h0 (lt_via hVx hc)
    obtain ⟨y, hy⟩ := at_z (xs := ys) h0 (lt_via hWx hc)
    have hx' : V[z.toNat]? = some (lc (GFrame.c x)) := by rw [hV]; exact vw_at hx
    have hy' : W[z.toNat]? = some (lc (GFrame.c y)) := by rw [hW]; exact vw_at hy
    have hne : ¬ x = y → ¬ xs = ys := fun h he => h (by subst he; rw [hx] at hy; exact Option.some.inj hy)
    obtain ⟨a0, a1, a2, a3, a4⟩ := x
    obtain ⟨b0, b1, b2, b3, b4⟩ := y
    refine goX hg _ h0 hx' rfl ?_
    cbv
    refine goX hg _ h0 hy' rfl ?_
    cbv
    refine goEF hg _ _ _ _ _ _ _ _ _ _ ?_
    obtain ⟨D, hD⟩ : ∃ D, D = decide ((⟨a0, a1, a2, a3, a4⟩ : GFrame) = ⟨b0, b1, b2, b3, b4⟩) := ⟨_, rfl⟩
    rw [← hD]
    cases D
    · cbv
      refine fin0b hF ?_
      simp [hne (by simpa using hD.symm)]
    · have hxy : (⟨a0, a1, a2, a3, a4⟩ : GFrame) = ⟨b0, b1, b2, b3, b4⟩ := by simpa using hD.symm
      cbv
      have h3 : g .w .add .i64 z 1 = z + 1 := by rw [goAdd hg, wrap_small _ (by omega)]
      rw [h3]
      refine back hB (z + 1) [] (wk0 ⟨rfl, rfl, rfl, rfl, trivial⟩) ⟨by omega, by omega, fun i hi => ?_⟩ (by omega)
      by_cases hi2 : i < z.toNat
      · exact h2 i hi2
      · rw [show i = z.toNat by omega, hx, hy, hxy]
set_option maxHeartbeats 1600000 in
theorem spec_SameBox_a (w h b : Int) (xs : List GFrame) (w' h' b' : Int) (ys : List GFrame) (hxl : xs.length ≤ 1048576) : PCon Try.prog 18 [agB w h b (vw GFrame.c xs), agB w' h' b' (vw GFrame.c ys)] fun res rows => res = .t (abl (sameB w h b xs w' h' b' ys)) ∧ rows = [] := by
  obtain ⟨V, hV⟩ : ∃ V, V = vw GFrame.c xs := ⟨_, rfl⟩
  have hVl : V.length = xs.length := by rw [hV, vw_length]
  have iV : immE V = true := by rw [hV]; exact vw_imm _ _
  have kV : ∀ y ∈ V, y.length = 5 := by rw [hV]; exact vw_k (c := GFrame.c) (k := 5) fun _ => rfl
  have dV : ∀ y ∈ V, y.all dat = true := by rw [hV]; exact vw_dat
  obtain ⟨W, hW⟩ : ∃ W, W = vw GFrame.c ys := ⟨_, rfl⟩
  have hWl : W.length = ys.length := by rw [hW, vw_length]
  have iW : immE W = true := by rw [hW]; exact vw_imm _ _
  have kW : ∀ y ∈ W, y.length = 5 := by rw [hW]; exact vw_k (c := GFrame.c) (k := 5) fun _ => rfl
  have dW : ∀ y ∈ W, y.all dat = true := by rw [hW]; exact vw_dat
  have hVW : lenI V = lenI W → xs.length = ys.length := fun h => by rw [lenI_eq, lenI_eq] at h; omega
  have hVW2 : ¬ lenI V = lenI W → ¬ xs = ys := fun h he => h (by subst he; rw [lenI_eq, lenI_eq, hVl, hWl])
  have hV0 : 0 ≤ lenI V := by rw [lenI_eq]; omega
  have hV1 : lenI V ≤ 1048576 := by rw [lenI_eq]; omega
  have hVx : lenI V = (xs.length : Int) := by rw [lenI_eq]; omega
  rw [← hV, ← hW]
  refine pcon_run (c := body Try.f18) fits Try.func18 (by kernel_rfl) (by kernel_rfl) (by rfl) (by kernel_rfl) fun g F hg hF => ?_
  cbv
  cases e1 : g .q .neq w w'
  case true =>
    have e1' := (agg_ne hg).1 e1
    cbv
    exact fin0b hF (by simp [sameB, e1'])
  obtain rfl := (agg_ne hg).2 e1
  cbv
  cases e2 : g .q .neq h h'
  case true =>
    have e2' := (agg_ne hg).1 e2
    cbv
    exact fin0b hF (by simp [sameB, e2'])
  obtain rfl := (agg_ne hg).2 e2
  cbv
  cases e3 : g .q .neq b b'
  case true =>
    have e3' := (agg_ne hg).1 e3
    cbv
    exact fin0b hF (by simp [sameB, e3'])
  obtain rfl := (agg_ne hg).2 e3
  cbv
  cases e0 : g .q .neq (g .ln V) (g .ln W)
  case true =>
    rw [goNeq hg, bne_iff_ne, goLn hg, goLn hg] at e0
    cbv
    exact fin0b hF (by simp [sameB, hVW2 e0])
  rw [goNeq hg, bne_eq_false_iff_eq, goLn hg, goLn hg] at e0
  have hll := hVW e0
  have hWx : lenI V = (ys.length : Int) := by rw [← hll]; exact hVx
  cbv
  refine loop_run hg fits (by kernel_rfl) (fun z : Int => [(2, .t (.c (.ptr 0 0 0))), (3, .t (.c (.ptr 1 0 0))), (5, .t (ai z))]) (fun _ => [.bx 47 4 [.imm (.int .i64 w), .imm (.int .i64 h), .imm (.int .i64 b), .view V], .bx 47 4 [.imm (.int .i64 w), .imm (.int .i64 h), .imm (.int .i64 b), .view W]]) (fun z => 0 ≤ z ∧ z ≤ lenI V ∧ ∀ i : Nat, i < z.toNat → xs[i]? = ys[i]?) (fun z => (lenI V).toNat - z.toNat)
    0 [some 0, some 1] ⟨Int.le_refl 0, hV0, fun i hi => by simp at hi⟩ (wkS [0, 1] (by decide) ⟨⟨_, rfl, rfl, rfl⟩, ⟨_, rfl, rfl, rfl⟩, trivial⟩ ⟨rfl, rfl, rfl, trivial⟩) (fun z B hs hB => ?_)
  obtain ⟨h0, h1, h2⟩ := hs
  cbv
  cases hc : g .q .lss z (g .ln V)
  · rw [goLss hg, goLn hg, decide_eq_false_iff_not] at hc
    cbv
    refine fin0b hF ?_
    have : xs = ys := same_upto hVx hll (by omega) h2
    simp [sameB, this]
  · rw [goLss hg, goLn hg, decide_eq_true_eq] at hc
    cbv
    obtain ⟨x, hx⟩ := at_z (xs := xs) h0 (lt_via hVx hc)
    obtain ⟨y, hy⟩ := at_z (xs := ys) h0 (lt_via hWx hc)
    have hx' : V[z.toNat]? = some (lc (GFrame.c x)) := by rw [hV]; exact vw_at hx
    have hy' : W[z.toNat]? = some (lc (GFrame.c y)) := by rw [hW]; exact vw_at hy
    have hne : ¬ x = y → ¬ xs = ys := fun h he => h (by subst he; rw [hx] at hy; exact Option.some.inj hy)
    obtain ⟨a0, a1, a2, a3, a4⟩ := x
    obtain ⟨b0, b1, b2, b3, b4⟩ := y
    refine goX hg _ h0 hx' rfl ?_
    cbv
    refine goX hg _ h0 hy' rfl ?_
    cbv
    refine goEF hg _ _ _ _ _ _ _ _ _ _ ?_
    obtain ⟨D, hD⟩ : ∃ D, D = decide ((⟨a0, a1, a2, a3, a4⟩ : GFrame) = ⟨b0, b1, b2, b3, b4⟩) := ⟨_, rfl⟩
    rw [← hD]
    cases D
    · cbv
      refine fin0b hF ?_
      simp [sameB, hne (by simpa using hD.symm)]
    · have hxy : (⟨a0, a1, a2, a3, a4⟩ : GFrame) = ⟨b0, b1, b2, b3, b4⟩ := by simpa using hD.symm
      cbv
      have h3 : g .w .add .i64 z 1 = z + 1 := by rw [goAdd hg, wrap_small _ (by omega)]
      rw [h3]
      refine back hB (z + 1) [some 0, some 1] (wkS [0, 1] (by decide) ⟨⟨_, rfl, rfl, rfl⟩, ⟨_, rfl, rfl, rfl⟩, trivial⟩ ⟨rfl, rfl, rfl, trivial⟩) ⟨by omega, by omega, fun i hi => ?_⟩ (by omega)
      by_cases hi2 : i < z.toNat
      · exact h2 i hi2
      · rw [show i = z.toNat by omega, hx, hy, hxy]
set_option maxHeartbeats 1600000 in
theorem impl_SameBox_a (w h b : Int) (xs : List GFrame) (w' h' b' : Int) (ys : List GFrame) (hxl : xs.length ≤ 1048576) : PCon Try.prog 20 [agB w h b (vw GFrame.c xs), agB w' h' b' (vw GFrame.c ys)] fun res rows => res = .t (abl (sameB w h b xs w' h' b' ys)) ∧ rows = [] := by
  have hc := impl_SameFrames_a xs ys hxl
  obtain ⟨V, hV⟩ : ∃ V, V = vw GFrame.c xs := ⟨_, rfl⟩
  have hVl : V.length = xs.length := by rw [hV, vw_length]
  have iV : immE V = true := by rw [hV]; exact vw_imm _ _
  have kV : ∀ y ∈ V, y.length = 5 := by rw [hV]; exact vw_k (c := GFrame.c) (k := 5) fun _ => rfl
  have dV : ∀ y ∈ V, y.all dat = true := by rw [hV]; exact vw_dat
  obtain ⟨W, hW⟩ : ∃ W, W = vw GFrame.c ys := ⟨_, rfl⟩
  have hWl : W.length = ys.length := by rw [hW, vw_length]
  have iW : immE W = true := by rw [hW]; exact vw_imm _ _
  have kW : ∀ y ∈ W, y.length = 5 := by rw [hW]; exact vw_k (c := GFrame.c) (k := 5) fun _ => rfl
  have dW : ∀ y ∈ W, y.all dat = true := by rw [hW]; exact vw_dat
  rw [← hV, ← hW] at hc
  rw [← hV, ← hW]
  obtain ⟨D, hD⟩ : ∃ D, D = decide (xs = ys) := ⟨_, rfl⟩
  rw [← hD] at hc
  refine pcon_run (c := body Try.f20) fits Try.func20 (by kernel_rfl) (by kernel_rfl) (by rfl) (by kernel_rfl) fun g F hg hF => ?_
  cbv
  have q : ∀ a b : Int, g .q .eql a b = decide (a = b) := fun a b => by rw [goEql hg]; rfl
  cases e1 : g .q .eql w w'
  · rw [q] at e1
    cbv
    exact fin0b hF (by simp [sameB, e1])
  rw [q] at e1
  cbv
  cases e2 : g .q .eql h h'
  · rw [q] at e2
    cbv
    exact fin0b hF (by simp [sameB, e2])
  rw [q] at e2
  cbv
  cases e3 : g .q .eql b b'
  · rw [q] at e3
    cbv
    exact fin0b hF (by simp [sameB, e3])
  rw [q] at e3
  cbv
  (first | refine callB hg hc rfl (fun R hR => ?_) | refine callBP hg hc rfl (fun R hR => ?_))
  cbv
  exact fin0b hF (by simp [sameB, e1, e2, e3, hR, hD])
theorem rows_of {α : Type} {c : α → Array Value} {q : List AC → Prop} (hq : ∀ x, q x → ∃ a, x = lc (c a)) : ∀ {xs : List (List AC)}, (∀ x ∈ xs, q x) → ∃ l : List α, xs = vw c l
  | [], _ => ⟨[], rfl⟩
  | x :: xs, h => by
    obtain ⟨a, ha⟩ := hq x (h x (by simp))
    obtain ⟨l, hl⟩ := rows_of hq (xs := xs) fun y hy => h y (by simp [hy])
    exact ⟨a :: l, by rw [ha, hl]; rfl⟩
theorem frame_of : ∀ (x : List AC), DtL [.i, .i, .i, .i, .i] x → ∃ f : GFrame, x = lc (GFrame.c f)
  | [a, b, c, d, e], h => by
    simp only [DtL, Dt] at h
    obtain ⟨⟨n0, _, rfl⟩, ⟨n1, _, rfl⟩, ⟨n2, _, rfl⟩, ⟨n3, _, rfl⟩, ⟨n4, _, rfl⟩, _⟩ := h
    exact ⟨⟨n0, n1, n2, n3, n4⟩, rfl⟩
  | [], h => by simp [DtL] at h
  | [_], h => by simp [DtL] at h
  | [_, _], h => by simp [DtL] at h
  | [_, _, _], h => by simp [DtL] at h
  | [_, _, _, _], h => by simp [DtL] at h
  | _ :: _ :: _ :: _ :: _ :: _ :: _, h => by simp [DtL] at h
def Box.sh : List Sh := [.i, .i, .i, .s [.i, .i, .i, .i, .i]]
theorem Box.of_ : ∀ {x : List AC}, DtL Box.sh x → ∃ (w h b : Int) (l : List GFrame), AT.agg x = agB w h b (vw GFrame.c l)
  | [a, b, c, d], h => by
    simp only [Box.sh, DtL, Dt] at h
    obtain ⟨⟨n0, _, rfl⟩, ⟨n1, _, rfl⟩, ⟨n2, _, rfl⟩, ⟨xs, rfl, hx⟩, _⟩ := h
    obtain ⟨l, rfl⟩ := rows_of (c := GFrame.c) frame_of (fun x hxx => by simpa [DtL, Dt] using hx x hxx)
    exact ⟨n0, n1, n2, l, rfl⟩
  | [], h => by simp [DtL, Box.sh] at h
  | [_], h => by simp [DtL, Box.sh] at h
  | [_, _], h => by simp [DtL, Box.sh] at h
  | [_, _, _], h => by simp [DtL, Box.sh] at h
  | _ :: _ :: _ :: _ :: _ :: _, h => by simp [DtL, Box.sh] at h
theorem Box.len {w : World} {a b c : Int} {l : List GFrame} {v : Value} (h : RT (fun b => b < w.heap.size) w [] [] (agB a b c (vw GFrame.c l)) v) : l.length ≤ 9223372036854775807 := by
  obtain ⟨vs, _, _, h3⟩ := h
  obtain ⟨u, _, _, hu⟩ := h3 3 _ rfl
  have hu : RP (fun b => b < w.heap.size) w (.view (vw GFrame.c l)) u := hu
  unfold RP at hu
  obtain ⟨p, cap, _, h1, h2, _⟩ := hu
  rw [vw_length] at h1
  exact Nat.le_trans h1 (Nat.le_trans h2 (by decide))
theorem laws_szFrameS_b (V : List (List AC)) (L : Int) (hV : V.length ≤ 9223372036854775807) (h0 : 0 ≤ L) (h1 : L ≤ 1048576) : PCon Try.prog 31 [.c (.view V), ai L] fun res rows => res = .t (ai (szR (lenI V) L)) ∧ rows = [] := by
  obtain ⟨M, hM⟩ : ∃ M, M = lenI V := ⟨_, rfl⟩
  have hM0 : 0 ≤ M := by rw [hM, lenI_eq]; omega
  have hM1 : M ≤ 9223372036854775807 := by rw [hM, lenI_eq]; omega
  rw [← hM]
  refine pcon_run (c := body Try.f31) fits Try.func31 (by kernel_rfl) (by kernel_rfl) (by rfl) (by kernel_rfl) fun g F hg hF => ?_
  cbv
  have e1 : g .w .sub .i64 L (g .ln V) = L - M := by rw [goSub hg, goLn hg, ← hM, wrap_small _ (by omega)]
  obtain ⟨D, hD⟩ : ∃ D, D = L - M := ⟨_, rfl⟩
  rw [← hD] at e1
  rw [e1]
  cases e : g .q .lss D 0
  · rw [goLss hg, decide_eq_false_iff_not] at e
    cbv
    exact fin0i hF (by unfold szR; rw [← hD, if_neg e])
  · rw [goLss hg, decide_eq_true_eq] at e
    cbv
    exact fin0i hF (by unfold szR; rw [← hD, if_pos e])
theorem laws_szBox_a (w h b : Int) (V : List (List AC)) (L : Int) (hV : V.length ≤ 9223372036854775807) (h0 : 0 ≤ L) (h1 : L ≤ 1048576) : PCon Try.prog 17 [agB w h b V, ai L] fun res rows => res = .t (ai (szR (lenI V) L)) ∧ rows = [] := by
  have hc := laws_szFrameS_b V L hV h0 h1
  obtain ⟨R, hR⟩ : ∃ R, R = szR (lenI V) L := ⟨_, rfl⟩
  rw [← hR] at hc
  have hneg : R < 0 → R = -1 := by intro h; rw [hR] at h ⊢; unfold szR at h ⊢; split <;> simp_all
  rw [← hR]
  refine pcon_run (c := body Try.f17) fits Try.func17 (by kernel_rfl) (by kernel_rfl) (by rfl) (by kernel_rfl) fun g F hg hF => ?_
  cbv
  refine call0 hg hc rfl rfl ?_
  cbv
  cases e : g .q .lss R 0
  · cbv
    exact fin0i hF rfl
  · rw [goLss hg, decide_eq_true_eq] at e
    cbv
    exact fin0i hF (hneg e).symm
theorem laws_toBox_a (w h b : Int) (xs : List GFrame) (hl : xs.length ≤ 1048576) : PCon Try.prog 19 [agB w h b (vw GFrame.c xs)] fun res rows => res = .t (.agg [.imm (.int .i64 w), .imm (.int .i64 h), .imm (.int .i64 b), .own 0]) ∧ rows = [⟨74, 5, vw GFrame.c xs⟩] := by
  have cx := toRow (laws_toFrameS_a xs hl)
  obtain ⟨V, hV⟩ : ∃ V, V = vw GFrame.c xs := ⟨_, rfl⟩
  have hVl : V.length = xs.length := by rw [hV, vw_length]
  have iV : immE V = true := by rw [hV]; exact vw_imm _ _
  have kV : ∀ y ∈ V, y.length = 5 := by rw [hV]; exact vw_k (c := GFrame.c) (k := 5) fun _ => rfl
  have dV : ∀ y ∈ V, y.all dat = true := by rw [hV]; exact vw_dat
  rw [← hV] at cx ⊢
  have pV := imm_plainE iV
  refine pcon_run (c := body Try.f19) fits Try.func19 (by kernel_rfl) (by kernel_rfl) (by rfl) (by kernel_rfl) fun g F hg hF => ?_
  cbv
  refine callRow hg cx (dat_data rfl) iV ?_
  cbv
  exact finBox hF rfl pV
theorem laws_eqBox_a (w h b : Int) (xs : List GFrame) (hl : xs.length ≤ 1048576) : PCon Try.prog 21 [agB w h b (vw GFrame.c xs), agB w h b (vw GFrame.c xs)] fun res rows => res = .t (abl true) ∧ rows = [] := by
  have ex := laws_eqFrameS_a xs xs hl
  rw [decide_eq_true rfl] at ex
  obtain ⟨V, hV⟩ : ∃ V, V = vw GFrame.c xs := ⟨_, rfl⟩
  have hVl : V.length = xs.length := by rw [hV, vw_length]
  have iV : immE V = true := by rw [hV]; exact vw_imm _ _
  have kV : ∀ y ∈ V, y.length = 5 := by rw [hV]; exact vw_k (c := GFrame.c) (k := 5) fun _ => rfl
  have dV : ∀ y ∈ V, y.all dat = true := by rw [hV]; exact vw_dat
  rw [← hV] at ex ⊢
  refine pcon_run (c := body Try.f21) fits Try.func21 (by kernel_rfl) (by kernel_rfl) (by rfl) (by kernel_rfl) fun g F hg hF => ?_
  cbv
  have q : ∀ a : Int, g .q .neq a a = false := fun a => by rw [goNeq hg]; simp
  rw [q w]
  cbv
  rw [q h]
  cbv
  rw [q b]
  cbv
  refine call0 hg ex rfl rfl ?_
  cbv
  exact fin0b hF rfl
set_option maxHeartbeats 8000000 in
theorem laws_FnExactSameBox_a (w h b : Int) (xs : List GFrame) (hxl : xs.length ≤ 9223372036854775807) (w' h' b' : Int) (ys : List GFrame) (hyl : ys.length ≤ 9223372036854775807) : PCon Try.prog 4 [agB w h b (vw GFrame.c xs), agB w' h' b' (vw GFrame.c ys)] fun res rows => res = .t (abl true) ∧ rows = [] := by
  obtain ⟨V, hV⟩ : ∃ V, V = vw GFrame.c xs := ⟨_, rfl⟩
  have hVl : V.length = xs.length := by rw [hV, vw_length]
  have iV : immE V = true := by rw [hV]; exact vw_imm _ _
  have kV : ∀ y ∈ V, y.length = 5 := by rw [hV]; exact vw_k (c := GFrame.c) (k := 5) fun _ => rfl
  have dV : ∀ y ∈ V, y.all dat = true := by rw [hV]; exact vw_dat
  obtain ⟨W, hW⟩ : ∃ W, W = vw GFrame.c ys := ⟨_, rfl⟩
  have hWl : W.length = ys.length := by rw [hW, vw_length]
  have iW : immE W = true := by rw [hW]; exact vw_imm _ _
  have kW : ∀ y ∈ W, y.length = 5 := by rw [hW]; exact vw_k (c := GFrame.c) (k := 5) fun _ => rfl
  have dW : ∀ y ∈ W, y.all dat = true := by rw [hW]; exact vw_dat
  have cz := laws_szBox_a w h b V 1048576 (by omega) (by decide) (by decide)
  obtain ⟨Z, hZ⟩ : ∃ Z, Z = szR (lenI V) 1048576 := ⟨_, rfl⟩
  rw [← hZ] at cz
  by_cases h6 : xs.length ≤ 1048576
  case neg =>
    have bZ : Z < 0 := by rw [hZ, lenI_eq]; unfold szR; rw [if_pos (by omega)]; decide
    rw [← hV, ← hW]
    refine pcon_run (c := body Try.f4) fits Try.func4 (by kernel_rfl) (by kernel_rfl) (by rfl) (by kernel_rfl) fun g F hg hF => ?_
    cbv
    have e2 : g .q .lss Z 0 = true := by rw [goLss hg]; exact decide_eq_true bZ
    refine call0 hg cz rfl rfl ?_
    cbv
    rw [e2]
    cbv
    exact fin0b hF rfl
  have bZ : ¬ Z < 0 := by rw [hZ, lenI_eq]; unfold szR; rw [if_neg (by omega)]; omega
  have hZ1 : Z = 1048576 - (V.length : Int) := by rw [hZ, lenI_eq]; unfold szR; rw [if_neg (by omega)]
  have cz2 := laws_szBox_a w' h' b' W Z (by omega) (by omega) (by omega)
  obtain ⟨Y, hY⟩ : ∃ Y, Y = szR (lenI W) Z := ⟨_, rfl⟩
  rw [← hY] at cz2
  by_cases h7 : Z < (ys.length : Int)
  case pos =>
    have bY : Y < 0 := by rw [hY, lenI_eq]; unfold szR; rw [if_pos (by omega)]; decide
    rw [← hV, ← hW]
    refine pcon_run (c := body Try.f4) fits Try.func4 (by kernel_rfl) (by kernel_rfl) (by rfl) (by kernel_rfl) fun g F hg hF => ?_
    cbv
    have e2 : g .q .lss Z 0 = false := by rw [goLss hg]; exact decide_eq_false bZ
    have e3 : g .q .lss Y 0 = true := by rw [goLss hg]; exact decide_eq_true bY
    refine call0 hg cz rfl rfl ?_
    cbv
    rw [e2]
    cbv
    refine call0 hg cz2 rfl rfl ?_
    cbv
    rw [e3]
    cbv
    exact fin0b hF rfl
  have bY : ¬ Y < 0 := by rw [hY, lenI_eq]; unfold szR; rw [if_neg (by omega)]; omega
  have h8 : ys.length ≤ 1048576 := by omega
  have pV := imm_plainE iV
  have pW := imm_plainE iW
  have cx := laws_toBox_a w h b xs h6
  have cy := laws_toBox_a w' h' b' ys h8
  have cs := spec_SameBox_a w h b xs w' h' b' ys h6
  have ci := impl_SameBox_a w h b xs w' h' b' ys h6
  have ex := laws_eqBox_a w h b xs h6
  have ey := laws_eqBox_a w' h' b' ys h8
  obtain ⟨R, hR⟩ : ∃ R, R = sameB w h b xs w' h' b' ys := ⟨_, rfl⟩
  rw [← hV] at cx cs ci ex
  rw [← hW] at cy cs ci ey
  rw [← hR] at cs ci
  rw [← hV, ← hW]
  refine pcon_run (c := body Try.f4) fits Try.func4 (by kernel_rfl) (by kernel_rfl) (by rfl) (by kernel_rfl) fun g F hg hF => ?_
  cbv
  have e2 : g .q .lss Z 0 = false := by rw [goLss hg]; exact decide_eq_false bZ
  have e3 : g .q .lss Y 0 = false := by rw [goLss hg]; exact decide_eq_false bY
  have e4 : g .qb .neq R R = false := by rw [goNeqB hg]; simp
  refine call0 hg cz rfl rfl ?_
  cbv
  rw [e2]
  cbv
  refine call0 hg cz2 rfl rfl ?_
  cbv
  rw [e3]
  cbv
  repeat' (first | (refine callBoxP hg cx rfl pV ?_; cbv) | (refine callBoxP hg cy rfl pW ?_; cbv) | (refine callBox hg cx rfl pV ?_; cbv) | (refine callBox hg cy rfl pW ?_; cbv) | (refine callRB hg cs (.agg (resBox (ab := ⟨_, _, V⟩) rfl kV dV) (.agg (resBox (ab := ⟨_, _, W⟩) rfl kW dW) (.nil))) rfl ?_; cbv) | (refine callRBP hg cs (.agg (resBox (ab := ⟨_, _, V⟩) rfl kV dV) (.agg (resBox (ab := ⟨_, _, W⟩) rfl kW dW) (.nil))) rfl ?_; cbv) | (refine callRB hg ci (.agg (resBox (ab := ⟨_, _, V⟩) rfl kV dV) (.agg (resBox (ab := ⟨_, _, W⟩) rfl kW dW) (.nil))) rfl ?_; cbv) | (refine callRBP hg ci (.agg (resBox (ab := ⟨_, _, V⟩) rfl kV dV) (.agg (resBox (ab := ⟨_, _, W⟩) rfl kW dW) (.nil))) rfl ?_; cbv) | (refine callRB hg ex (.agg (resBox (ab := ⟨_, _, V⟩) rfl kV dV) (.agg (resBox (ab := ⟨_, _, V⟩) rfl kV dV) (.nil))) rfl ?_; cbv) | (refine callRBP hg ex (.agg (resBox (ab := ⟨_, _, V⟩) rfl kV dV) (.agg (resBox (ab := ⟨_, _, V⟩) rfl kV dV) (.nil))) rfl ?_; cbv) | (refine callRB hg ey (.agg (resBox (ab := ⟨_, _, W⟩) rfl kW dW) (.agg (resBox (ab := ⟨_, _, W⟩) rfl kW dW) (.nil))) rfl ?_; cbv) | (refine callRBP hg ey (.agg (resBox (ab := ⟨_, _, W⟩) rfl kW dW) (.agg (resBox (ab := ⟨_, _, W⟩) rfl kW dW) (.nil))) rfl ?_; cbv) | (rw [e4]; cbv))
  exact fin0b hF rfl

end Go.Proofs.Ytnlmbkndjhnmhaa
