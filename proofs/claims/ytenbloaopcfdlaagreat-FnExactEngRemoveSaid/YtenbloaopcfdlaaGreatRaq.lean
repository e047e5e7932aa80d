/- Lines of items: lengths within bounds, sums over a line. Numbers, lengths, sides and bounds, as maps of data. Boxes without their edges, spaces of a root, frames in bounds. Lines: their length, how much they are spread, whether they are filled. Structs that hold slices, as data. -/
import Derived.Test.YtenbloaopcfdlaaGreatRap
namespace Go.Proofs.YtenbloaopcfdlaaGreat
open Go.ChangeShapes Go.WideShapes Go.ChangeAt Go.RowKit Am
set_option linter.unusedVariables false
set_option linter.unusedSimpArgs false
set_option maxRecDepth 100000
def psum {α : Type} (f : α → Int) (xs : List α) (n : Nat) : Int := ((xs.take n).map f).sum
theorem psum_zero {α : Type} (f : α → Int) (xs : List α) : psum f xs 0 = 0 := by simp [psum]
theorem psum_succ {α : Type} (f : α → Int) {xs : List α} {n : Nat} {x : α} (h : xs[n]? = some x) : psum f xs (n + 1) = psum f xs n + f x := by
  simp [psum, List.take_add_one, h]
theorem psum_all {α : Type} (f : α → Int) {xs : List α} {n : Nat} (h : xs.length ≤ n) : psum f xs n = (xs.map f).sum := by
  rw [psum, List.take_of_length_le h]
theorem vw_k {α : Type} {c : α → Array Value} {k : Nat} (hk : ∀ x, (c x).size = k) {xs : List α} : ∀ y ∈ vw c xs, y.length = k := by
  intro y hy
  simp only [vw, List.mem_map] at hy
  obtain ⟨x, _, rfl⟩ := hy
  rw [lc_len]; exact hk x
theorem lc_dat (a : Array Value) : (lc a).all dat = true := by simp [lc, dat]
theorem vw_dat {α : Type} {c : α → Array Value} {xs : List α} : ∀ y ∈ vw c xs, y.all dat = true := by
  intro y hy
  simp only [vw, List.mem_map] at hy
  obtain ⟨x, _, rfl⟩ := hy
  exact lc_dat _
end Go.Proofs.YtenbloaopcfdlaaGreat
namespace Go.Proofs.YtenbloaopcfdlaaGreat
open Go.ChangeShapes Go.WideShapes Go.ChangeAt Go.RowKit Am
set_option linter.unusedVariables false
set_option linter.unusedSimpArgs false
set_option maxRecDepth 100000
theorem spec_l01In_a (n l m : Int) : PCon Tryz.prog 97 [ai n, ai l, ai m] fun res rows => res = .t (abl (decide (l ≤ n) && decide (n ≤ m))) ∧ rows = [] := by
  refine pcon_run (c := body Tryz.f97) fits Tryz.func97 (by kernel_rfl) (by kernel_rfl) (by rfl) (by kernel_rfl) fun g F hg hF => ?_
  cbv
  repeat' (first | (split <;> rename_i hh <;> (try rw [hh]) <;> (try simp only [goLss hg, goLeq hg, goGtr hg, goGeq hg, goEql hg, goNeq hg, goEqlB hg, goNeqB hg, goAdd hg, goSub hg, goMul hg, goQuo hg, goRem hg, goNg hg, goMn hg, goMx hg, beq_iff_eq, bne_iff_ne, beq_eq_false_iff_ne, bne_eq_false_iff_eq, decide_eq_true_eq, decide_eq_false_iff_not, ne_eq, Decidable.not_not] at hh) <;> cbv))
  all_goals exact fin0b hF (by (try simp only [goLeq hg, goGeq hg]); grind)
theorem impl_in_a (n l m : Int) : PCon Tryz.prog 102 [ai n, ai l, ai m] fun res rows => res = .t (abl (decide (l ≤ n) && decide (n ≤ m))) ∧ rows = [] := by
  refine pcon_run (c := body Tryz.f102) fits Tryz.func102 (by kernel_rfl) (by kernel_rfl) (by rfl) (by kernel_rfl) fun g F hg hF => ?_
  cbv
  repeat' (first | (split <;> rename_i hh <;> (try rw [hh]) <;> (try simp only [goLss hg, goLeq hg, goGtr hg, goGeq hg, goEql hg, goNeq hg, goEqlB hg, goNeqB hg, goAdd hg, goSub hg, goMul hg, goQuo hg, goRem hg, goNg hg, goMn hg, goMx hg, beq_iff_eq, bne_iff_ne, beq_eq_false_iff_ne, bne_eq_false_iff_eq, decide_eq_true_eq, decide_eq_false_iff_not, ne_eq, Decidable.not_not] at hh) <;> cbv))
  all_goals exact fin0b hF (by (try simp only [goLeq hg, goGeq hg]); grind)
end Go.Proofs.YtenbloaopcfdlaaGreat
namespace Go.Proofs.YtenbloaopcfdlaaGreat
open Go.ChangeShapes Go.WideShapes Go.ChangeAt Go.RowKit Am
set_option linter.unusedVariables false
set_option linter.unusedSimpArgs false
set_option maxRecDepth 100000
theorem argsR_nil {F : Nat → Prop} {w : World} : ∀ (j : Nat) (x : AT), ([] : List AT)[j]? = some x → ∃ v, ([] : List Value)[j]? = some v ∧ RT F w [] [] x v := fun j x h => by simp at h
theorem argsR_cons {F : Nat → Prop} {w : World} {x : AT} {v : Value} {xs : List AT} {vs : List Value} (h1 : RT F w [] [] x v) (h2 : ∀ (j : Nat) (x : AT), xs[j]? = some x → ∃ v, vs[j]? = some v ∧ RT F w [] [] x v) :
    ∀ (j : Nat) (y : AT), (x :: xs)[j]? = some y → ∃ u, (v :: vs)[j]? = some u ∧ RT F w [] [] y u := fun j y h => by
  cases j with
  | zero => simp only [List.getElem?_cons_zero, Option.some.injEq] at h; subst h; exact ⟨v, rfl, h1⟩
  | succ j => exact h2 j y (by simpa using h)
end Go.Proofs.YtenbloaopcfdlaaGreat
namespace Go.Proofs.YtenbloaopcfdlaaGreat
open Go.ChangeShapes Go.WideShapes Go.ChangeAt Go.RowKit Am
set_option linter.unusedVariables false
set_option linter.unusedSimpArgs false
set_option maxRecDepth 100000
theorem RepS.len {α : Type} {k : Nat} {c : α → Array Value} {w : World} {v : Value} {xs : List α} (h : RepS k c w v xs) : xs.length ≤ 9223372036854775807 := by
  obtain ⟨p, cap, _, h1, h2, _⟩ := h
  exact Nat.le_trans h1 (Nat.le_trans h2 (by decide))
theorem toRow {P : Program} {f : FuncId} {args : List AT} {ab0 : AB} {q : AB → Prop} (hc : PCon P f args fun res rows => ∃ ab, res = .t (.c (.own 0)) ∧ rows = [ab] ∧ q ab ∧ ab = ab0) : PCon P f args fun res rows => res = .t (.c (.own 0)) ∧ rows = [ab0] :=
  Con.mono hc fun res h' ⟨rows, h1, ab, h2, h3, _, h4⟩ => ⟨rows, h1, h2, by rw [h3, h4]⟩
theorem vw_imm {α : Type} (c : α → Array Value) (xs : List α) : immE (vw c xs) = true := by
  simp only [immE, vw, List.all_map, List.all_eq_true]
  intro x _
  simp [lc]
end Go.Proofs.YtenbloaopcfdlaaGreat
namespace Go.Proofs.YtenbloaopcfdlaaGreat
open Go.ChangeShapes Go.WideShapes Go.ChangeAt Go.RowKit Am
set_option linter.unusedVariables false
set_option linter.unusedSimpArgs false
set_option maxRecDepth 100000
def vwA {α : Type} (c : α → List AC) (xs : List α) : List (List AC) := xs.map c
theorem vwA_length {α : Type} (c : α → List AC) (xs : List α) : (vwA c xs).length = xs.length := by simp [vwA]
theorem vwA_at {α : Type} {c : α → List AC} {xs : List α} {i : Nat} {x : α} (h : xs[i]? = some x) : (vwA c xs)[i]? = some (c x) := by simp [vwA, h]
theorem vwA_k {α : Type} {c : α → List AC} {k : Nat} (hk : ∀ x, (c x).length = k) {xs : List α} : ∀ y ∈ vwA c xs, y.length = k := by
  intro y hy
  simp only [vwA, List.mem_map] at hy
  obtain ⟨x, _, rfl⟩ := hy
  exact hk x
theorem vwA_dat {α : Type} {c : α → List AC} (hd : ∀ x, (c x).all dat = true) {xs : List α} : ∀ y ∈ vwA c xs, y.all dat = true := by
  intro y hy
  simp only [vwA, List.mem_map] at hy
  obtain ⟨x, _, rfl⟩ := hy
  exact hd x
theorem vwA_plain {α : Type} {c : α → List AC} (hp : ∀ x, (c x).all plain = true) (xs : List α) : plainE (vwA c xs) = true := by
  simp only [plainE, List.all_eq_true]
  intro y hy
  simp only [vwA, List.mem_map] at hy
  obtain ⟨x, _, rfl⟩ := hy
  exact List.all_eq_true.1 (hp x)
theorem rows_ofA {α : Type} {c : α → List AC} {q : List AC → Prop} {p : α → Prop} (hq : ∀ x, q x → ∃ a, x = c a ∧ p a) : ∀ {xs : List (List AC)}, (∀ x ∈ xs, q x) → ∃ l : List α, xs = vwA c l ∧ ∀ a ∈ l, p a
  | [], _ => ⟨[], rfl, by simp⟩
  | x :: xs, h => by
    obtain ⟨a, ha, hp⟩ := hq x (h x (by simp))
    obtain ⟨l, hl, hpl⟩ := rows_ofA hq (xs := xs) fun y hy => h y (by simp [hy])
    exact ⟨a :: l, by rw [ha, hl]; rfl, fun b hb => by rcases List.mem_cons.1 hb with rfl | hb; exact hp; exact hpl b hb⟩
theorem rows_ofF {α : Type} {c : α → Array Value} {q : List AC → Prop} (hq : ∀ x, q x → ∃ a, x = lc (c a)) {xs : List (List AC)} (h : ∀ x ∈ xs, q x) : ∃ l : List α, xs = vw c l := by
  obtain ⟨l, hl, _⟩ := rows_ofA (c := fun a => lc (c a)) (p := fun _ => True) (fun x hx => let ⟨a, ha⟩ := hq x hx; ⟨a, ha, trivial⟩) h
  exact ⟨l, hl⟩
theorem dt_cons {k : Sh} {ks : List Sh} : ∀ {xs : List AC}, DtL (k :: ks) xs → ∃ c cs, xs = c :: cs ∧ Dt k c ∧ DtL ks cs
  | [], h => by simp [DtL] at h
  | c :: cs, h => by unfold DtL at h; exact ⟨c, cs, rfl, h.1, h.2⟩
theorem dt_nil : ∀ {xs : List AC}, DtL [] xs → xs = []
  | [], _ => rfl
  | _ :: _, h => by simp [DtL] at h
theorem dt_i {c : AC} (h : Dt .i c) : ∃ n, c = .imm (.int .i64 n) := by unfold Dt at h; obtain ⟨n, _, h⟩ := h; exact ⟨n, h⟩
theorem dt_b {c : AC} (h : Dt .b c) : ∃ n, c = .imm (.bool n) := by unfold Dt at h; exact h
theorem dt_s {ks : List Sh} {c : AC} (h : Dt (.s ks) c) : ∃ xs : List (List AC), c = .view xs ∧ xs.length ≤ 9223372036854775807 ∧ ∀ x ∈ xs, DtL ks x := by unfold Dt at h; exact h
theorem lt_viaN {n : Nat} {a z : Int} (h : a = (n : Int)) (hz : z < a) : z < (n : Int) := h ▸ hz
theorem lt_eqI {es V : List (List AC)} {z : Int} (hl : es.length = V.length) (hz : z < lenI V) : z < lenI es := by rw [lenI_eq] at hz ⊢; rw [hl]; exact hz
theorem lt_lenJ {es : List (List AC)} {z : Int} {j : Nat} (h0 : 0 ≤ z) (hc : z < lenI es) (hj : j = z.toNat) : j < es.length := by subst hj; rw [lenI_eq] at hc; omega
theorem small_of {V : List (List AC)} {n : Nat} {L : Int} (hl : V.length = n) (h : (V.length : Int) ≤ L) (hL : L ≤ 1048576) : n ≤ 1048576 := by omega
theorem all_upto {α : Type} {xs : List α} {p : α → Prop} {M z : Int} (hM : M = (xs.length : Int)) (hz : M ≤ z) (h : ∀ (i : Nat) (y : α), i < z.toNat → xs[i]? = some y → p y) : ∀ y ∈ xs, p y := fun y hy => by
  obtain ⟨i, hi, he⟩ := List.getElem_of_mem hy
  exact h i y (by omega) (by rw [List.getElem?_eq_getElem hi, he])
theorem goYk {P : Program} {n0 N : Nat} {g : Gd} (hg : g = G0 P n0 N) {xs : List (List AC)} {z : Int} {j k : Nat} {K : Nat → Prop} (hz : 0 ≤ z) (hj : j = z.toNat) (hy : j < xs.length) (hK : K j) : g .Y k xs z K := by subst hg hj; exact ⟨hz, hy, hK⟩
theorem callZ {P : Program} {n0 N : Nat} {g : Gd} (hg : g = G0 P n0 N) {h : EH} {f : FuncId} {args : List AT} {K : AV → EH → Prop} {Q : Int → Prop} (hc : PCon P f args fun res rows => ∃ R : Int, res = .t (ai R) ∧ rows = [] ∧ Q R) (hp : datPA args = true)
    (hK : ∀ R, Q R → K (.t (.c (.imm (.int .i64 R)))) (h ++ [])) : g .C f h args K :=
  callC hg (pcall_pure hc hp fun res rows ⟨R, h1, h2, h3⟩ => by subst h1 h2; exact ⟨[], rfl, hK R h3⟩)
theorem finZ {F : List AT → EH → Prop} {eh : EH} {Q : Int → Prop} {z : Int} (hF : F = FinP 0 (fun res h' => ∃ rows, h' = rows.map .live ∧ (∃ R : Int, res = .t (ai R) ∧ rows = [] ∧ Q R))) (h : Q z) : F [.c (.imm (.int .i64 z))] eh :=
  fin0 hF rfl ⟨z, rfl, rfl, h⟩
theorem szZ {P : Program} {f : FuncId} {args : List AT} {V : List (List AC)} {L : Int} (hc : PCon P f args fun res rows => res = .t (ai (szR (lenI V) L)) ∧ rows = []) : PCon P f args fun res rows => ∃ R : Int, res = .t (ai R) ∧ rows = [] ∧ (R ≤ L ∨ R < 0) ∧ (0 ≤ R → (V.length : Int) ≤ L) :=
  Con.mono hc fun res h' ⟨rows, h1, h2, h3⟩ => ⟨rows, h1, _, h2, h3, by unfold szR; rw [lenI_eq]; split <;> omega, by unfold szR; rw [lenI_eq]; split <;> omega⟩
theorem GRule.of_ (x : List AC) (h : DtL [.i, .i, .i] x) : ∃ a : GRule, x = lc (GRule.c a) := by
  obtain ⟨c0, t0, rfl, d0, h⟩ := dt_cons h
  obtain ⟨c1, t1, rfl, d1, h⟩ := dt_cons h
  obtain ⟨c2, t2, rfl, d2, h⟩ := dt_cons h
  obtain rfl := dt_nil h
  obtain ⟨a0, rfl⟩ := dt_i d0
  obtain ⟨a1, rfl⟩ := dt_i d1
  obtain ⟨a2, rfl⟩ := dt_i d2
  exact ⟨⟨a0, a1, a2⟩, rfl⟩
structure NTable where
  rules : List GRule
def NTable.ac : NTable → List AC
  | ⟨a0⟩ => [.view (vw GRule.c a0)]
def NTable.sh : List Sh := [.s [.i, .i, .i]]
def NTable.small : NTable → Prop
  | ⟨a0⟩ => a0.length ≤ 1048576 ∧ True
def NTable.fit : NTable → Prop
  | ⟨a0⟩ => a0.length ≤ 9223372036854775807 ∧ True
theorem NTable.len (x : NTable) : x.ac.length = 1 := rfl
theorem NTable.dat (x : NTable) : x.ac.all Am.dat = true := rfl
theorem NTable.plain (x : NTable) : x.ac.all Am.plain = true := rfl
theorem NTable.of_ (x : List AC) (h : DtL NTable.sh x) : ∃ a : NTable, x = a.ac ∧ a.fit := by
  obtain ⟨c0, t0, rfl, d0, h⟩ := dt_cons h
  obtain rfl := dt_nil h
  obtain ⟨w0, rfl, l0, e0⟩ := dt_s d0
  obtain ⟨a0, rfl⟩ := rows_ofF (c := GRule.c) GRule.of_ e0
  rw [vw_length] at l0
  exact ⟨⟨a0⟩, rfl, ⟨l0, trivial⟩⟩
theorem Int.of_ (x : List AC) (h : DtL [.i] x) : ∃ a : Int, x = lc (intC a) := by
  obtain ⟨c0, t0, rfl, d0, h⟩ := dt_cons h
  obtain rfl := dt_nil h
  obtain ⟨a0, rfl⟩ := dt_i d0
  exact ⟨a0, rfl⟩
structure NNode where
  up : Int
  kids : List Int
  style : GStyle
  measured : Bool
  table : NTable
def NNode.ac : NNode → List AC
  | ⟨a0, a1, ⟨a2, a3, a4, a5, a6, a7, a8, a9, a10, a11, a12, ⟨a13, a14⟩, ⟨a15, a16⟩, ⟨a17, a18⟩, ⟨a19, a20⟩, ⟨a21, a22⟩, ⟨a23, a24⟩, ⟨a25, a26⟩, a27, ⟨⟨a28, a29⟩, ⟨a30, a31⟩, ⟨a32, a33⟩, ⟨a34, a35⟩, ⟨a36, a37⟩, ⟨a38, a39⟩⟩, ⟨⟨a40, a41⟩, ⟨a42, a43⟩, ⟨a44, a45⟩, ⟨a46, a47⟩, ⟨a48, a49⟩, ⟨a50, a51⟩⟩, ⟨a52, a53, a54, a55⟩, ⟨a56, a57, a58, a59⟩, a60, a61⟩, a62, ⟨a63⟩⟩ => [.imm (.int .i64 a0), .view (vw intC a1), .imm (.int .i64 a2), .imm (.int .i64 a3), .imm (.int .i64 a4), .imm (.int .i64 a5), .imm (.int .i64 a6), .imm (.int .i64 a7), .imm (.bool a8), .imm (.bool a9), .imm (.int .i64 a10), .imm (.int .i64 a11), .imm (.int .i64 a12), .imm (.int .i64 a13), .imm (.int .i64 a14), .imm (.int .i64 a15), .imm (.int .i64 a16), .imm (.int .i64 a17), .imm (.int .i64 a18), .imm (.int .i64 a19), .imm (.int .i64 a20), .imm (.int .i64 a21), .imm (.int .i64 a22), .imm (.int .i64 a23), .imm (.int .i64 a24), .imm (.int .i64 a25), .imm (.int .i64 a26), .imm (.int .i64 a27), .imm (.int .i64 a28), .imm (.int .i64 a29), .imm (.int .i64 a30), .imm (.int .i64 a31), .imm (.int .i64 a32), .imm (.int .i64 a33), .imm (.int .i64 a34), .imm (.int .i64 a35), .imm (.int .i64 a36), .imm (.int .i64 a37), .imm (.int .i64 a38), .imm (.int .i64 a39), .imm (.int .i64 a40), .imm (.int .i64 a41), .imm (.int .i64 a42), .imm (.int .i64 a43), .imm (.int .i64 a44), .imm (.int .i64 a45), .imm (.int .i64 a46), .imm (.int .i64 a47), .imm (.int .i64 a48), .imm (.int .i64 a49), .imm (.int .i64 a50), .imm (.int .i64 a51), .imm (.int .i64 a52), .imm (.int .i64 a53), .imm (.int .i64 a54), .imm (.int .i64 a55), .imm (.int .i64 a56), .imm (.int .i64 a57), .imm (.int .i64 a58), .imm (.int .i64 a59), .imm (.int .i64 a60), .imm (.int .i64 a61), .imm (.bool a62), .view (vw GRule.c a63)]
def NNode.sh : List Sh := [.i, .s [.i], .i, .i, .i, .i, .i, .i, .b, .b, .i, .i, .i, .i, .i, .i, .i, .i, .i, .i, .i, .i, .i, .i, .i, .i, .i, .i, .i, .i, .i, .i, .i, .i, .i, .i, .i, .i, .i, .i, .i, .i, .i, .i, .i, .i, .i, .i, .i, .i, .i, .i, .i, .i, .i, .i, .i, .i, .i, .i, .i, .i, .b, .s [.i, .i, .i]]
def NNode.small : NNode → Prop
  | ⟨a0, a1, ⟨a2, a3, a4, a5, a6, a7, a8, a9, a10, a11, a12, ⟨a13, a14⟩, ⟨a15, a16⟩, ⟨a17, a18⟩, ⟨a19, a20⟩, ⟨a21, a22⟩, ⟨a23, a24⟩, ⟨a25, a26⟩, a27, ⟨⟨a28, a29⟩, ⟨a30, a31⟩, ⟨a32, a33⟩, ⟨a34, a35⟩, ⟨a36, a37⟩, ⟨a38, a39⟩⟩, ⟨⟨a40, a41⟩, ⟨a42, a43⟩, ⟨a44, a45⟩, ⟨a46, a47⟩, ⟨a48, a49⟩, ⟨a50, a51⟩⟩, ⟨a52, a53, a54, a55⟩, ⟨a56, a57, a58, a59⟩, a60, a61⟩, a62, ⟨a63⟩⟩ => a1.length ≤ 1048576 ∧ a63.length ≤ 1048576 ∧ True
def NNode.fit : NNode → Prop
  | ⟨a0, a1, ⟨a2, a3, a4, a5, a6, a7, a8, a9, a10, a11, a12, ⟨a13, a14⟩, ⟨a15, a16⟩, ⟨a17, a18⟩, ⟨a19, a20⟩, ⟨a21, a22⟩, ⟨a23, a24⟩, ⟨a25, a26⟩, a27, ⟨⟨a28, a29⟩, ⟨a30, a31⟩, ⟨a32, a33⟩, ⟨a34, a35⟩, ⟨a36, a37⟩, ⟨a38, a39⟩⟩, ⟨⟨a40, a41⟩, ⟨a42, a43⟩, ⟨a44, a45⟩, ⟨a46, a47⟩, ⟨a48, a49⟩, ⟨a50, a51⟩⟩, ⟨a52, a53, a54, a55⟩, ⟨a56, a57, a58, a59⟩, a60, a61⟩, a62, ⟨a63⟩⟩ => a1.length ≤ 9223372036854775807 ∧ a63.length ≤ 9223372036854775807 ∧ True
theorem NNode.len (x : NNode) : x.ac.length = 64 := rfl
theorem NNode.dat (x : NNode) : x.ac.all Am.dat = true := rfl
theorem NNode.plain (x : NNode) : x.ac.all Am.plain = true := rfl
theorem NNode.of_ (x : List AC) (h : DtL NNode.sh x) : ∃ a : NNode, x = a.ac ∧ a.fit := by
  obtain ⟨c0, t0, rfl, d0, h⟩ := dt_cons h
  obtain ⟨c1, t1, rfl, d1, h⟩ := dt_cons h
  obtain ⟨c2, t2, rfl, d2, h⟩ := dt_cons h
  obtain ⟨c3, t3, rfl, d3, h⟩ := dt_cons h
  obtain ⟨c4, t4, rfl, d4, h⟩ := dt_cons h
  obtain ⟨c5, t5, rfl, d5, h⟩ := dt_cons h
  obtain ⟨c6, t6, rfl, d6, h⟩ := dt_cons h
  obtain ⟨c7, t7, rfl, d7, h⟩ := dt_cons h
  obtain ⟨c8, t8, rfl, d8, h⟩ := dt_cons h
  obtain ⟨c9, t9, rfl, d9, h⟩ := dt_cons h
  obtain ⟨c10, t10, rfl, d10, h⟩ := dt_cons h
  obtain ⟨c11, t11, rfl, d11, h⟩ := dt_cons h
  obtain ⟨c12, t12, rfl, d12, h⟩ := dt_cons h
  obtain ⟨c13, t13, rfl, d13, h⟩ := dt_cons h
  obtain ⟨c14, t14, rfl, d14, h⟩ := dt_cons h
  obtain ⟨c15, t15, rfl, d15, h⟩ := dt_cons h
  obtain ⟨c16, t16, rfl, d16, h⟩ := dt_cons h
  obtain ⟨c17, t17, rfl, d17, h⟩ := dt_cons h
  obtain ⟨c18, t18, rfl, d18, h⟩ := dt_cons h
  obtain ⟨c19, t19, rfl, d19, h⟩ := dt_cons h
  obtain ⟨c20, t20, rfl, d20, h⟩ := dt_cons h
  obtain ⟨c21, t21, rfl, d21, h⟩ := dt_cons h
  obtain ⟨c22, t22, rfl, d22, h⟩ := dt_cons h
  obtain ⟨c23, t23, rfl, d23, h⟩ := dt_cons h
  obtain ⟨c24, t24, rfl, d24, h⟩ := dt_cons h
  obtain ⟨c25, t25, rfl, d25, h⟩ := dt_cons h
  obtain ⟨c26, t26, rfl, d26, h⟩ := dt_cons h
  obtain ⟨c27, t27, rfl, d27, h⟩ := dt_cons h
  obtain ⟨c28, t28, rfl, d28, h⟩ := dt_cons h
  obtain ⟨c29, t29, rfl, d29, h⟩ := dt_cons h
  obtain ⟨c30, t30, rfl, d30, h⟩ := dt_cons h
  obtain ⟨c31, t31, rfl, d31, h⟩ := dt_cons h
  obtain ⟨c32, t32, rfl, d32, h⟩ := dt_cons h
  obtain ⟨c33, t33, rfl, d33, h⟩ := dt_cons h
  obtain ⟨c34, t34, rfl, d34, h⟩ := dt_cons h
  obtain ⟨c35, t35, rfl, d35, h⟩ := dt_cons h
  obtain ⟨c36, t36, rfl, d36, h⟩ := dt_cons h
  obtain ⟨c37, t37, rfl, d37, h⟩ := dt_cons h
  obtain ⟨c38, t38, rfl, d38, h⟩ := dt_cons h
  obtain ⟨c39, t39, rfl, d39, h⟩ := dt_cons h
  obtain ⟨c40, t40, rfl, d40, h⟩ := dt_cons h
  obtain ⟨c41, t41, rfl, d41, h⟩ := dt_cons h
  obtain ⟨c42, t42, rfl, d42, h⟩ := dt_cons h
  obtain ⟨c43, t43, rfl, d43, h⟩ := dt_cons h
  obtain ⟨c44, t44, rfl, d44, h⟩ := dt_cons h
  obtain ⟨c45, t45, rfl, d45, h⟩ := dt_cons h
  obtain ⟨c46, t46, rfl, d46, h⟩ := dt_cons h
  obtain ⟨c47, t47, rfl, d47, h⟩ := dt_cons h
  obtain ⟨c48, t48, rfl, d48, h⟩ := dt_cons h
  obtain ⟨c49, t49, rfl, d49, h⟩ := dt_cons h
  obtain ⟨c50, t50, rfl, d50, h⟩ := dt_cons h
  obtain ⟨c51, t51, rfl, d51, h⟩ := dt_cons h
  obtain ⟨c52, t52, rfl, d52, h⟩ := dt_cons h
  obtain ⟨c53, t53, rfl, d53, h⟩ := dt_cons h
  obtain ⟨c54, t54, rfl, d54, h⟩ := dt_cons h
  obtain ⟨c55, t55, rfl, d55, h⟩ := dt_cons h
  obtain ⟨c56, t56, rfl, d56, h⟩ := dt_cons h
  obtain ⟨c57, t57, rfl, d57, h⟩ := dt_cons h
  obtain ⟨c58, t58, rfl, d58, h⟩ := dt_cons h
  obtain ⟨c59, t59, rfl, d59, h⟩ := dt_cons h
  obtain ⟨c60, t60, rfl, d60, h⟩ := dt_cons h
  obtain ⟨c61, t61, rfl, d61, h⟩ := dt_cons h
  obtain ⟨c62, t62, rfl, d62, h⟩ := dt_cons h
  obtain ⟨c63, t63, rfl, d63, h⟩ := dt_cons h
  obtain rfl := dt_nil h
  obtain ⟨a0, rfl⟩ := dt_i d0
  obtain ⟨w1, rfl, l1, e1⟩ := dt_s d1
  obtain ⟨a1, rfl⟩ := rows_ofF (c := intC) Int.of_ e1
  rw [vw_length] at l1
  obtain ⟨a2, rfl⟩ := dt_i d2
  obtain ⟨a3, rfl⟩ := dt_i d3
  obtain ⟨a4, rfl⟩ := dt_i d4
  obtain ⟨a5, rfl⟩ := dt_i d5
  obtain ⟨a6, rfl⟩ := dt_i d6
  obtain ⟨a7, rfl⟩ := dt_i d7
  obtain ⟨a8, rfl⟩ := dt_b d8
  obtain ⟨a9, rfl⟩ := dt_b d9
  obtain ⟨a10, rfl⟩ := dt_i d10
  obtain ⟨a11, rfl⟩ := dt_i d11
  obtain ⟨a12, rfl⟩ := dt_i d12
  obtain ⟨a13, rfl⟩ := dt_i d13
  obtain ⟨a14, rfl⟩ := dt_i d14
  obtain ⟨a15, rfl⟩ := dt_i d15
  obtain ⟨a16, rfl⟩ := dt_i d16
  obtain ⟨a17, rfl⟩ := dt_i d17
  obtain ⟨a18, rfl⟩ := dt_i d18
  obtain ⟨a19, rfl⟩ := dt_i d19
  obtain ⟨a20, rfl⟩ := dt_i d20
  obtain ⟨a21, rfl⟩ := dt_i d21
  obtain ⟨a22, rfl⟩ := dt_i d22
  obtain ⟨a23, rfl⟩ := dt_i d23
  obtain ⟨a24, rfl⟩ := dt_i d24
  obtain ⟨a25, rfl⟩ := dt_i d25
  obtain ⟨a26, rfl⟩ := dt_i d26
  obtain ⟨a27, rfl⟩ := dt_i d27
  obtain ⟨a28, rfl⟩ := dt_i d28
  obtain ⟨a29, rfl⟩ := dt_i d29
  obtain ⟨a30, rfl⟩ := dt_i d30
  obtain ⟨a31, rfl⟩ := dt_i d31
  obtain ⟨a32, rfl⟩ := dt_i d32
  obtain ⟨a33, rfl⟩ := dt_i d33
  obtain ⟨a34, rfl⟩ := dt_i d34
  obtain ⟨a35, rfl⟩ := dt_i d35
  obtain ⟨a36, rfl⟩ := dt_i d36
  obtain ⟨a37, rfl⟩ := dt_i d37
  obtain ⟨a38, rfl⟩ := dt_i d38
  obtain ⟨a39, rfl⟩ := dt_i d39
  obtain ⟨a40, rfl⟩ := dt_i d40
  obtain ⟨a41, rfl⟩ := dt_i d41
  obtain ⟨a42, rfl⟩ := dt_i d42
  obtain ⟨a43, rfl⟩ := dt_i d43
  obtain ⟨a44, rfl⟩ := dt_i d44
  obtain ⟨a45, rfl⟩ := dt_i d45
  obtain ⟨a46, rfl⟩ := dt_i d46
  obtain ⟨a47, rfl⟩ := dt_i d47
  obtain ⟨a48, rfl⟩ := dt_i d48
  obtain ⟨a49, rfl⟩ := dt_i d49
  obtain ⟨a50, rfl⟩ := dt_i d50
  obtain ⟨a51, rfl⟩ := dt_i d51
  obtain ⟨a52, rfl⟩ := dt_i d52
  obtain ⟨a53, rfl⟩ := dt_i d53
  obtain ⟨a54, rfl⟩ := dt_i d54
  obtain ⟨a55, rfl⟩ := dt_i d55
  obtain ⟨a56, rfl⟩ := dt_i d56
  obtain ⟨a57, rfl⟩ := dt_i d57
  obtain ⟨a58, rfl⟩ := dt_i d58
  obtain ⟨a59, rfl⟩ := dt_i d59
  obtain ⟨a60, rfl⟩ := dt_i d60
  obtain ⟨a61, rfl⟩ := dt_i d61
  obtain ⟨a62, rfl⟩ := dt_b d62
  obtain ⟨w63, rfl, l63, e63⟩ := dt_s d63
  obtain ⟨a63, rfl⟩ := rows_ofF (c := GRule.c) GRule.of_ e63
  rw [vw_length] at l63
  exact ⟨⟨a0, a1, ⟨a2, a3, a4, a5, a6, a7, a8, a9, a10, a11, a12, ⟨a13, a14⟩, ⟨a15, a16⟩, ⟨a17, a18⟩, ⟨a19, a20⟩, ⟨a21, a22⟩, ⟨a23, a24⟩, ⟨a25, a26⟩, a27, ⟨⟨a28, a29⟩, ⟨a30, a31⟩, ⟨a32, a33⟩, ⟨a34, a35⟩, ⟨a36, a37⟩, ⟨a38, a39⟩⟩, ⟨⟨a40, a41⟩, ⟨a42, a43⟩, ⟨a44, a45⟩, ⟨a46, a47⟩, ⟨a48, a49⟩, ⟨a50, a51⟩⟩, ⟨a52, a53, a54, a55⟩, ⟨a56, a57, a58, a59⟩, a60, a61⟩, a62, ⟨a63⟩⟩, rfl, ⟨l1, l63, trivial⟩⟩
structure NTree where
  nodes : List NNode
def NTree.ac : NTree → List AC
  | ⟨a0⟩ => [.view (vwA NNode.ac a0)]
def NTree.sh : List Sh := [.s NNode.sh]
def NTree.small : NTree → Prop
  | ⟨a0⟩ => a0.length ≤ 1048576 ∧ (∀ y ∈ a0, NNode.small y) ∧ True
def NTree.fit : NTree → Prop
  | ⟨a0⟩ => a0.length ≤ 9223372036854775807 ∧ (∀ y ∈ a0, NNode.fit y) ∧ True
theorem NTree.len (x : NTree) : x.ac.length = 1 := rfl
theorem NTree.dat (x : NTree) : x.ac.all Am.dat = true := rfl
theorem NTree.plain (x : NTree) : x.ac.all Am.plain = true := rfl
theorem NTree.of_ (x : List AC) (h : DtL NTree.sh x) : ∃ a : NTree, x = a.ac ∧ a.fit := by
  obtain ⟨c0, t0, rfl, d0, h⟩ := dt_cons h
  obtain rfl := dt_nil h
  obtain ⟨w0, rfl, l0, e0⟩ := dt_s d0
  obtain ⟨a0, rfl, f0⟩ := rows_ofA (c := NNode.ac) NNode.of_ e0
  rw [vwA_length] at l0
  exact ⟨⟨a0⟩, rfl, ⟨l0, f0, trivial⟩⟩
theorem GFrame.of_ (x : List AC) (h : DtL [.i, .i, .i, .i, .i] x) : ∃ a : GFrame, x = lc (GFrame.c a) := by
  obtain ⟨c0, t0, rfl, d0, h⟩ := dt_cons h
  obtain ⟨c1, t1, rfl, d1, h⟩ := dt_cons h
  obtain ⟨c2, t2, rfl, d2, h⟩ := dt_cons h
  obtain ⟨c3, t3, rfl, d3, h⟩ := dt_cons h
  obtain ⟨c4, t4, rfl, d4, h⟩ := dt_cons h
  obtain rfl := dt_nil h
  obtain ⟨a0, rfl⟩ := dt_i d0
  obtain ⟨a1, rfl⟩ := dt_i d1
  obtain ⟨a2, rfl⟩ := dt_i d2
  obtain ⟨a3, rfl⟩ := dt_i d3
  obtain ⟨a4, rfl⟩ := dt_i d4
  exact ⟨⟨a0, a1, a2, a3, a4⟩, rfl⟩
structure NBox where
  wide : Int
  high : Int
  base : Int
  frames : List GFrame
def NBox.ac : NBox → List AC
  | ⟨a0, a1, a2, a3⟩ => [.imm (.int .i64 a0), .imm (.int .i64 a1), .imm (.int .i64 a2), .view (vw GFrame.c a3)]
def NBox.sh : List Sh := [.i, .i, .i, .s [.i, .i, .i, .i, .i]]
def NBox.small : NBox → Prop
  | ⟨a0, a1, a2, a3⟩ => a3.length ≤ 1048576 ∧ True
def NBox.fit : NBox → Prop
  | ⟨a0, a1, a2, a3⟩ => a3.length ≤ 9223372036854775807 ∧ True
theorem NBox.len (x : NBox) : x.ac.length = 4 := rfl
theorem NBox.dat (x : NBox) : x.ac.all Am.dat = true := rfl
theorem NBox.plain (x : NBox) : x.ac.all Am.plain = true := rfl
theorem NBox.of_ (x : List AC) (h : DtL NBox.sh x) : ∃ a : NBox, x = a.ac ∧ a.fit := by
  obtain ⟨c0, t0, rfl, d0, h⟩ := dt_cons h
  obtain ⟨c1, t1, rfl, d1, h⟩ := dt_cons h
  obtain ⟨c2, t2, rfl, d2, h⟩ := dt_cons h
  obtain ⟨c3, t3, rfl, d3, h⟩ := dt_cons h
  obtain rfl := dt_nil h
  obtain ⟨a0, rfl⟩ := dt_i d0
  obtain ⟨a1, rfl⟩ := dt_i d1
  obtain ⟨a2, rfl⟩ := dt_i d2
  obtain ⟨w3, rfl, l3, e3⟩ := dt_s d3
  obtain ⟨a3, rfl⟩ := rows_ofF (c := GFrame.c) GFrame.of_ e3
  rw [vw_length] at l3
  exact ⟨⟨a0, a1, a2, a3⟩, rfl, ⟨l3, trivial⟩⟩
structure NMemo where
  node : Int
  wide : GSpace
  high : GSpace
  rtl : Bool
  box : NBox
def NMemo.ac : NMemo → List AC
  | ⟨a0, ⟨a1, a2⟩, ⟨a3, a4⟩, a5, ⟨a6, a7, a8, a9⟩⟩ => [.imm (.int .i64 a0), .imm (.int .i64 a1), .imm (.int .i64 a2), .imm (.int .i64 a3), .imm (.int .i64 a4), .imm (.bool a5), .imm (.int .i64 a6), .imm (.int .i64 a7), .imm (.int .i64 a8), .view (vw GFrame.c a9)]
def NMemo.sh : List Sh := [.i, .i, .i, .i, .i, .b, .i, .i, .i, .s [.i, .i, .i, .i, .i]]
def NMemo.small : NMemo → Prop
  | ⟨a0, ⟨a1, a2⟩, ⟨a3, a4⟩, a5, ⟨a6, a7, a8, a9⟩⟩ => a9.length ≤ 1048576 ∧ True
def NMemo.fit : NMemo → Prop
  | ⟨a0, ⟨a1, a2⟩, ⟨a3, a4⟩, a5, ⟨a6, a7, a8, a9⟩⟩ => a9.length ≤ 9223372036854775807 ∧ True
theorem NMemo.len (x : NMemo) : x.ac.length = 10 := rfl
theorem NMemo.dat (x : NMemo) : x.ac.all Am.dat = true := rfl
theorem NMemo.plain (x : NMemo) : x.ac.all Am.plain = true := rfl
theorem NMemo.of_ (x : List AC) (h : DtL NMemo.sh x) : ∃ a : NMemo, x = a.ac ∧ a.fit := by
  obtain ⟨c0, t0, rfl, d0, h⟩ := dt_cons h
  obtain ⟨c1, t1, rfl, d1, h⟩ := dt_cons h
  obtain ⟨c2, t2, rfl, d2, h⟩ := dt_cons h
  obtain ⟨c3, t3, rfl, d3, h⟩ := dt_cons h
  obtain ⟨c4, t4, rfl, d4, h⟩ := dt_cons h
  obtain ⟨c5, t5, rfl, d5, h⟩ := dt_cons h
  obtain ⟨c6, t6, rfl, d6, h⟩ := dt_cons h
  obtain ⟨c7, t7, rfl, d7, h⟩ := dt_cons h
  obtain ⟨c8, t8, rfl, d8, h⟩ := dt_cons h
  obtain ⟨c9, t9, rfl, d9, h⟩ := dt_cons h
  obtain rfl := dt_nil h
  obtain ⟨a0, rfl⟩ := dt_i d0
  obtain ⟨a1, rfl⟩ := dt_i d1
  obtain ⟨a2, rfl⟩ := dt_i d2
  obtain ⟨a3, rfl⟩ := dt_i d3
  obtain ⟨a4, rfl⟩ := dt_i d4
  obtain ⟨a5, rfl⟩ := dt_b d5
  obtain ⟨a6, rfl⟩ := dt_i d6
  obtain ⟨a7, rfl⟩ := dt_i d7
  obtain ⟨a8, rfl⟩ := dt_i d8
  obtain ⟨w9, rfl, l9, e9⟩ := dt_s d9
  obtain ⟨a9, rfl⟩ := rows_ofF (c := GFrame.c) GFrame.of_ e9
  rw [vw_length] at l9
  exact ⟨⟨a0, ⟨a1, a2⟩, ⟨a3, a4⟩, a5, ⟨a6, a7, a8, a9⟩⟩, rfl, ⟨l9, trivial⟩⟩
theorem GAsked.of_ (x : List AC) (h : DtL [.i, .i, .i, .i, .i, .b] x) : ∃ a : GAsked, x = lc (GAsked.c a) := by
  obtain ⟨c0, t0, rfl, d0, h⟩ := dt_cons h
  obtain ⟨c1, t1, rfl, d1, h⟩ := dt_cons h
  obtain ⟨c2, t2, rfl, d2, h⟩ := dt_cons h
  obtain ⟨c3, t3, rfl, d3, h⟩ := dt_cons h
  obtain ⟨c4, t4, rfl, d4, h⟩ := dt_cons h
  obtain ⟨c5, t5, rfl, d5, h⟩ := dt_cons h
  obtain rfl := dt_nil h
  obtain ⟨a0, rfl⟩ := dt_i d0
  obtain ⟨a1, rfl⟩ := dt_i d1
  obtain ⟨a2, rfl⟩ := dt_i d2
  obtain ⟨a3, rfl⟩ := dt_i d3
  obtain ⟨a4, rfl⟩ := dt_i d4
  obtain ⟨a5, rfl⟩ := dt_b d5
  exact ⟨⟨a0, ⟨a1, a2⟩, ⟨a3, a4⟩, a5⟩, rfl⟩
structure NKept where
  memos : List NMemo
  asked : List GAsked
def NKept.ac : NKept → List AC
  | ⟨a0, a1⟩ => [.view (vwA NMemo.ac a0), .view (vw GAsked.c a1)]
def NKept.sh : List Sh := [.s NMemo.sh, .s [.i, .i, .i, .i, .i, .b]]
def NKept.small : NKept → Prop
  | ⟨a0, a1⟩ => a0.length ≤ 1048576 ∧ (∀ y ∈ a0, NMemo.small y) ∧ a1.length ≤ 1048576 ∧ True
def NKept.fit : NKept → Prop
  | ⟨a0, a1⟩ => a0.length ≤ 9223372036854775807 ∧ (∀ y ∈ a0, NMemo.fit y) ∧ a1.length ≤ 9223372036854775807 ∧ True
theorem NKept.len (x : NKept) : x.ac.length = 2 := rfl
theorem NKept.dat (x : NKept) : x.ac.all Am.dat = true := rfl
theorem NKept.plain (x : NKept) : x.ac.all Am.plain = true := rfl
theorem NKept.of_ (x : List AC) (h : DtL NKept.sh x) : ∃ a : NKept, x = a.ac ∧ a.fit := by
  obtain ⟨c0, t0, rfl, d0, h⟩ := dt_cons h
  obtain ⟨c1, t1, rfl, d1, h⟩ := dt_cons h
  obtain rfl := dt_nil h
  obtain ⟨w0, rfl, l0, e0⟩ := dt_s d0
  obtain ⟨a0, rfl, f0⟩ := rows_ofA (c := NMemo.ac) NMemo.of_ e0
  rw [vwA_length] at l0
  obtain ⟨w1, rfl, l1, e1⟩ := dt_s d1
  obtain ⟨a1, rfl⟩ := rows_ofF (c := GAsked.c) GAsked.of_ e1
  rw [vw_length] at l1
  exact ⟨⟨a0, a1⟩, rfl, ⟨l0, f0, l1, trivial⟩⟩
structure NEngine where
  tree : NTree
  kept : NKept
  frames : List GFrame
  root : Int
  wide : Int
  high : Int
  rtl : Bool
def NEngine.ac : NEngine → List AC
  | ⟨⟨a0⟩, ⟨a1, a2⟩, a3, a4, a5, a6, a7⟩ => [.view (vwA NNode.ac a0), .view (vwA NMemo.ac a1), .view (vw GAsked.c a2), .view (vw GFrame.c a3), .imm (.int .i64 a4), .imm (.int .i64 a5), .imm (.int .i64 a6), .imm (.bool a7)]
def NEngine.sh : List Sh := [.s NNode.sh, .s NMemo.sh, .s [.i, .i, .i, .i, .i, .b], .s [.i, .i, .i, .i, .i], .i, .i, .i, .b]
def NEngine.small : NEngine → Prop
  | ⟨⟨a0⟩, ⟨a1, a2⟩, a3, a4, a5, a6, a7⟩ => a0.length ≤ 1048576 ∧ (∀ y ∈ a0, NNode.small y) ∧ a1.length ≤ 1048576 ∧ (∀ y ∈ a1, NMemo.small y) ∧ a2.length ≤ 1048576 ∧ a3.length ≤ 1048576 ∧ True
def NEngine.fit : NEngine → Prop
  | ⟨⟨a0⟩, ⟨a1, a2⟩, a3, a4, a5, a6, a7⟩ => a0.length ≤ 9223372036854775807 ∧ (∀ y ∈ a0, NNode.fit y) ∧ a1.length ≤ 9223372036854775807 ∧ (∀ y ∈ a1, NMemo.fit y) ∧ a2.length ≤ 9223372036854775807 ∧ a3.length ≤ 9223372036854775807 ∧ True
theorem NEngine.len (x : NEngine) : x.ac.length = 8 := rfl
theorem NEngine.dat (x : NEngine) : x.ac.all Am.dat = true := rfl
theorem NEngine.plain (x : NEngine) : x.ac.all Am.plain = true := rfl
theorem NEngine.of_ (x : List AC) (h : DtL NEngine.sh x) : ∃ a : NEngine, x = a.ac ∧ a.fit := by
  obtain ⟨c0, t0, rfl, d0, h⟩ := dt_cons h
  obtain ⟨c1, t1, rfl, d1, h⟩ := dt_cons h
  obtain ⟨c2, t2, rfl, d2, h⟩ := dt_cons h
  obtain ⟨c3, t3, rfl, d3, h⟩ := dt_cons h
  obtain ⟨c4, t4, rfl, d4, h⟩ := dt_cons h
  obtain ⟨c5, t5, rfl, d5, h⟩ := dt_cons h
  obtain ⟨c6, t6, rfl, d6, h⟩ := dt_cons h
  obtain ⟨c7, t7, rfl, d7, h⟩ := dt_cons h
  obtain rfl := dt_nil h
  obtain ⟨w0, rfl, l0, e0⟩ := dt_s d0
  obtain ⟨a0, rfl, f0⟩ := rows_ofA (c := NNode.ac) NNode.of_ e0
  rw [vwA_length] at l0
  obtain ⟨w1, rfl, l1, e1⟩ := dt_s d1
  obtain ⟨a1, rfl, f1⟩ := rows_ofA (c := NMemo.ac) NMemo.of_ e1
  rw [vwA_length] at l1
  obtain ⟨w2, rfl, l2, e2⟩ := dt_s d2
  obtain ⟨a2, rfl⟩ := rows_ofF (c := GAsked.c) GAsked.of_ e2
  rw [vw_length] at l2
  obtain ⟨w3, rfl, l3, e3⟩ := dt_s d3
  obtain ⟨a3, rfl⟩ := rows_ofF (c := GFrame.c) GFrame.of_ e3
  rw [vw_length] at l3
  obtain ⟨a4, rfl⟩ := dt_i d4
  obtain ⟨a5, rfl⟩ := dt_i d5
  obtain ⟨a6, rfl⟩ := dt_i d6
  obtain ⟨a7, rfl⟩ := dt_b d7
  exact ⟨⟨⟨a0⟩, ⟨a1, a2⟩, a3, a4, a5, a6, a7⟩, rfl, ⟨l0, f0, l1, f1, l2, l3, trivial⟩⟩
end Go.Proofs.YtenbloaopcfdlaaGreat
