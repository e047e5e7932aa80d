/- Tables, nodes of a tree, their depth. Marks on a tree. -/
import Derived.Test.YtenbloaopcfdlaaGreatRaw
namespace Go.Proofs.YtenbloaopcfdlaaGreat
open Go.ChangeShapes Go.WideShapes Go.ChangeAt Go.RowKit Am
set_option linter.unusedVariables false
set_option linter.unusedSimpArgs false
set_option maxRecDepth 100000
def ruOk (r : GRule) : Bool := rng r.room (-1) 1048576 && (rng r.wide 0 1048576 && rng r.high 0 1048576)
def taOk (rs : List GRule) : Bool := rng (rs.length : Int) 1 6 && rs.all ruOk
theorem ru_to {xs : List GRule} {z M : Int} (hM : M = (xs.length : Int)) (hz : M ≤ z) (h : ∀ (i : Nat) (v : GRule), i < z.toNat → xs[i]? = some v → ruOk v = true) : xs.all ruOk = true := by
  rw [List.all_eq_true]
  exact all_upto hM hz h
theorem ru_no {xs : List GRule} {i : Nat} {v : GRule} (h : xs[i]? = some v) (hv : ruOk v = false) : xs.all ruOk = false := by
  rw [List.all_eq_false]
  exact ⟨v, List.mem_of_getElem? h, by rw [hv]; decide⟩
def isN (ns : List NNode) (n : Int) : Bool := rng n 1 (ns.length : Int)
def upN (ns : List NNode) (n : Int) : Int := match ns[(n - 1).toNat]? with | some x => x.up | none => 0
def depF (ns : List NNode) : Nat → Int → Int → Int
  | 0, k, n => if n = 0 then k else 0
  | f + 1, k, n => if n = 0 then k else if isN ns n = true then depF ns f (k + 1) (upN ns n) else 0
def depN (ns : List NNode) (n : Int) : Int := depF ns ns.length 0 n
theorem dep_zero (ns : List NNode) (f : Nat) (k : Int) : depF ns f k 0 = k := by cases f <;> simp [depF]
theorem dep_out (ns : List NNode) (f : Nat) (k n : Int) (h0 : n ≠ 0) (h : isN ns n = false) : depF ns f k n = 0 := by cases f <;> simp [depF, h0, h]
theorem dep_step (ns : List NNode) {f : Nat} {k n : Int} (h0 : n ≠ 0) (h : isN ns n = true) : depF ns (f + 1) k n = depF ns f (k + 1) (upN ns n) := by simp [depF, h0, h]
theorem dep_end (ns : List NNode) {k n : Int} (h0 : n ≠ 0) : depF ns 0 k n = 0 := by simp [depF, h0]
theorem isN_at {ns : List NNode} {n : Int} (h : isN ns n = true) : 1 ≤ n ∧ n ≤ (ns.length : Int) ∧ ∃ x, ns[(n - 1).toNat]? = some x := by
  simp only [isN, rng, Bool.and_eq_true, decide_eq_true_eq] at h
  exact ⟨h.1, h.2, ns[(n - 1).toNat]'(by omega), List.getElem?_eq_getElem _⟩
theorem upN_at {ns : List NNode} {n : Int} {x : NNode} (h : ns[(n - 1).toNat]? = some x) : upN ns n = x.up := by unfold upN; rw [h]
theorem dep_fuel {M d : Int} {L : Nat} (hM : M = (L : Int)) (h0 : 0 ≤ d) (h1 : d < M) : L - d.toNat = (L - (d + 1).toNat) + 1 := by omega
theorem dep_fuel0 {M d : Int} {L : Nat} (hM : M = (L : Int)) (h : d = M) : L - d.toNat = 0 := by omega
def cnt (xs : List Int) (n : Int) : Int := (xs.map fun k => if k = n then 1 else 0).sum
theorem spec_l10Is_a (V : List (List AC)) (n : Int) : PCon Tryz.prog 54 [.agg [.view V], ai n] fun res rows => res = .t (abl (rng n 1 (lenI V))) ∧ rows = [] := by
  refine pcon_run (c := body Tryz.f54) fits Tryz.func54 (by kernel_rfl) (by kernel_rfl) (by rfl) (by kernel_rfl) fun g F hg hF => ?_
  cbv
  repeat' (first | (refine callB hg (spec_l01In_r _ _ _) rfl (fun R0 hR0 => ?_); cases R0 <;> cbv) | (refine callBP hg (spec_l01In_r _ _ _) rfl (fun R0 hR0 => ?_); cases R0 <;> cbv))
  all_goals exact fin0b hF (by rw [hR0, goLn hg])
theorem impl_isNode_a (V : List (List AC)) (n : Int) : PCon Tryz.prog 58 [.agg [.view V], ai n] fun res rows => res = .t (abl (rng n 1 (lenI V))) ∧ rows = [] := by
  refine pcon_run (c := body Tryz.f58) fits Tryz.func58 (by kernel_rfl) (by kernel_rfl) (by rfl) (by kernel_rfl) fun g F hg hF => ?_
  cbv
  repeat' (first | (refine callB hg (impl_in_r _ _ _) rfl (fun R0 hR0 => ?_); cases R0 <;> cbv) | (refine callBP hg (impl_in_r _ _ _) rfl (fun R0 hR0 => ?_); cases R0 <;> cbv))
  all_goals exact fin0b hF (by rw [hR0, goLn hg])
set_option maxHeartbeats 8000000 in
theorem spec_l10Node_a (V : List (List AC)) (n : Int) (h1 : 1 ≤ n) (h2 : n ≤ 1048576) {a0 : Int} {Va1 : List (List AC)} {a2 : Int} {a3 : Int} {a4 : Int} {a5 : Int} {a6 : Int} {a7 : Int} {a8 : Bool} {a9 : Bool} {a10 : Int} {a11 : Int} {a12 : Int} {a13 : Int} {a14 : Int} {a15 : Int} {a16 : Int} {a17 : Int} {a18 : Int} {a19 : Int} {a20 : Int} {a21 : Int} {a22 : Int} {a23 : Int} {a24 : Int} {a25 : Int} {a26 : Int} {a27 : Int} {a28 : Int} {a29 : Int} {a30 : Int} {a31 : Int} {a32 : Int} {a33 : Int} {a34 : Int} {a35 : Int} {a36 : Int} {a37 : Int} {a38 : Int} {a39 : Int} {a40 : Int} {a41 : Int} {a42 : Int} {a43 : Int} {a44 : Int} {a45 : Int} {a46 : Int} {a47 : Int} {a48 : Int} {a49 : Int} {a50 : Int} {a51 : Int} {a52 : Int} {a53 : Int} {a54 : Int} {a55 : Int} {a56 : Int} {a57 : Int} {a58 : Int} {a59 : Int} {a60 : Int} {a61 : Int} {a62 : Bool} {Va63 : List (List AC)} (hy : V[(n - 1).toNat]? = some [.imm (.int .i64 a0), .view Va1, .imm (.int .i64 a2), .imm (.int .i64 a3), .imm (.int .i64 a4), .imm (.int .i64 a5), .imm (.int .i64 a6), .imm (.int .i64 a7), .imm (.bool a8), .imm (.bool a9), .imm (.int .i64 a10), .imm (.int .i64 a11), .imm (.int .i64 a12), .imm (.int .i64 a13), .imm (.int .i64 a14), .imm (.int .i64 a15), .imm (.int .i64 a16), .imm (.int .i64 a17), .imm (.int .i64 a18), .imm (.int .i64 a19), .imm (.int .i64 a20), .imm (.int .i64 a21), .imm (.int .i64 a22), .imm (.int .i64 a23), .imm (.int .i64 a24), .imm (.int .i64 a25), .imm (.int .i64 a26), .imm (.int .i64 a27), .imm (.int .i64 a28), .imm (.int .i64 a29), .imm (.int .i64 a30), .imm (.int .i64 a31), .imm (.int .i64 a32), .imm (.int .i64 a33), .imm (.int .i64 a34), .imm (.int .i64 a35), .imm (.int .i64 a36), .imm (.int .i64 a37), .imm (.int .i64 a38), .imm (.int .i64 a39), .imm (.int .i64 a40), .imm (.int .i64 a41), .imm (.int .i64 a42), .imm (.int .i64 a43), .imm (.int .i64 a44), .imm (.int .i64 a45), .imm (.int .i64 a46), .imm (.int .i64 a47), .imm (.int .i64 a48), .imm (.int .i64 a49), .imm (.int .i64 a50), .imm (.int .i64 a51), .imm (.int .i64 a52), .imm (.int .i64 a53), .imm (.int .i64 a54), .imm (.int .i64 a55), .imm (.int .i64 a56), .imm (.int .i64 a57), .imm (.int .i64 a58), .imm (.int .i64 a59), .imm (.int .i64 a60), .imm (.int .i64 a61), .imm (.bool a62), .view Va63]) : PCon Tryz.prog 55 [.agg [.view V], ai n] fun res rows => res = .t (.agg [.imm (.int .i64 a0), .view Va1, .imm (.int .i64 a2), .imm (.int .i64 a3), .imm (.int .i64 a4), .imm (.int .i64 a5), .imm (.int .i64 a6), .imm (.int .i64 a7), .imm (.bool a8), .imm (.bool a9), .imm (.int .i64 a10), .imm (.int .i64 a11), .imm (.int .i64 a12), .imm (.int .i64 a13), .imm (.int .i64 a14), .imm (.int .i64 a15), .imm (.int .i64 a16), .imm (.int .i64 a17), .imm (.int .i64 a18), .imm (.int .i64 a19), .imm (.int .i64 a20), .imm (.int .i64 a21), .imm (.int .i64 a22), .imm (.int .i64 a23), .imm (.int .i64 a24), .imm (.int .i64 a25), .imm (.int .i64 a26), .imm (.int .i64 a27), .imm (.int .i64 a28), .imm (.int .i64 a29), .imm (.int .i64 a30), .imm (.int .i64 a31), .imm (.int .i64 a32), .imm (.int .i64 a33), .imm (.int .i64 a34), .imm (.int .i64 a35), .imm (.int .i64 a36), .imm (.int .i64 a37), .imm (.int .i64 a38), .imm (.int .i64 a39), .imm (.int .i64 a40), .imm (.int .i64 a41), .imm (.int .i64 a42), .imm (.int .i64 a43), .imm (.int .i64 a44), .imm (.int .i64 a45), .imm (.int .i64 a46), .imm (.int .i64 a47), .imm (.int .i64 a48), .imm (.int .i64 a49), .imm (.int .i64 a50), .imm (.int .i64 a51), .imm (.int .i64 a52), .imm (.int .i64 a53), .imm (.int .i64 a54), .imm (.int .i64 a55), .imm (.int .i64 a56), .imm (.int .i64 a57), .imm (.int .i64 a58), .imm (.int .i64 a59), .imm (.int .i64 a60), .imm (.int .i64 a61), .imm (.bool a62), .view Va63]) ∧ rows = [] := by
  obtain ⟨m, hm⟩ : ∃ m, m = n - 1 := ⟨_, rfl⟩
  rw [← hm] at hy
  refine pcon_run (c := body Tryz.f55) fits Tryz.func55 (by kernel_rfl) (by kernel_rfl) (by rfl) (by kernel_rfl) fun g F hg hF => ?_
  cbv
  have e1 : g .w .sub .i64 n 1 = m := by rw [goSub hg, wrap_small _ (by omega), hm]
  rw [e1]
  refine goX hg _ (by omega) hy rfl ?_
  cbv
  exact fin0 hF rfl ⟨rfl, rfl⟩
set_option maxHeartbeats 8000000 in
theorem impl_node_a (V : List (List AC)) (n : Int) (h1 : 1 ≤ n) (h2 : n ≤ 1048576) {a0 : Int} {Va1 : List (List AC)} {a2 : Int} {a3 : Int} {a4 : Int} {a5 : Int} {a6 : Int} {a7 : Int} {a8 : Bool} {a9 : Bool} {a10 : Int} {a11 : Int} {a12 : Int} {a13 : Int} {a14 : Int} {a15 : Int} {a16 : Int} {a17 : Int} {a18 : Int} {a19 : Int} {a20 : Int} {a21 : Int} {a22 : Int} {a23 : Int} {a24 : Int} {a25 : Int} {a26 : Int} {a27 : Int} {a28 : Int} {a29 : Int} {a30 : Int} {a31 : Int} {a32 : Int} {a33 : Int} {a34 : Int} {a35 : Int} {a36 : Int} {a37 : Int} {a38 : Int} {a39 : Int} {a40 : Int} {a41 : Int} {a42 : Int} {a43 : Int} {a44 : Int} {a45 : Int} {a46 : Int} {a47 : Int} {a48 : Int} {a49 : Int} {a50 : Int} {a51 : Int} {a52 : Int} {a53 : Int} {a54 : Int} {a55 : Int} {a56 : Int} {a57 : Int} {a58 : Int} {a59 : Int} {a60 : Int} {a61 : Int} {a62 : Bool} {Va63 : List (List AC)} (hy : V[(n - 1).toNat]? = some [.imm (.int .i64 a0), .view Va1, .imm (.int .i64 a2), .imm (.int .i64 a3), .imm (.int .i64 a4), .imm (.int .i64 a5), .imm (.int .i64 a6), .imm (.int .i64 a7), .imm (.bool a8), .imm (.bool a9), .imm (.int .i64 a10), .imm (.int .i64 a11), .imm (.int .i64 a12), .imm (.int .i64 a13), .imm (.int .i64 a14), .imm (.int .i64 a15), .imm (.int .i64 a16), .imm (.int .i64 a17), .imm (.int .i64 a18), .imm (.int .i64 a19), .imm (.int .i64 a20), .imm (.int .i64 a21), .imm (.int .i64 a22), .imm (.int .i64 a23), .imm (.int .i64 a24), .imm (.int .i64 a25), .imm (.int .i64 a26), .imm (.int .i64 a27), .imm (.int .i64 a28), .imm (.int .i64 a29), .imm (.int .i64 a30), .imm (.int .i64 a31), .imm (.int .i64 a32), .imm (.int .i64 a33), .imm (.int .i64 a34), .imm (.int .i64 a35), .imm (.int .i64 a36), .imm (.int .i64 a37), .imm (.int .i64 a38), .imm (.int .i64 a39), .imm (.int .i64 a40), .imm (.int .i64 a41), .imm (.int .i64 a42), .imm (.int .i64 a43), .imm (.int .i64 a44), .imm (.int .i64 a45), .imm (.int .i64 a46), .imm (.int .i64 a47), .imm (.int .i64 a48), .imm (.int .i64 a49), .imm (.int .i64 a50), .imm (.int .i64 a51), .imm (.int .i64 a52), .imm (.int .i64 a53), .imm (.int .i64 a54), .imm (.int .i64 a55), .imm (.int .i64 a56), .imm (.int .i64 a57), .imm (.int .i64 a58), .imm (.int .i64 a59), .imm (.int .i64 a60), .imm (.int .i64 a61), .imm (.bool a62), .view Va63]) : PCon Tryz.prog 59 [.agg [.view V], ai n] fun res rows => res = .t (.agg [.imm (.int .i64 a0), .view Va1, .imm (.int .i64 a2), .imm (.int .i64 a3), .imm (.int .i64 a4), .imm (.int .i64 a5), .imm (.int .i64 a6), .imm (.int .i64 a7), .imm (.bool a8), .imm (.bool a9), .imm (.int .i64 a10), .imm (.int .i64 a11), .imm (.int .i64 a12), .imm (.int .i64 a13), .imm (.int .i64 a14), .imm (.int .i64 a15), .imm (.int .i64 a16), .imm (.int .i64 a17), .imm (.int .i64 a18), .imm (.int .i64 a19), .imm (.int .i64 a20), .imm (.int .i64 a21), .imm (.int .i64 a22), .imm (.int .i64 a23), .imm (.int .i64 a24), .imm (.int .i64 a25), .imm (.int .i64 a26), .imm (.int .i64 a27), .imm (.int .i64 a28), .imm (.int .i64 a29), .imm (.int .i64 a30), .imm (.int .i64 a31), .imm (.int .i64 a32), .imm (.int .i64 a33), .imm (.int .i64 a34), .imm (.int .i64 a35), .imm (.int .i64 a36), .imm (.int .i64 a37), .imm (.int .i64 a38), .imm (.int .i64 a39), .imm (.int .i64 a40), .imm (.int .i64 a41), .imm (.int .i64 a42), .imm (.int .i64 a43), .imm (.int .i64 a44), .imm (.int .i64 a45), .imm (.int .i64 a46), .imm (.int .i64 a47), .imm (.int .i64 a48), .imm (.int .i64 a49), .imm (.int .i64 a50), .imm (.int .i64 a51), .imm (.int .i64 a52), .imm (.int .i64 a53), .imm (.int .i64 a54), .imm (.int .i64 a55), .imm (.int .i64 a56), .imm (.int .i64 a57), .imm (.int .i64 a58), .imm (.int .i64 a59), .imm (.int .i64 a60), .imm (.int .i64 a61), .imm (.bool a62), .view Va63]) ∧ rows = [] := by
  obtain ⟨m, hm⟩ : ∃ m, m = n - 1 := ⟨_, rfl⟩
  rw [← hm] at hy
  refine pcon_run (c := body Tryz.f59) fits Tryz.func59 (by kernel_rfl) (by kernel_rfl) (by rfl) (by kernel_rfl) fun g F hg hF => ?_
  cbv
  have e1 : g .w .sub .i64 n 1 = m := by rw [goSub hg, wrap_small _ (by omega), hm]
  rw [e1]
  refine goX hg _ (by omega) hy rfl ?_
  cbv
  exact fin0 hF rfl ⟨rfl, rfl⟩
theorem spec_TableOk_a (rs : List GRule) (hl : rs.length ≤ 1048576) : PCon Tryz.prog 100 [.agg [.view (vw GRule.c rs)]] fun res rows => res = .t (abl (taOk rs)) ∧ rows = [] := by
  obtain ⟨V, hV⟩ : ∃ V, V = vw GRule.c rs := ⟨_, rfl⟩
  have hVl : V.length = rs.length := by rw [hV, vw_length]
  have iV : immE V = true := by rw [hV]; exact vw_imm _ _
  have kV : ∀ y ∈ V, y.length = 3 := by rw [hV]; exact vw_k (c := GRule.c) (k := 3) fun _ => rfl
  have dV : ∀ y ∈ V, y.all dat = true := by rw [hV]; exact vw_dat
  have hVx : lenI V = (rs.length : Int) := by rw [lenI_eq]; omega
  have hV0 : 0 ≤ lenI V := by omega
  have hV1 : lenI V ≤ 1048576 := by omega
  have hta : taOk rs = (rng (lenI V) 1 6 && rs.all ruOk) := by rw [hVx]; rfl
  rw [← hV, hta]
  refine pcon_run (c := body Tryz.f100) fits Tryz.func100 (by kernel_rfl) (by kernel_rfl) (by rfl) (by kernel_rfl) fun g F hg hF => ?_
  cbv
  refine loop_run hg fits (by kernel_rfl) (fun z : Int => [(1, .t (.c (.ptr 0 0 0))), (3, .t (ai z))]) (fun _ => [.bx 75 1 [.view V]]) (fun z => 0 ≤ z ∧ z ≤ lenI V ∧ ∀ (i : Nat) (v : GRule), i < z.toNat → rs[i]? = some v → ruOk v = true) (fun z => (lenI V).toNat - z.toNat)
    0 [some 0] ⟨Int.le_refl 0, hV0, fun i v hi => by simp at hi⟩ (wkS [0] (by decide) ⟨⟨_, rfl, rfl, rfl⟩, trivial⟩ ⟨rfl, rfl, trivial⟩) (fun z B hs hB => ?_)
  obtain ⟨h0, h1, h2⟩ := hs
  cbv
  cases hc : g .q .lss z (g .ln V)
  · rw [goLss hg, goLn hg, decide_eq_false_iff_not] at hc
    have hall := ru_to hVx (by omega) h2
    cbv
    repeat' (first | (refine callB hg (spec_l01In_r _ _ _) rfl (fun R0 hR0 => ?_); cases R0 <;> cbv) | (refine callBP hg (spec_l01In_r _ _ _) rfl (fun R0 hR0 => ?_); cases R0 <;> cbv))
    all_goals exact fin0b hF (by rw [hR0, goLn hg, hall, Bool.and_true])
  · rw [goLss hg, goLn hg, decide_eq_true_eq] at hc
    cbv
    obtain ⟨x, hx⟩ := at_z (xs := rs) h0 (lt_viaN hVx hc)
    have hyy : V[z.toNat]? = some (lc (GRule.c x)) := by rw [hV]; exact vw_at hx
    obtain ⟨x0, x1, x2⟩ := x
    refine goX hg _ h0 hyy rfl ?_
    cbv
    have hfalse : ruOk ⟨x0, x1, x2⟩ = false → (rng (lenI V) 1 6 && rs.all ruOk) = false := fun h => by rw [ru_no hx h, Bool.and_false]
    have e1 : g .w .add .i64 z 1 = z + 1 := by rw [goAdd hg, wrap_small _ (by omega)]
    repeat' (first | (refine callB hg (spec_l01In_r _ _ _) rfl (fun R0 hR0 => ?_); cases R0 <;> cbv) | (refine callBP hg (spec_l01In_r _ _ _) rfl (fun R0 hR0 => ?_); cases R0 <;> cbv))
    all_goals first
      | exact fin0b hF (hfalse (by simp only [ruOk]; clear hF; simp_all)).symm
      | skip
    have hrx : ruOk ⟨x0, x1, x2⟩ = true := by simp only [ruOk]; clear hF hB; simp_all
    rw [e1]
    refine back hB (z + 1) [some 0] (wkS [0] (by decide) ⟨⟨_, rfl, rfl, rfl⟩, trivial⟩ ⟨rfl, rfl, trivial⟩) ⟨by omega, by omega, fun i v hi hv => ?_⟩ (by omega)
    by_cases hi2 : i < z.toNat
    · exact h2 i v hi2 hv
    · rw [show i = z.toNat by omega, hx] at hv
      cases hv
      exact hrx
theorem impl_TableOk_a (rs : List GRule) (hl : rs.length ≤ 1048576) : PCon Tryz.prog 104 [.agg [.view (vw GRule.c rs)]] fun res rows => res = .t (abl (taOk rs)) ∧ rows = [] := by
  obtain ⟨V, hV⟩ : ∃ V, V = vw GRule.c rs := ⟨_, rfl⟩
  have hVl : V.length = rs.length := by rw [hV, vw_length]
  have iV : immE V = true := by rw [hV]; exact vw_imm _ _
  have kV : ∀ y ∈ V, y.length = 3 := by rw [hV]; exact vw_k (c := GRule.c) (k := 3) fun _ => rfl
  have dV : ∀ y ∈ V, y.all dat = true := by rw [hV]; exact vw_dat
  have hVx : lenI V = (rs.length : Int) := by rw [lenI_eq]; omega
  have hV0 : 0 ≤ lenI V := by omega
  have hV1 : lenI V ≤ 1048576 := by omega
  have hta : taOk rs = (rng (lenI V) 1 6 && rs.all ruOk) := by rw [hVx]; rfl
  rw [← hV, hta]
  refine pcon_run (c := body Tryz.f104) fits Tryz.func104 (by kernel_rfl) (by kernel_rfl) (by rfl) (by kernel_rfl) fun g F hg hF => ?_
  cbv
  have cr := impl_in_r (g .ln V) 1 6
  rw [goLn hg] at cr
  obtain ⟨Q, hQ⟩ : ∃ Q, Q = rng (lenI V) 1 6 := ⟨_, rfl⟩
  rw [← hQ] at cr hF
  rw [goLn hg]
  (first | refine call0 hg cr rfl rfl ?_ | refine call0P hg cr rfl rfl ?_)
  cases Q
  case false =>
    cbv
    exact fin0b hF rfl
  cbv
  refine loop_run hg fits (by kernel_rfl) (fun z : Int => [(1, .t (.c (.ptr 0 0 0))), (11, .t (.c (.view V))), (12, .t (ai (g .ln V))), (13, .t (ai z))]) (fun _ => [.bx 75 1 [.view V]]) (fun z => 0 ≤ z ∧ z ≤ lenI V ∧ ∀ (i : Nat) (v : GRule), i < z.toNat → rs[i]? = some v → ruOk v = true) (fun z => (lenI V).toNat - z.toNat)
    0 [some 0] ⟨Int.le_refl 0, hV0, fun i v hi => by simp at hi⟩ (wkS [0] (by decide) ⟨⟨_, rfl, rfl, rfl⟩, trivial⟩ ⟨rfl, rfl, rfl, rfl, trivial⟩) (fun z B hs hB => ?_)
  obtain ⟨h0, h1, h2⟩ := hs
  cbv
  cases hc : g .q .lss z (g .ln V)
  · rw [goLss hg, goLn hg, decide_eq_false_iff_not] at hc
    have hall := ru_to hVx (by omega) h2
    cbv
    exact fin0b hF (by rw [hall]; rfl)
  · rw [goLss hg, goLn hg, decide_eq_true_eq] at hc
    cbv
    obtain ⟨x, hx⟩ := at_z (xs := rs) h0 (lt_viaN hVx hc)
    have hyy : V[z.toNat]? = some (lc (GRule.c x)) := by rw [hV]; exact vw_at hx
    obtain ⟨x0, x1, x2⟩ := x
    refine goX hg _ h0 hyy rfl ?_
    cbv
    have hfalse : ruOk ⟨x0, x1, x2⟩ = false → (true && rs.all ruOk) = false := fun h => by rw [ru_no hx h, Bool.and_false]
    have e1 : g .w .add .i64 z 1 = z + 1 := by rw [goAdd hg, wrap_small _ (by omega)]
    repeat' (first | (refine callB hg (impl_in_r _ _ _) rfl (fun R0 hR0 => ?_); cases R0 <;> cbv) | (refine callBP hg (impl_in_r _ _ _) rfl (fun R0 hR0 => ?_); cases R0 <;> cbv))
    all_goals first
      | exact fin0b hF (hfalse (by simp only [ruOk]; clear hF; simp_all)).symm
      | skip
    have hrx : ruOk ⟨x0, x1, x2⟩ = true := by simp only [ruOk]; clear hF hB; simp_all
    rw [e1]
    refine back hB (z + 1) [some 0] (wkS [0] (by decide) ⟨⟨_, rfl, rfl, rfl⟩, trivial⟩ ⟨rfl, rfl, rfl, rfl, trivial⟩) ⟨by omega, by omega, fun i v hi hv => ?_⟩ (by omega)
    by_cases hi2 : i < z.toNat
    · exact h2 i v hi2 hv
    · rw [show i = z.toNat by omega, hx] at hv
      cases hv
      exact hrx
theorem spec_l10Has_a (xs : List Int) (n : Int) (hl : xs.length ≤ 1048576) : PCon Tryz.prog 99 [.c (.view (vw intC xs)), ai n] fun res rows => res = .t (ai (cnt xs n)) ∧ rows = [] := by
  obtain ⟨V, hV⟩ : ∃ V, V = vw intC xs := ⟨_, rfl⟩
  have hVl : V.length = xs.length := by rw [hV, vw_length]
  have iV : immE V = true := by rw [hV]; exact vw_imm _ _
  have kV : ∀ y ∈ V, y.length = 1 := by rw [hV]; exact vw_k (c := intC) (k := 1) fun _ => rfl
  have dV : ∀ y ∈ V, y.all dat = true := by rw [hV]; exact vw_dat
  have hVx : lenI V = (xs.length : Int) := by rw [lenI_eq]; omega
  have hV0 : 0 ≤ lenI V := by omega
  have hV1 : lenI V ≤ 1048576 := by omega
  have hall : ∀ z : Int, lenI V ≤ z → psum (fun k => if k = n then 1 else 0) xs z.toNat = cnt xs n := fun z hz => psum_all _ (by omega)
  rw [← hV]
  refine pcon_run (c := body Tryz.f99) fits Tryz.func99 (by kernel_rfl) (by kernel_rfl) (by rfl) (by kernel_rfl) fun g F hg hF => ?_
  cbv
  refine loop_run hg fits (by kernel_rfl) (fun s : Int × Int => [(0, .t (.c (.view V))), (1, .t (ai n)), (5, .t (ai s.2)), (6, .t (ai s.1))]) (fun _ => []) (fun s => 0 ≤ s.1 ∧ s.1 ≤ lenI V ∧ 0 ≤ s.2 ∧ s.2 ≤ s.1 ∧ s.2 = psum (fun k => if k = n then 1 else 0) xs s.1.toNat) (fun s => (lenI V).toNat - s.1.toNat)
    (0, 0) [] ⟨Int.le_refl 0, hV0, Int.le_refl 0, Int.le_refl 0, (psum_zero _ _).symm⟩ (wk0 ⟨rfl, rfl, rfl, rfl, trivial⟩) (fun s B hs hB => ?_)
  obtain ⟨z, d⟩ := s
  obtain ⟨h0, h1, h2, h3, h4⟩ := hs
  simp only at h0 h1 h2 h3 h4
  cbv
  cases hc : g .q .lss z (g .ln V)
  · rw [goLss hg, goLn hg, decide_eq_false_iff_not] at hc
    cbv
    exact fin0i hF (by rw [h4, hall z (by omega)])
  · rw [goLss hg, goLn hg, decide_eq_true_eq] at hc
    cbv
    obtain ⟨x, hx⟩ := at_z (xs := xs) h0 (lt_viaN hVx hc)
    have hyy : V[z.toNat]? = some (lc (intC x)) := by rw [hV]; exact vw_at hx
    have hs := psum_succ (fun k : Int => if k = n then (1 : Int) else 0) hx
    refine goX hg _ h0 hyy rfl ?_
    cbv
    have e1 : g .w .add .i64 z 1 = z + 1 := by rw [goAdd hg, wrap_small _ (by omega)]
    cases he : g .q .eql x n
    · have he' : x ≠ n := by rw [goEql hg] at he; simpa using he
      simp only [if_neg he'] at hs
      cbv
      rw [e1]
      exact back hB (z + 1, d) [] (wk0 ⟨rfl, rfl, rfl, rfl, trivial⟩) ⟨by simp only; omega, by simp only; omega, h2, by simp only; omega, by simp only; rw [show (z + 1).toNat = z.toNat + 1 by omega, hs]; omega⟩ (by show (lenI V).toNat - (z + 1).toNat < (lenI V).toNat - z.toNat; omega)
    · have he' : x = n := by rw [goEql hg] at he; simpa using he
      simp only [if_pos he'] at hs
      cbv
      have e2 : g .w .add .i64 d 1 = d + 1 := by rw [goAdd hg, wrap_small _ (by omega)]
      rw [e1, e2]
      exact back hB (z + 1, d + 1) [] (wk0 ⟨rfl, rfl, rfl, rfl, trivial⟩) ⟨by simp only; omega, by simp only; omega, by simp only; omega, by simp only; omega, by simp only; rw [show (z + 1).toNat = z.toNat + 1 by omega, hs]; omega⟩ (by show (lenI V).toNat - (z + 1).toNat < (lenI V).toNat - z.toNat; omega)
set_option maxHeartbeats 8000000 in
theorem impl_DepthOf_a (ns : List NNode) (n0 : Int) (hl : ns.length ≤ 1048576) : PCon Tryz.prog 103 [.agg [.view (vwA NNode.ac ns)], ai n0] fun res rows => res = .t (ai (depN ns n0)) ∧ rows = [] := by
  obtain ⟨V, hV⟩ : ∃ V, V = vwA NNode.ac ns := ⟨_, rfl⟩
  have hVx : lenI V = (ns.length : Int) := by rw [lenI_eq, hV, vwA_length]
  have hV0 : 0 ≤ lenI V := by omega
  have hV1 : lenI V ≤ 1048576 := by omega
  have hisN : ∀ n, isN ns n = rng n 1 (lenI V) := fun n => by rw [hVx]; rfl
  have hfu : ∀ d : Int, 0 ≤ d → d < lenI V → ns.length - d.toNat = (ns.length - (d + 1).toNat) + 1 := fun d h0 h1 => dep_fuel hVx h0 h1
  have hfe : ∀ d : Int, d = lenI V → ns.length - d.toNat = 0 := fun d h => dep_fuel0 hVx h
  have hst : depF ns (ns.length - (0 : Int).toNat) 0 n0 = depN ns n0 := rfl
  obtain ⟨R, hR⟩ : ∃ R, R = depN ns n0 := ⟨_, rfl⟩
  rw [← hR] at hst ⊢
  rw [← hV]
  refine pcon_run (c := body Tryz.f103) fits Tryz.func103 (by kernel_rfl) (by kernel_rfl) (by rfl) (by kernel_rfl) fun g F hg hF => ?_
  cbv
  refine loop_run hg fits (by kernel_rfl) (fun s : Int × Int => [(1, .t (ai s.1)), (2, .t (.c (.ptr 0 0 0))), (5, .t (ai s.2))]) (fun _ => [.bx 43 1 [.view V]]) (fun s => 0 ≤ s.2 ∧ s.2 ≤ lenI V ∧ depF ns (ns.length - s.2.toNat) s.2 s.1 = R) (fun s => (lenI V).toNat - s.2.toNat)
    (n0, 0) [some 0] ⟨Int.le_refl 0, hV0, hst⟩ (wkS [0] (by decide) ⟨⟨_, rfl, rfl, rfl⟩, trivial⟩ ⟨rfl, rfl, rfl, trivial⟩) (fun s B hs hB => ?_)
  obtain ⟨n, d⟩ := s
  obtain ⟨h0, h1, h2⟩ := hs
  simp only at h0 h1 h2
  cbv
  cases hn : g .q .neq n 0
  · have hn' : n = 0 := by rw [goNeq hg] at hn; simpa using hn
    cbv
    exact fin0i hF (by rw [← h2, hn', dep_zero])
  have hn' : n ≠ 0 := by rw [goNeq hg] at hn; simpa using hn
  cbv
  have e1 : g .w .add .i64 d 1 = d + 1 := by rw [goAdd hg, wrap_small _ (by omega)]
  obtain ⟨D, hD⟩ : ∃ D, D = d + 1 := ⟨_, rfl⟩
  rw [← hD] at e1
  rw [e1]
  have ci := impl_isNode_a V n
  rw [← hisN n] at ci
  cases hi : isN ns n
  · rw [hi] at ci
    refine call0 hg ci rfl rfl ?_
    cbv
    exact fin0i hF (by rw [← h2, dep_out ns _ _ _ hn' hi])
  rw [hi] at ci
  refine call0 hg ci rfl rfl ?_
  cbv
  cases hd : g .q .gtr D (g .ln V)
  case true =>
    rw [goGtr hg, goLn hg, decide_eq_true_eq] at hd
    cbv
    exact fin0i hF (by rw [← h2, hfe d (by omega), dep_end ns hn'])
  rw [goGtr hg, goLn hg, decide_eq_false_iff_not] at hd
  have hlt : d < lenI V := by omega
  have hf2 := hfu d h0 hlt
  obtain ⟨i1, i2, x, hx⟩ := isN_at hi
  have hi2 : n ≤ 1048576 := Int.le_trans (hVx ▸ i2) hV1
  have hyy : V[(n - 1).toNat]? = some x.ac := by rw [hV]; exact vwA_at hx
  have hup := upN_at hx
  have hst2 : depF ns (ns.length - D.toNat) D x.up = R := by rw [← h2, hf2, dep_step ns hn' hi, hup, hD]
  obtain ⟨a0, a1, ⟨a2, a3, a4, a5, a6, a7, a8, a9, a10, a11, a12, ⟨a13, a14⟩, ⟨a15, a16⟩, ⟨a17, a18⟩, ⟨a19, a20⟩, ⟨a21, a22⟩, ⟨a23, a24⟩, ⟨a25, a26⟩, a27, ⟨⟨a28, a29⟩, ⟨a30, a31⟩, ⟨a32, a33⟩, ⟨a34, a35⟩, ⟨a36, a37⟩, ⟨a38, a39⟩⟩, ⟨⟨a40, a41⟩, ⟨a42, a43⟩, ⟨a44, a45⟩, ⟨a46, a47⟩, ⟨a48, a49⟩, ⟨a50, a51⟩⟩, ⟨a52, a53, a54, a55⟩, ⟨a56, a57, a58, a59⟩, a60, a61⟩, a62, ⟨a63⟩⟩ := x
  replace hyy : V[(n - 1).toNat]? = some [.imm (.int .i64 a0), .view (vw intC a1), .imm (.int .i64 a2), .imm (.int .i64 a3), .imm (.int .i64 a4), .imm (.int .i64 a5), .imm (.int .i64 a6), .imm (.int .i64 a7), .imm (.bool a8), .imm (.bool a9), .imm (.int .i64 a10), .imm (.int .i64 a11), .imm (.int .i64 a12), .imm (.int .i64 a13), .imm (.int .i64 a14), .imm (.int .i64 a15), .imm (.int .i64 a16), .imm (.int .i64 a17), .imm (.int .i64 a18), .imm (.int .i64 a19), .imm (.int .i64 a20), .imm (.int .i64 a21), .imm (.int .i64 a22), .imm (.int .i64 a23), .imm (.int .i64 a24), .imm (.int .i64 a25), .imm (.int .i64 a26), .imm (.int .i64 a27), .imm (.int .i64 a28), .imm (.int .i64 a29), .imm (.int .i64 a30), .imm (.int .i64 a31), .imm (.int .i64 a32), .imm (.int .i64 a33), .imm (.int .i64 a34), .imm (.int .i64 a35), .imm (.int .i64 a36), .imm (.int .i64 a37), .imm (.int .i64 a38), .imm (.int .i64 a39), .imm (.int .i64 a40), .imm (.int .i64 a41), .imm (.int .i64 a42), .imm (.int .i64 a43), .imm (.int .i64 a44), .imm (.int .i64 a45), .imm (.int .i64 a46), .imm (.int .i64 a47), .imm (.int .i64 a48), .imm (.int .i64 a49), .imm (.int .i64 a50), .imm (.int .i64 a51), .imm (.int .i64 a52), .imm (.int .i64 a53), .imm (.int .i64 a54), .imm (.int .i64 a55), .imm (.int .i64 a56), .imm (.int .i64 a57), .imm (.int .i64 a58), .imm (.int .i64 a59), .imm (.int .i64 a60), .imm (.int .i64 a61), .imm (.bool a62), .view (vw GRule.c a63)] := hyy
  obtain ⟨Va1, hVa1⟩ : ∃ V, V = vw intC a1 := ⟨_, rfl⟩
  obtain ⟨Va63, hVa63⟩ : ∃ V, V = vw GRule.c a63 := ⟨_, rfl⟩
  rw [← hVa1, ← hVa63] at hyy
  cbv
  refine call0 hg (impl_node_a V n i1 hi2 hyy) rfl rfl ?_
  cbv
  exact back hB (a0, D) [some 0] (wkS [0] (by decide) ⟨⟨_, rfl, rfl, rfl⟩, trivial⟩ ⟨rfl, rfl, rfl, trivial⟩) ⟨by simp only; omega, by simp only; omega, hst2⟩ (by show (lenI V).toNat - D.toNat < (lenI V).toNat - d.toNat; omega)
set_option maxHeartbeats 8000000 in
theorem spec_DepthOf_a (ns : List NNode) (n0 : Int) (hl : ns.length ≤ 1048576) : PCon Tryz.prog 98 [.agg [.view (vwA NNode.ac ns)], ai n0] fun res rows => res = .t (ai (depN ns n0)) ∧ rows = [] := by
  obtain ⟨V, hV⟩ : ∃ V, V = vwA NNode.ac ns := ⟨_, rfl⟩
  have hVx : lenI V = (ns.length : Int) := by rw [lenI_eq, hV, vwA_length]
  have hV0 : 0 ≤ lenI V := by omega
  have hV1 : lenI V ≤ 1048576 := by omega
  have hisN : ∀ n, isN ns n = rng n 1 (lenI V) := fun n => by rw [hVx]; rfl
  have hfu : ∀ d : Int, 0 ≤ d → d < lenI V → ns.length - d.toNat = (ns.length - (d + 1).toNat) + 1 := fun d h0 h1 => dep_fuel hVx h0 h1
  have hfe : ∀ d : Int, d = lenI V → ns.length - d.toNat = 0 := fun d h => dep_fuel0 hVx h
  have hst : depF ns (ns.length - (0 : Int).toNat) 0 n0 = depN ns n0 := rfl
  obtain ⟨R, hR⟩ : ∃ R, R = depN ns n0 := ⟨_, rfl⟩
  rw [← hR] at hst ⊢
  rw [← hV]
  refine pcon_run (c := body Tryz.f98) fits Tryz.func98 (by kernel_rfl) (by kernel_rfl) (by rfl) (by kernel_rfl) fun g F hg hF => ?_
  cbv
  refine loop_run hg fits (by kernel_rfl) (fun s : Int × Int => [(1, .t (ai s.1)), (2, .t (.c (.ptr 0 0 0))), (5, .t (ai s.2))]) (fun _ => [.bx 43 1 [.view V]]) (fun s => 0 ≤ s.2 ∧ s.2 ≤ lenI V + 1 ∧ (s.2 ≤ lenI V → depF ns (ns.length - s.2.toNat) s.2 s.1 = R) ∧ (s.2 = lenI V + 1 → R = 0)) (fun s => (lenI V + 1).toNat - s.2.toNat)
    (n0, 0) [some 0] ⟨Int.le_refl 0, by simp only; omega, fun _ => hst, fun h => by simp only at h; omega⟩ (wkS [0] (by decide) ⟨⟨_, rfl, rfl, rfl⟩, trivial⟩ ⟨rfl, rfl, rfl, trivial⟩) (fun s B hs hB => ?_)
  obtain ⟨n, d⟩ := s
  obtain ⟨h0, h1, h2, h2'⟩ := hs
  simp only at h0 h1 h2 h2'
  cbv
  cases hd : g .q .leq d (g .ln V)
  case false =>
    rw [goLeq hg, goLn hg, decide_eq_false_iff_not] at hd
    cbv
    exact fin0i hF (h2' (by omega)).symm
  rw [goLeq hg, goLn hg, decide_eq_true_eq] at hd
  replace h2 := h2 hd
  clear h2'
  cbv
  cases hn : g .q .eql n 0
  case true =>
    have hn' : n = 0 := by rw [goEql hg] at hn; simpa using hn
    cbv
    exact fin0i hF (by rw [← h2, hn', dep_zero])
  have hn' : n ≠ 0 := by rw [goEql hg] at hn; simpa using hn
  cbv
  have e1 : g .w .add .i64 d 1 = d + 1 := by rw [goAdd hg, wrap_small _ (by omega)]
  have ci := spec_l10Is_a V n
  rw [← hisN n] at ci
  cases hi : isN ns n
  · rw [hi] at ci
    refine call0 hg ci rfl rfl ?_
    cbv
    exact fin0i hF (by rw [← h2, dep_out ns _ _ _ hn' hi])
  rw [hi] at ci
  refine call0 hg ci rfl rfl ?_
  obtain ⟨i1, i2, x, hx⟩ := isN_at hi
  have hi2 : n ≤ 1048576 := Int.le_trans (hVx ▸ i2) hV1
  have hyy : V[(n - 1).toNat]? = some x.ac := by rw [hV]; exact vwA_at hx
  have hup := upN_at hx
  have hst2 : d < lenI V → depF ns (ns.length - (d + 1).toNat) (d + 1) x.up = R := fun hlt => by rw [← h2, hfu d h0 hlt, dep_step ns hn' hi, hup]
  have hst3 : d = lenI V → R = 0 := fun he => by rw [← h2, hfe d he, dep_end ns hn']
  obtain ⟨a0, a1, ⟨a2, a3, a4, a5, a6, a7, a8, a9, a10, a11, a12, ⟨a13, a14⟩, ⟨a15, a16⟩, ⟨a17, a18⟩, ⟨a19, a20⟩, ⟨a21, a22⟩, ⟨a23, a24⟩, ⟨a25, a26⟩, a27, ⟨⟨a28, a29⟩, ⟨a30, a31⟩, ⟨a32, a33⟩, ⟨a34, a35⟩, ⟨a36, a37⟩, ⟨a38, a39⟩⟩, ⟨⟨a40, a41⟩, ⟨a42, a43⟩, ⟨a44, a45⟩, ⟨a46, a47⟩, ⟨a48, a49⟩, ⟨a50, a51⟩⟩, ⟨a52, a53, a54, a55⟩, ⟨a56, a57, a58, a59⟩, a60, a61⟩, a62, ⟨a63⟩⟩ := x
  replace hyy : V[(n - 1).toNat]? = some [.imm (.int .i64 a0), .view (vw intC a1), .imm (.int .i64 a2), .imm (.int .i64 a3), .imm (.int .i64 a4), .imm (.int .i64 a5), .imm (.int .i64 a6), .imm (.int .i64 a7), .imm (.bool a8), .imm (.bool a9), .imm (.int .i64 a10), .imm (.int .i64 a11), .imm (.int .i64 a12), .imm (.int .i64 a13), .imm (.int .i64 a14), .imm (.int .i64 a15), .imm (.int .i64 a16), .imm (.int .i64 a17), .imm (.int .i64 a18), .imm (.int .i64 a19), .imm (.int .i64 a20), .imm (.int .i64 a21), .imm (.int .i64 a22), .imm (.int .i64 a23), .imm (.int .i64 a24), .imm (.int .i64 a25), .imm (.int .i64 a26), .imm (.int .i64 a27), .imm (.int .i64 a28), .imm (.int .i64 a29), .imm (.int .i64 a30), .imm (.int .i64 a31), .imm (.int .i64 a32), .imm (.int .i64 a33), .imm (.int .i64 a34), .imm (.int .i64 a35), .imm (.int .i64 a36), .imm (.int .i64 a37), .imm (.int .i64 a38), .imm (.int .i64 a39), .imm (.int .i64 a40), .imm (.int .i64 a41), .imm (.int .i64 a42), .imm (.int .i64 a43), .imm (.int .i64 a44), .imm (.int .i64 a45), .imm (.int .i64 a46), .imm (.int .i64 a47), .imm (.int .i64 a48), .imm (.int .i64 a49), .imm (.int .i64 a50), .imm (.int .i64 a51), .imm (.int .i64 a52), .imm (.int .i64 a53), .imm (.int .i64 a54), .imm (.int .i64 a55), .imm (.int .i64 a56), .imm (.int .i64 a57), .imm (.int .i64 a58), .imm (.int .i64 a59), .imm (.int .i64 a60), .imm (.int .i64 a61), .imm (.bool a62), .view (vw GRule.c a63)] := hyy
  obtain ⟨Va1, hVa1⟩ : ∃ V, V = vw intC a1 := ⟨_, rfl⟩
  obtain ⟨Va63, hVa63⟩ : ∃ V, V = vw GRule.c a63 := ⟨_, rfl⟩
  rw [← hVa1, ← hVa63] at hyy
  cbv
  refine call0 hg (spec_l10Node_a V n i1 hi2 hyy) rfl rfl ?_
  cbv
  rw [e1]
  exact back hB (a0, d + 1) [some 0] (wkS [0] (by decide) ⟨⟨_, rfl, rfl, rfl⟩, trivial⟩ ⟨rfl, rfl, rfl, trivial⟩) ⟨by simp only; omega, by simp only; omega, fun h => hst2 (by simp only at h; omega), fun h => hst3 (by simp only at h; omega)⟩ (by show (lenI V + 1).toNat - (d + 1).toNat < (lenI V + 1).toNat - d.toNat; omega)
end Go.Proofs.YtenbloaopcfdlaaGreat
namespace Go.Proofs.YtenbloaopcfdlaaGreat
open Go.ChangeShapes Go.WideShapes Go.ChangeAt Go.RowKit Am
set_option linter.unusedVariables false
set_option linter.unusedSimpArgs false
set_option maxRecDepth 100000
theorem okMkNode_len {x : List AC} {l : Nat × Nat} (h : okMkNode x l) : x.length = 64 := by
  obtain ⟨u0, u2, u3, u4, u5, u6, u7, u8, u9, u10, u11, u12, u13, u14, u15, u16, u17, u18, u19, u20, u21, u22, u23, u24, u25, u26, u27, u28, u29, u30, u31, u32, u33, u34, u35, u36, u37, u38, u39, u40, u41, u42, u43, u44, u45, u46, u47, u48, u49, u50, u51, u52, u53, u54, u55, u56, u57, u58, u59, u60, u61, u62, F0, F1, he, -⟩ := h
  rw [he]; rfl
theorem okMkNode_of (x : NNode) (hs : x.small) : okMkNode x.ac (x.kids.length, x.table.rules.length) := by
  obtain ⟨a0, a1, ⟨a2, a3, a4, a5, a6, a7, a8, a9, a10, a11, a12, ⟨a13, a14⟩, ⟨a15, a16⟩, ⟨a17, a18⟩, ⟨a19, a20⟩, ⟨a21, a22⟩, ⟨a23, a24⟩, ⟨a25, a26⟩, a27, ⟨⟨a28, a29⟩, ⟨a30, a31⟩, ⟨a32, a33⟩, ⟨a34, a35⟩, ⟨a36, a37⟩, ⟨a38, a39⟩⟩, ⟨⟨a40, a41⟩, ⟨a42, a43⟩, ⟨a44, a45⟩, ⟨a46, a47⟩, ⟨a48, a49⟩, ⟨a50, a51⟩⟩, ⟨a52, a53, a54, a55⟩, ⟨a56, a57, a58, a59⟩, a60, a61⟩, a62, ⟨a63⟩⟩ := x
  obtain ⟨sa1, sa63, -⟩ := hs
  exact ⟨_, _, _, _, _, _, _, _, _, _, _, _, _, _, _, _, _, _, _, _, _, _, _, _, _, _, _, _, _, _, _, _, _, _, _, _, _, _, _, _, _, _, _, _, _, _, _, _, _, _, _, _, _, _, _, _, _, _, _, _, _, _, _, _, rfl, ⟨by simp [vw], by simpa [vw] using sa1, vw_imm _ _, vw_k (c := intC) (k := 1) fun _ => rfl⟩, ⟨by simp [vw], by simpa [vw] using sa63, vw_imm _ _, vw_k (c := GRule.c) (k := 3) fun _ => rfl⟩⟩
set_option maxHeartbeats 4000000 in
theorem laws_markTree_m (k0 : Int) (b0 : List Nat) (V0 : List (List AC)) (ls0 : List (Nat × Nat)) (hV0 : V0.length = ls0.length) (hl0 : V0.length ≤ 1048576) (hok0 : ∀ (i : Nat) (x : List AC) (l : Nat × Nat), V0[i]? = some x → ls0[i]? = some l → okMkNode x l)
    (hnd : b0.Nodup) (hk0 : 0 ≤ k0) (hk1 : endMkNode k0 ls0 ≤ 1152921504606846976) :
    MCon Tryz.prog 47 [.agg [.fv b0 V0], ai k0] [(b0, V0, mkRowsNode k0 ls0)] (.int .i64 (endMkNode k0 ls0)) := by
  have hm0 := laws_markNodeS_m k0 b0 V0 ls0 hV0 hl0 hok0 hnd hk0 hk1
  have kk0 : ∃ k : Nat, (∀ x ∈ V0, x.length = k) ∧ ∀ x ∈ mkRowsNode k0 ls0, x.length = k := ⟨64, fun x hx => by
    obtain ⟨i, hi, rfl⟩ := List.getElem_of_mem hx
    exact okMkNode_len (hok0 i _ _ (List.getElem?_eq_getElem hi) (List.getElem?_eq_getElem (by omega))), mkRowsNode_k ls0 k0⟩
  have ln0 : (mkRowsNode k0 ls0).length = V0.length := by rw [mkRowsNode_len, hV0]
  clear hok0
  obtain ⟨R0, hR0⟩ : ∃ R, R = mkRowsNode k0 ls0 := ⟨_, rfl⟩
  obtain ⟨K1, hK1⟩ : ∃ K, K = endMkNode k0 ls0 := ⟨_, rfl⟩
  rw [← hR0, ← hK1] at hm0
  rw [← hR0] at kk0 ln0
  rw [← hR0, ← hK1]
  clear hR0 hK1 hk1
  refine mcon_wrap (fun u hu => ?_) ?_
  · rw [List.mem_singleton.1 hu]; exact ⟨kk0, ln0⟩
  obtain ⟨β, hβ⟩ : ∃ β : BP, β = ⟨0, fun b => ∃ u ∈ [(b0, V0, R0)], b ∈ u.1⟩ := ⟨_, rfl⟩
  have hx0 : ∀ b ∈ b0, β.ex b := by rw [hβ]; exact fun b hb => ⟨_, List.mem_cons_self .., hb⟩
  rw [← hβ]
  clear hβ
  refine conx_run4 (h := []) [(1, .hand)] [] (c := body Tryz.f47) fits Tryz.func47 (by kernel_rfl) (by kernel_rfl) (bl (by rfl)) (by kernel_rfl) fun g eff hd F heff hhd hg hF => ?_
  cbv
  refine hand_mark hg hhd fits 3 (by kernel_rfl) (fun mk hmk => ?_)
  cbv
  subst hmk
  refine ⟨_, _, _, [(b0, V0, R0)], _, [(2, .t (.c (.ptr 0 0 0))), (4, .t (ai 0))], [.bx 43 1 [.fv b0 R0]], rfl, rfl, rfl, rfl, rfl, hm0, fun u hu b hb => hx0 b (by rw [List.mem_singleton.1 hu] at hb; exact hb), fun u hu => ?_, ⟨.inr (.inl ⟨rfl, trivial⟩), .inr (.inl ⟨rfl, trivial⟩), trivial⟩, ⟨⟨rfl, rfl, .inr (.inr ⟨_, List.mem_singleton.2 rfl, rfl, rfl⟩), trivial⟩, trivial⟩, ?_⟩
  · rw [List.mem_singleton.1 hu]; exact ⟨_, List.mem_cons_self .., List.mem_singleton.2 rfl⟩
  cbv
  refine finW hF 0 _ _ [.fv b0 R0] rfl rfl (fun u hu => ?_)
  rw [List.mem_singleton.1 hu]; exact List.mem_cons_self ..
theorem endMkNode_bound : ∀ (ls : List (Nat × Nat)) (k : Int), (∀ l ∈ ls, l.1 ≤ 1048576 ∧ l.2 ≤ 1048576) → endMkNode k ls ≤ k + 4194366 * (ls.length : Int)
  | [], k, _ => by simp [endMkNode]
  | l :: ls, k, h => by
    have h1 := endMkNode_bound ls (nxMkNode k l.1 l.2) fun l' hl => h l' (List.mem_cons_of_mem _ hl)
    obtain ⟨h2, h3⟩ := h l (List.mem_cons_self ..)
    unfold endMkNode
    unfold nxMkNode at h1 ⊢
    simp only [List.length_cons]
    omega
end Go.Proofs.YtenbloaopcfdlaaGreat
