/- A box's copy; what is kept of a node, sought in turn. -/
import Derived.Test.YtenbloaopcfdlaaW1
namespace Go.Proofs.Ytenbloaopcfdlaa
open Go.ChangeShapes Go.WideShapes Go.ChangeAt Go.RowKit Am
set_option linter.unusedVariables false
set_option linter.unusedSimpArgs false
set_option maxRecDepth 100000

theorem goNV {P : Program} {n0 N : Nat} {β : BP} {g : Gd} (hg : g = G0 P n0 N) {V : List (List AC)} {k by_ : Nat} {q : Prop} (hk : ∀ y ∈ V, y.length = k) (hb : by_ ≤ 65536) (hl : V.length ≤ 1048576) (hq : q) :
    g .N ((∀ x, x ∈ V → x.length = k) ∧ V.length * by_ ≤ 140737488355328 ∧ V.length ≤ 4611686018427387904) q :=
  goN hg ⟨hk, Nat.le_trans (Nat.mul_le_mul hl hb) (by decide), by omega⟩ hq
theorem goNV0 {P : Program} {n0 N : Nat} {β : BP} {g : Gd} (hg : g = G0 P n0 N) {V : List (List AC)} {t k k' by_ : Nat} {q : Prop} (hk : ∀ y ∈ V, y.length = k) (hb : by_ ≤ 65536) (hl : V.length ≤ 1048576) (hq : q) :
    g .N ((∀ x, x ∈ V → x.length = k) ∧ ((AB.mk t k' []).es.length + V.length) * by_ ≤ 140737488355328 ∧ (AB.mk t k' []).es.length + V.length ≤ 4611686018427387904) q :=
  goN hg ⟨hk, Nat.le_trans (Nat.mul_le_mul (show (0 : Nat) + V.length ≤ 1048576 by omega) hb) (by decide), by show 0 + V.length ≤ _; omega⟩ hq
section
variable {P : Program} {n0 N : Nat} {g : Gd}
/-- A box's end: its row is new; the same with a bool beside it, and of the box without frames. -/
theorem finBoxA {F : List AT → EH → Prop} {w h b : Int} {r : Nat} {eh : EH} {ab : AB} (hF : F = FinP 0 (fun res h' => ∃ rows, h' = rows.map .live ∧ (res = .t (.agg [.imm (.int .i64 w), .imm (.int .i64 h), .imm (.int .i64 b), .own 0]) ∧ rows = [ab]))) (hr : nth eh r = some (.rw ab)) (hp : plainE ab.es = true) :
    F [.agg [.imm (.int .i64 w), .imm (.int .i64 h), .imm (.int .i64 b), .own r]] eh := by
  subst hF
  refine .inl ⟨.t (.agg [.imm (.int .i64 w), .imm (.int .i64 h), .imm (.int .i64 b), .own 0]), [.live ab], [some r], ⟨Nat.zero_le _, fun i hi => absurd hi (Nat.not_lt_zero _), by simp, ?_, ?_⟩, [ab], rfl, rfl, rfl⟩
  · simp only [rnH, List.getElem?_cons_zero, nth_rw hr]
    exact ⟨fun h => absurd h (Nat.not_lt_zero _), ⟨by first | trivial | rfl, by first | trivial | rfl, .inl ⟨by first | trivial | rfl, hp⟩⟩, trivial⟩
  · exact ⟨.inr ⟨rfl, rfl, rfl, rfl, trivial⟩, trivial⟩
theorem finBoxT {F : List AT → EH → Prop} {w h b : Int} {t : Bool} {r : Nat} {eh : EH} {ab : AB} (hF : F = FinP 0 (fun res h' => ∃ rows, h' = rows.map .live ∧ (res = .tup [.agg [.imm (.int .i64 w), .imm (.int .i64 h), .imm (.int .i64 b), .own 0], .c (.imm (.bool t))] ∧ rows = [ab]))) (hr : nth eh r = some (.rw ab)) (hp : plainE ab.es = true) :
    F [.agg [.imm (.int .i64 w), .imm (.int .i64 h), .imm (.int .i64 b), .own r], .c (.imm (.bool t))] eh := by
  subst hF
  refine .inl ⟨.tup [.agg [.imm (.int .i64 w), .imm (.int .i64 h), .imm (.int .i64 b), .own 0], .c (.imm (.bool t))], [.live ab], [some r], ⟨Nat.zero_le _, fun i hi => absurd hi (Nat.not_lt_zero _), by simp, ?_, ?_⟩, [ab], rfl, rfl, rfl⟩
  · simp only [rnH, List.getElem?_cons_zero, nth_rw hr]
    exact ⟨fun h => absurd h (Nat.not_lt_zero _), ⟨by first | trivial | rfl, by first | trivial | rfl, .inl ⟨by first | trivial | rfl, hp⟩⟩, trivial⟩
  · exact ⟨⟨.inr ⟨rfl, rfl, rfl, rfl, trivial⟩, rfl, trivial⟩, trivial⟩
theorem finBoxN {F : List AT → EH → Prop} {w h b : Int} {t : Bool} {ty k : Nat} {eh : EH} (hF : F = FinP 0 (fun res h' => ∃ rows, h' = rows.map .live ∧ (res = .tup [.agg [.imm (.int .i64 w), .imm (.int .i64 h), .imm (.int .i64 b), .own 0], .c (.imm (.bool t))] ∧ rows = [⟨ty, k, []⟩]))) :
    F [.agg [.imm (.int .i64 w), .imm (.int .i64 h), .imm (.int .i64 b), .imm (.slice none 0 0)], .c (.imm (.bool t))] eh := by
  subst hF
  refine .inl ⟨.tup [.agg [.imm (.int .i64 w), .imm (.int .i64 h), .imm (.int .i64 b), .own 0], .c (.imm (.bool t))], [.live ⟨ty, k, []⟩], [none], ⟨Nat.zero_le _, fun i hi => absurd hi (Nat.not_lt_zero _), by simp, ?_, ?_⟩, [⟨ty, k, []⟩], rfl, rfl, rfl⟩
  · simp only [rnH, List.getElem?_cons_zero]
    exact ⟨fun h => absurd h (Nat.not_lt_zero _), rfl, trivial⟩
  · exact ⟨⟨.inr ⟨rfl, rfl, rfl, rfl, trivial⟩, rfl, trivial⟩, trivial⟩
theorem callBoxA {β : BP} (hg : g = G0 P n0 N) {h : EH} {f : FuncId} {args : List AT} {K : AV → EH → Prop} {a b c : Int} {ab : AB} (hc : PCon P f args fun res rows => res = .t (.agg [.imm (.int .i64 a), .imm (.int .i64 b), .imm (.int .i64 c), .own 0]) ∧ rows = [ab]) (hd : datPA args = true) (hp : plainE ab.es = true)
    (hK : K (.t (.agg [.imm (.int .i64 a), .imm (.int .i64 b), .imm (.int .i64 c), .own (lenL h)])) (h ++ [.rw ab])) : g .C f h args K :=
  callC hg (pcall_pure hc hd fun res rows hpost => by
    obtain ⟨rfl, rfl⟩ := hpost
    rw [lenL_eq] at hK
    refine ⟨[.rw ab], by simp only [List.map_cons, List.map_nil, shift_row hp]; rfl, ?_⟩
    rw [toH_len]; exact hK)
end
theorem impl_copyFrames_a (xs : List GFrame) (hx : xs.length ≤ 1048576) : PCon Try.prog 47 [.c (.view (vw GFrame.c xs))] fun res rows => res = .t (.c (.own 0)) ∧ rows = [⟨79, 5, vw GFrame.c xs⟩] := by
  obtain ⟨V, hV⟩ : ∃ V, V = vw GFrame.c xs := ⟨_, rfl⟩
  have hVl : V.length = xs.length := by rw [hV, vw_length]
  have iV : immE V = true := by rw [hV]; exact vw_imm _ _
  have kV : ∀ y ∈ V, y.length = 5 := by rw [hV]; exact vw_k (c := GFrame.c) (k := 5) fun _ => rfl
  have dV : ∀ y ∈ V, y.all dat = true := by rw [hV]; exact vw_dat
  rw [← hV]
  refine pcon_run (c := body Try.f47) fits Try.func47 (by kernel_rfl) (by kernel_rfl) (by rfl) (by kernel_rfl) fun g F hg hF => ?_
  cbv
  refine goNV hg kV (by decide) (by rw [hVl]; exact hx) ?_
  cbv
  rw [goAp hg, List.nil_append]
  exact finRow hF rfl (imm_plainE iV)
theorem impl_copyBox_a (x : NBox) (hs : x.small) : PCon Try.prog 35 [.agg x.ac] fun res rows => res = .t (.agg [.imm (.int .i64 x.wide), .imm (.int .i64 x.high), .imm (.int .i64 x.base), .own 0]) ∧ rows = [⟨79, 5, vw GFrame.c x.frames⟩] := by
  obtain ⟨a0, a1, a2, a3⟩ := x
  obtain ⟨sa3, -⟩ := hs
  show PCon _ _ [.agg [.imm (.int .i64 a0), .imm (.int .i64 a1), .imm (.int .i64 a2), .view (vw GFrame.c a3)]] (fun res rows => res = .t (.agg [.imm (.int .i64 a0), .imm (.int .i64 a1), .imm (.int .i64 a2), .own 0]) ∧ rows = [⟨79, 5, vw GFrame.c a3⟩])
  have c3 := impl_copyFrames_a a3 sa3
  obtain ⟨V, hV⟩ : ∃ V, V = vw GFrame.c a3 := ⟨_, rfl⟩
  have hVl : V.length = a3.length := by rw [hV, vw_length]
  have iV : immE V = true := by rw [hV]; exact vw_imm _ _
  have kV : ∀ y ∈ V, y.length = 5 := by rw [hV]; exact vw_k (c := GFrame.c) (k := 5) fun _ => rfl
  have dV : ∀ y ∈ V, y.all dat = true := by rw [hV]; exact vw_dat
  rw [← hV] at c3
  rw [← hV]
  refine pcon_run (c := body Try.f35) fits Try.func35 (by kernel_rfl) (by kernel_rfl) (by rfl) (by kernel_rfl) fun g F hg hF => ?_
  cbv
  repeat' (first | (refine callRow hg c3 (dat_data rfl) iV ?_; cbv) | (refine callRowP hg c3 (dat_data rfl) iV ?_; cbv))
  exact finBoxA hF rfl (imm_plainE iV)
theorem spec_l21CopyBox_a (x : NBox) (hs : x.small) : PCon Try.prog 32 [.agg x.ac] fun res rows => res = .t (.agg [.imm (.int .i64 x.wide), .imm (.int .i64 x.high), .imm (.int .i64 x.base), .own 0]) ∧ rows = [⟨79, 5, vw GFrame.c x.frames⟩] := by
  obtain ⟨a0, a1, a2, a3⟩ := x
  obtain ⟨sa3, -⟩ := hs
  show PCon _ _ [.agg [.imm (.int .i64 a0), .imm (.int .i64 a1), .imm (.int .i64 a2), .view (vw GFrame.c a3)]] (fun res rows => res = .t (.agg [.imm (.int .i64 a0), .imm (.int .i64 a1), .imm (.int .i64 a2), .own 0]) ∧ rows = [⟨79, 5, vw GFrame.c a3⟩])
  obtain ⟨V, hV⟩ : ∃ V, V = vw GFrame.c a3 := ⟨_, rfl⟩
  have hVl : V.length = a3.length := by rw [hV, vw_length]
  have iV : immE V = true := by rw [hV]; exact vw_imm _ _
  have kV : ∀ y ∈ V, y.length = 5 := by rw [hV]; exact vw_k (c := GFrame.c) (k := 5) fun _ => rfl
  have dV : ∀ y ∈ V, y.all dat = true := by rw [hV]; exact vw_dat
  rw [← hV]
  refine pcon_run (c := body Try.f32) fits Try.func32 (by kernel_rfl) (by kernel_rfl) (by rfl) (by kernel_rfl) fun g F hg hF => ?_
  cbv
  refine goNV0 hg kV (by decide) (by rw [hVl]; exact sa3) ?_
  cbv
  rw [goAp hg, List.nil_append]
  exact finBoxA hF rfl (imm_plainE iV)
def memoIs (n : Int) (w h : GSpace) (rtl : Bool) (m : NMemo) : Bool := (m.node == n) && decide (m.wide = w) && decide (m.high = h) && (m.rtl == rtl)
def memoF (n : Int) (w h : GSpace) (rtl : Bool) : List NMemo → NBox × Bool
  | [] => (⟨0, 0, 0, []⟩, false)
  | m :: ms => if memoIs n w h rtl m then (m.box, true) else memoF n w h rtl ms
theorem goES {n0 N : Nat} {β : BP} {g : Gd} (hg : g = G0 Try.prog n0 N) (a0 a1 b0 b1 : Int) {K : Bool → Prop} (hK : K (decide ((⟨a0, a1⟩ : GSpace) = ⟨b0, b1⟩))) :
    g .E .eql 39 [.imm (.int .i64 a0), .imm (.int .i64 a1)] [.imm (.int .i64 b0), .imm (.int .i64 b1)] K := by
  subst hg
  refine ⟨by kernel_rfl, ⟨_, Try.underlying39⟩, [.int .i64 a0, .int .i64 a1], [.int .i64 b0, .int .i64 b1], _, rfl, rfl, ?_, hK⟩
  have h1 : eqT Try.prog 8 39 [.int .i64 a0, .int .i64 a1] [.int .i64 b0, .int .i64 b1] = some ((a0 == b0) && ((a1 == b1) && true)) := by
    kernel_rfl
  rw [h1]
  congr 1
  rw [Bool.eq_iff_iff]
  simp
set_option maxHeartbeats 4000000 in
theorem impl_MemoFor_a (x : NKept) (hs : x.small) (n : Int) (w h : GSpace) (rtl : Bool) : PCon Try.prog 10 [.agg x.ac, ai n, .agg [.imm (.int .i64 w.mode), .imm (.int .i64 w.n)], .agg [.imm (.int .i64 h.mode), .imm (.int .i64 h.n)], .c (.imm (.bool rtl))] fun res rows =>
    res = .tup [.agg [.imm (.int .i64 (memoF n w h rtl x.memos).1.wide), .imm (.int .i64 (memoF n w h rtl x.memos).1.high), .imm (.int .i64 (memoF n w h rtl x.memos).1.base), .own 0], .c (.imm (.bool (memoF n w h rtl x.memos).2))] ∧ rows = [⟨79, 5, vw GFrame.c (memoF n w h rtl x.memos).1.frames⟩] := by
  obtain ⟨xs, ys⟩ := x
  obtain ⟨hl, us, -⟩ := hs
  obtain ⟨w0, w1⟩ := w
  obtain ⟨h0', h1'⟩ := h
  obtain ⟨V, hV⟩ : ∃ V, V = vwA NMemo.ac xs := ⟨_, rfl⟩
  obtain ⟨A, hA⟩ : ∃ A, A = vw GAsked.c ys := ⟨_, rfl⟩
  obtain ⟨r0, hr0⟩ : ∃ r, r = memoF n ⟨w0, w1⟩ ⟨h0', h1'⟩ rtl xs := ⟨_, rfl⟩
  show PCon _ _ [.agg [.view (vwA NMemo.ac xs), .view (vw GAsked.c ys)], _, .agg [.imm (.int .i64 w0), .imm (.int .i64 w1)], .agg [.imm (.int .i64 h0'), .imm (.int .i64 h1')], _] _
  simp only
  rw [← hV, ← hA, ← hr0]
  obtain ⟨⟨W, H, BB, fr⟩, t⟩ := r0
  obtain ⟨G, hG⟩ : ∃ G, G = vw GFrame.c fr := ⟨_, rfl⟩
  simp only
  rw [← hG]
  refine pcon_run (c := body Try.f10) fits Try.func10 (by kernel_rfl) (by kernel_rfl) (by rfl) (by kernel_rfl) fun g F hg hF => ?_
  cbv
  refine loop_go hg fits (by kernel_rfl) V (NMemo.ac) xs hV hl (fun z (s : Unit) => [(1, .t (ai (n))), (4, .t (abl (rtl))), (5, .t (.c (.ptr 0 0 0))), (7, .t (.c (.ptr 1 0 0))), (8, .t (.c (.ptr 2 0 0))), (10, .t (.c (.ptr 3 0 0))), (11, .t (abl (false))), (15, .t (.c (.view V))), (16, .t (ai (g .ln V))), (17, .t (ai (z)))]) (fun z (s : Unit) => [.bx 37 2 [.view V, .view A], .bx 39 2 [.imm (.int .i64 w0), .imm (.int .i64 w1)], .bx 39 2 [.imm (.int .i64 h0'), .imm (.int .i64 h1')], .bx 31 4 [.imm (.int .i64 0), .imm (.int .i64 0), .imm (.int .i64 0), .imm (.slice none 0 0)]]) (fun z (s : Unit) => True) (fun (s : Unit) rest => memoF n ⟨w0, w1⟩ ⟨h0', h1'⟩ rtl rest) ((⟨W, H, BB, fr⟩, t)) () hr0.symm trivial (Wk.weak (wkG [some _, some _, some _, some _] ⟨rfl, rfl, rfl, rfl, rfl, rfl, rfl, rfl, rfl, rfl, trivial⟩ ⟨⟨_, _, rfl, rfl, rfl, rfl, .inl ⟨rfl, rfl⟩⟩, ⟨_, _, rfl, rfl, rfl, rfl, .inl ⟨rfl, rfl⟩⟩, ⟨_, _, rfl, rfl, rfl, rfl, .inl ⟨rfl, rfl⟩⟩, ⟨_, _, rfl, rfl, rfl, rfl, .inl ⟨rfl, rfl⟩⟩, trivial⟩ (by decide) no_lt)) (fun z s B hz h0 hi he => ?_) (fun z s x rest B z0 z1 z2 hx hy h0 hi hc e1 hB => ?_)
  · cbv
    rw [he]
    cbv
    obtain ⟨⟨rfl, rfl, rfl, rfl⟩, rfl⟩ : ((0 : Int) = W ∧ (0 : Int) = H ∧ (0 : Int) = BB ∧ ([] : List GFrame) = fr) ∧ false = t := by simpa [memoF] using h0
    rw [hG] at hF
    exact finBoxN hF
  · obtain ⟨a0, ⟨a1, a2⟩, ⟨a3, a4⟩, a5, ⟨a6, a7, a8, a9⟩⟩ := x
    have hsx := us _ (List.mem_of_getElem? hx)
    have hm : memoIs n ⟨w0, w1⟩ ⟨h0', h1'⟩ rtl ⟨a0, ⟨a1, a2⟩, ⟨a3, a4⟩, a5, ⟨a6, a7, a8, a9⟩⟩ = ((a0 == n) && decide ((⟨a1, a2⟩ : GSpace) = ⟨w0, w1⟩) && decide ((⟨a3, a4⟩ : GSpace) = ⟨h0', h1'⟩) && (a5 == rtl)) := rfl
    replace h0 : (if memoIs n ⟨w0, w1⟩ ⟨h0', h1'⟩ rtl ⟨a0, ⟨a1, a2⟩, ⟨a3, a4⟩, a5, ⟨a6, a7, a8, a9⟩⟩ then (⟨a6, a7, a8, a9⟩, true) else memoF n ⟨w0, w1⟩ ⟨h0', h1'⟩ rtl rest) = ((⟨W, H, BB, fr⟩ : NBox), t) := h0
    rw [hm] at h0
    clear hm
    replace hy : V[z.toNat]? = some [.imm (.int .i64 a0), .imm (.int .i64 a1), .imm (.int .i64 a2), .imm (.int .i64 a3), .imm (.int .i64 a4), .imm (.bool a5), .imm (.int .i64 a6), .imm (.int .i64 a7), .imm (.int .i64 a8), .view (vw GFrame.c a9)] := hy
    have cc := impl_copyBox_a ⟨a6, a7, a8, a9⟩ hsx
    replace cc : PCon Try.prog 35 [.agg [.imm (.int .i64 a6), .imm (.int .i64 a7), .imm (.int .i64 a8), .view (vw GFrame.c a9)]] (fun res rows => res = .t (.agg [.imm (.int .i64 a6), .imm (.int .i64 a7), .imm (.int .i64 a8), .own 0]) ∧ rows = [⟨79, 5, vw GFrame.c a9⟩]) := cc
    obtain ⟨X, hX⟩ : ∃ X, X = vw GFrame.c a9 := ⟨_, rfl⟩
    have iX : immE X = true := by rw [hX]; exact vw_imm _ _
    rw [← hX] at hy cc
    cbv; rw [hc]; cbv; refine goX hg _ z0 hy rfl ?_; cbv
    obtain ⟨E0, hE0⟩ : ∃ E, E = g .q .eql a0 n := ⟨_, rfl⟩
    have q0 : E0 = (a0 == n) := by rw [hE0, goEql hg]
    obtain ⟨E1, hE1⟩ : ∃ E, E = decide ((⟨a1, a2⟩ : GSpace) = ⟨w0, w1⟩) := ⟨_, rfl⟩
    obtain ⟨E2, hE2⟩ : ∃ E, E = decide ((⟨a3, a4⟩ : GSpace) = ⟨h0', h1'⟩) := ⟨_, rfl⟩
    obtain ⟨E3, hE3⟩ : ∃ E, E = g .qb .eql a5 rtl := ⟨_, rfl⟩
    have q3 : E3 = (a5 == rtl) := by rw [hE3, goEqlB hg]
    rw [← q0, ← hE1, ← hE2, ← q3] at h0
    try rw [← hE0]
    have next : (E0 && E1 && E2 && E3) = false → memoF n ⟨w0, w1⟩ ⟨h0', h1'⟩ rtl rest = ((⟨W, H, BB, fr⟩ : NBox), t) := fun hh => by rw [hh] at h0; exact h0
    cases E0
    case false =>
      cbv
      rw [e1]
      exact hB (()) _ _ ⟨next rfl, trivial⟩ (Wk.weak (wkG [some _, some _, some _, some _] ⟨rfl, rfl, rfl, rfl, rfl, rfl, rfl, rfl, rfl, rfl, trivial⟩ ⟨⟨_, _, rfl, rfl, rfl, rfl, .inl ⟨rfl, rfl⟩⟩, ⟨_, _, rfl, rfl, rfl, rfl, .inl ⟨rfl, rfl⟩⟩, ⟨_, _, rfl, rfl, rfl, rfl, .inl ⟨rfl, rfl⟩⟩, ⟨_, _, rfl, rfl, rfl, rfl, .inl ⟨rfl, rfl⟩⟩, trivial⟩ (by decide) no_lt))
    cbv
    refine goES hg _ _ _ _ ?_
    rw [← hE1]
    cases E1
    case false =>
      cbv
      rw [e1]
      exact hB (()) _ _ ⟨next rfl, trivial⟩ (Wk.weak (wkG [some _, some _, some _, some _] ⟨rfl, rfl, rfl, rfl, rfl, rfl, rfl, rfl, rfl, rfl, trivial⟩ ⟨⟨_, _, rfl, rfl, rfl, rfl, .inl ⟨rfl, rfl⟩⟩, ⟨_, _, rfl, rfl, rfl, rfl, .inl ⟨rfl, rfl⟩⟩, ⟨_, _, rfl, rfl, rfl, rfl, .inl ⟨rfl, rfl⟩⟩, ⟨_, _, rfl, rfl, rfl, rfl, .inl ⟨rfl, rfl⟩⟩, trivial⟩ (by decide) no_lt))
    cbv
    refine goES hg _ _ _ _ ?_
    rw [← hE2]
    cases E2
    case false =>
      cbv
      rw [e1]
      exact hB (()) _ _ ⟨next rfl, trivial⟩ (Wk.weak (wkG [some _, some _, some _, some _] ⟨rfl, rfl, rfl, rfl, rfl, rfl, rfl, rfl, rfl, rfl, trivial⟩ ⟨⟨_, _, rfl, rfl, rfl, rfl, .inl ⟨rfl, rfl⟩⟩, ⟨_, _, rfl, rfl, rfl, rfl, .inl ⟨rfl, rfl⟩⟩, ⟨_, _, rfl, rfl, rfl, rfl, .inl ⟨rfl, rfl⟩⟩, ⟨_, _, rfl, rfl, rfl, rfl, .inl ⟨rfl, rfl⟩⟩, trivial⟩ (by decide) no_lt))
    cbv
    try rw [← hE3]
    cases E3
    case false =>
      cbv
      rw [e1]
      exact hB (()) _ _ ⟨next rfl, trivial⟩ (Wk.weak (wkG [some _, some _, some _, some _] ⟨rfl, rfl, rfl, rfl, rfl, rfl, rfl, rfl, rfl, rfl, trivial⟩ ⟨⟨_, _, rfl, rfl, rfl, rfl, .inl ⟨rfl, rfl⟩⟩, ⟨_, _, rfl, rfl, rfl, rfl, .inl ⟨rfl, rfl⟩⟩, ⟨_, _, rfl, rfl, rfl, rfl, .inl ⟨rfl, rfl⟩⟩, ⟨_, _, rfl, rfl, rfl, rfl, .inl ⟨rfl, rfl⟩⟩, trivial⟩ (by decide) no_lt))
    cbv
    refine callBoxA hg cc rfl (imm_plainE iX) ?_
    cbv
    obtain ⟨⟨rfl, rfl, rfl, rfl⟩, rfl⟩ : (a6 = W ∧ a7 = H ∧ a8 = BB ∧ a9 = fr) ∧ true = t := by simpa using h0
    rw [hG, ← hX] at hF
    exact finBoxT hF rfl (imm_plainE iX)
set_option maxHeartbeats 4000000 in
theorem spec_MemoFor_a (x : NKept) (hs : x.small) (n : Int) (w h : GSpace) (rtl : Bool) : PCon Try.prog 7 [.agg x.ac, ai n, .agg [.imm (.int .i64 w.mode), .imm (.int .i64 w.n)], .agg [.imm (.int .i64 h.mode), .imm (.int .i64 h.n)], .c (.imm (.bool rtl))] fun res rows =>
    res = .tup [.agg [.imm (.int .i64 (memoF n w h rtl x.memos).1.wide), .imm (.int .i64 (memoF n w h rtl x.memos).1.high), .imm (.int .i64 (memoF n w h rtl x.memos).1.base), .own 0], .c (.imm (.bool (memoF n w h rtl x.memos).2))] ∧ rows = [⟨79, 5, vw GFrame.c (memoF n w h rtl x.memos).1.frames⟩] := by
  obtain ⟨xs, ys⟩ := x
  obtain ⟨hl, us, -⟩ := hs
  obtain ⟨w0, w1⟩ := w
  obtain ⟨h0', h1'⟩ := h
  obtain ⟨V, hV⟩ : ∃ V, V = vwA NMemo.ac xs := ⟨_, rfl⟩
  obtain ⟨A, hA⟩ : ∃ A, A = vw GAsked.c ys := ⟨_, rfl⟩
  obtain ⟨r0, hr0⟩ : ∃ r, r = memoF n ⟨w0, w1⟩ ⟨h0', h1'⟩ rtl xs := ⟨_, rfl⟩
  show PCon _ _ [.agg [.view (vwA NMemo.ac xs), .view (vw GAsked.c ys)], _, .agg [.imm (.int .i64 w0), .imm (.int .i64 w1)], .agg [.imm (.int .i64 h0'), .imm (.int .i64 h1')], _] _
  simp only
  rw [← hV, ← hA, ← hr0]
  obtain ⟨⟨W, H, BB, fr⟩, t⟩ := r0
  obtain ⟨G, hG⟩ : ∃ G, G = vw GFrame.c fr := ⟨_, rfl⟩
  simp only
  rw [← hG]
  refine pcon_run (c := body Try.f7) fits Try.func7 (by kernel_rfl) (by kernel_rfl) (by rfl) (by kernel_rfl) fun g F hg hF => ?_
  cbv
  refine loop_go hg fits (by kernel_rfl) V (NMemo.ac) xs hV hl (fun z (s : Unit) => [(1, .t (ai (n))), (4, .t (abl (rtl))), (5, .t (.c (.ptr 0 0 0))), (7, .t (.c (.ptr 1 0 0))), (8, .t (.c (.ptr 2 0 0))), (10, .t (.c (.ptr 3 0 0))), (11, .t (abl (false))), (12, .t (ai (z)))]) (fun z (s : Unit) => [.bx 37 2 [.view V, .view A], .bx 39 2 [.imm (.int .i64 w0), .imm (.int .i64 w1)], .bx 39 2 [.imm (.int .i64 h0'), .imm (.int .i64 h1')], .bx 31 4 [.imm (.int .i64 0), .imm (.int .i64 0), .imm (.int .i64 0), .imm (.slice none 0 0)]]) (fun z (s : Unit) => True) (fun (s : Unit) rest => memoF n ⟨w0, w1⟩ ⟨h0', h1'⟩ rtl rest) ((⟨W, H, BB, fr⟩, t)) () hr0.symm trivial (Wk.weak (wkG [some _, some _, some _, some _] ⟨rfl, rfl, rfl, rfl, rfl, rfl, rfl, rfl, trivial⟩ ⟨⟨_, _, rfl, rfl, rfl, rfl, .inl ⟨rfl, rfl⟩⟩, ⟨_, _, rfl, rfl, rfl, rfl, .inl ⟨rfl, rfl⟩⟩, ⟨_, _, rfl, rfl, rfl, rfl, .inl ⟨rfl, rfl⟩⟩, ⟨_, _, rfl, rfl, rfl, rfl, .inl ⟨rfl, rfl⟩⟩, trivial⟩ (by decide) no_lt)) (fun z s B hz h0 hi he => ?_) (fun z s x rest B z0 z1 z2 hx hy h0 hi hc e1 hB => ?_)
  · cbv
    rw [he]
    cbv
    obtain ⟨⟨rfl, rfl, rfl, rfl⟩, rfl⟩ : ((0 : Int) = W ∧ (0 : Int) = H ∧ (0 : Int) = BB ∧ ([] : List GFrame) = fr) ∧ false = t := by simpa [memoF] using h0
    rw [hG] at hF
    exact finBoxN hF
  · obtain ⟨a0, ⟨a1, a2⟩, ⟨a3, a4⟩, a5, ⟨a6, a7, a8, a9⟩⟩ := x
    have hsx := us _ (List.mem_of_getElem? hx)
    have hm : memoIs n ⟨w0, w1⟩ ⟨h0', h1'⟩ rtl ⟨a0, ⟨a1, a2⟩, ⟨a3, a4⟩, a5, ⟨a6, a7, a8, a9⟩⟩ = ((a0 == n) && decide ((⟨a1, a2⟩ : GSpace) = ⟨w0, w1⟩) && decide ((⟨a3, a4⟩ : GSpace) = ⟨h0', h1'⟩) && (a5 == rtl)) := rfl
    replace h0 : (if memoIs n ⟨w0, w1⟩ ⟨h0', h1'⟩ rtl ⟨a0, ⟨a1, a2⟩, ⟨a3, a4⟩, a5, ⟨a6, a7, a8, a9⟩⟩ then (⟨a6, a7, a8, a9⟩, true) else memoF n ⟨w0, w1⟩ ⟨h0', h1'⟩ rtl rest) = ((⟨W, H, BB, fr⟩ : NBox), t) := h0
    rw [hm] at h0
    clear hm
    replace hy : V[z.toNat]? = some [.imm (.int .i64 a0), .imm (.int .i64 a1), .imm (.int .i64 a2), .imm (.int .i64 a3), .imm (.int .i64 a4), .imm (.bool a5), .imm (.int .i64 a6), .imm (.int .i64 a7), .imm (.int .i64 a8), .view (vw GFrame.c a9)] := hy
    have cc := spec_l21CopyBox_a ⟨a6, a7, a8, a9⟩ hsx
    replace cc : PCon Try.prog 32 [.agg [.imm (.int .i64 a6), .imm (.int .i64 a7), .imm (.int .i64 a8), .view (vw GFrame.c a9)]] (fun res rows => res = .t (.agg [.imm (.int .i64 a6), .imm (.int .i64 a7), .imm (.int .i64 a8), .own 0]) ∧ rows = [⟨79, 5, vw GFrame.c a9⟩]) := cc
    obtain ⟨X, hX⟩ : ∃ X, X = vw GFrame.c a9 := ⟨_, rfl⟩
    have iX : immE X = true := by rw [hX]; exact vw_imm _ _
    rw [← hX] at hy cc
    cbv; rw [hc]; cbv; refine goX hg _ z0 hy rfl ?_; cbv
    obtain ⟨E0, hE0⟩ : ∃ E, E = g .q .eql a0 n := ⟨_, rfl⟩
    have q0 : E0 = (a0 == n) := by rw [hE0, goEql hg]
    obtain ⟨E1, hE1⟩ : ∃ E, E = decide ((⟨a1, a2⟩ : GSpace) = ⟨w0, w1⟩) := ⟨_, rfl⟩
    obtain ⟨E2, hE2⟩ : ∃ E, E = decide ((⟨a3, a4⟩ : GSpace) = ⟨h0', h1'⟩) := ⟨_, rfl⟩
    obtain ⟨E3, hE3⟩ : ∃ E, E = g .qb .eql a5 rtl := ⟨_, rfl⟩
    have q3 : E3 = (a5 == rtl) := by rw [hE3, goEqlB hg]
    rw [← q0, ← hE1, ← hE2, ← q3] at h0
    try rw [← hE0]
    have next : (E0 && E1 && E2 && E3) = false → memoF n ⟨w0, w1⟩ ⟨h0', h1'⟩ rtl rest = ((⟨W, H, BB, fr⟩ : NBox), t) := fun hh => by rw [hh] at h0; exact h0
    cases E0
    case false =>
      cbv
      rw [e1]
      exact hB (()) _ _ ⟨next rfl, trivial⟩ (Wk.weak (wkG [some _, some _, some _, some _] ⟨rfl, rfl, rfl, rfl, rfl, rfl, rfl, rfl, trivial⟩ ⟨⟨_, _, rfl, rfl, rfl, rfl, .inl ⟨rfl, rfl⟩⟩, ⟨_, _, rfl, rfl, rfl, rfl, .inl ⟨rfl, rfl⟩⟩, ⟨_, _, rfl, rfl, rfl, rfl, .inl ⟨rfl, rfl⟩⟩, ⟨_, _, rfl, rfl, rfl, rfl, .inl ⟨rfl, rfl⟩⟩, trivial⟩ (by decide) no_lt))
    cbv
    refine goES hg _ _ _ _ ?_
    rw [← hE1]
    cases E1
    case false =>
      cbv
      rw [e1]
      exact hB (()) _ _ ⟨next rfl, trivial⟩ (Wk.weak (wkG [some _, some _, some _, some _] ⟨rfl, rfl, rfl, rfl, rfl, rfl, rfl, rfl, trivial⟩ ⟨⟨_, _, rfl, rfl, rfl, rfl, .inl ⟨rfl, rfl⟩⟩, ⟨_, _, rfl, rfl, rfl, rfl, .inl ⟨rfl, rfl⟩⟩, ⟨_, _, rfl, rfl, rfl, rfl, .inl ⟨rfl, rfl⟩⟩, ⟨_, _, rfl, rfl, rfl, rfl, .inl ⟨rfl, rfl⟩⟩, trivial⟩ (by decide) no_lt))
    cbv
    refine goES hg _ _ _ _ ?_
    rw [← hE2]
    cases E2
    case false =>
      cbv
      rw [e1]
      exact hB (()) _ _ ⟨next rfl, trivial⟩ (Wk.weak (wkG [some _, some _, some _, some _] ⟨rfl, rfl, rfl, rfl, rfl, rfl, rfl, rfl, trivial⟩ ⟨⟨_, _, rfl, rfl, rfl, rfl, .inl ⟨rfl, rfl⟩⟩, ⟨_, _, rfl, rfl, rfl, rfl, .inl ⟨rfl, rfl⟩⟩, ⟨_, _, rfl, rfl, rfl, rfl, .inl ⟨rfl, rfl⟩⟩, ⟨_, _, rfl, rfl, rfl, rfl, .inl ⟨rfl, rfl⟩⟩, trivial⟩ (by decide) no_lt))
    cbv
    try rw [← hE3]
    cases E3
    case false =>
      cbv
      rw [e1]
      exact hB (()) _ _ ⟨next rfl, trivial⟩ (Wk.weak (wkG [some _, some _, some _, some _] ⟨rfl, rfl, rfl, rfl, rfl, rfl, rfl, rfl, trivial⟩ ⟨⟨_, _, rfl, rfl, rfl, rfl, .inl ⟨rfl, rfl⟩⟩, ⟨_, _, rfl, rfl, rfl, rfl, .inl ⟨rfl, rfl⟩⟩, ⟨_, _, rfl, rfl, rfl, rfl, .inl ⟨rfl, rfl⟩⟩, ⟨_, _, rfl, rfl, rfl, rfl, .inl ⟨rfl, rfl⟩⟩, trivial⟩ (by decide) no_lt))
    cbv
    refine callBoxA hg cc rfl (imm_plainE iX) ?_
    cbv
    obtain ⟨⟨rfl, rfl, rfl, rfl⟩, rfl⟩ : (a6 = W ∧ a7 = H ∧ a8 = BB ∧ a9 = fr) ∧ true = t := by simpa using h0
    rw [hG, ← hX] at hF
    exact finBoxT hF rfl (imm_plainE iX)
theorem laws_markBox_a (k0 a b c : Int) (es : List (List AC)) (hk : ∀ e ∈ es, e.length = 5) (hp : plainE es = true) (hl : es.length ≤ 1048576) (hk0 : 0 ≤ k0) (hk1 : k0 ≤ 1152921504606846976) (ty : TypeId := 79) :
    Con Try.prog 14 (toH [.rw ⟨ty, 5, es⟩]) [.agg [.imm (.int .i64 a), .imm (.int .i64 b), .imm (.int .i64 c), .own 0], ai k0] fun res h' => ∃ eh, toH eh = h' ∧ (res = .t (ai (k0 + 5 * lenI es)) ∧ eh = [.rw ⟨ty, 5, vw GFrame.c (marksFrame k0 es.length)⟩]) := by
  have cm := laws_markFrameS_a k0 es hk hp hl hk0 hk1 ty
  obtain ⟨V, hV⟩ : ∃ V, V = vw GFrame.c (marksFrame k0 es.length) := ⟨_, rfl⟩
  have pV : plainE V = true := by rw [hV]; exact vw_plain _ _
  obtain ⟨K, hK⟩ : ∃ K : Int, K = k0 + 5 * lenI es := ⟨_, rfl⟩
  rw [← hV, ← hK] at cm
  rw [← hV, ← hK]
  refine con_run (c := body Try.f14) fits Try.func14 (by kernel_rfl) (by kernel_rfl) (bl (by rfl)) (by kernel_rfl) fun g F hg hF => ?_
  cbv
  refine callM hg 0 cm rfl hp pV rfl ?_
  cbv
  subst hF
  exact .inl ⟨.t (ai K), toH [.rw ⟨ty, 5, V⟩], [some 0], wk1 ⟨⟨_, rfl, rfl, pV⟩, trivial⟩ ⟨rfl, trivial⟩, _, rfl, rfl, rfl⟩
theorem laws_heldBox_a (k0 a b c : Int) (n : Nat) (hl : n ≤ 1048576) (hk0 : 0 ≤ k0) (hk1 : k0 ≤ 1152921504606846976) : PCon Try.prog 15 [.agg [.imm (.int .i64 a), .imm (.int .i64 b), .imm (.int .i64 c), .view (vw GFrame.c (marksFrame k0 n))], ai k0] fun res rows => res = .t (ai (k0 + 5 * (n : Int))) ∧ rows = [] := by
  have ch := laws_heldFrameS_a k0 n hl hk0 hk1
  obtain ⟨V, hV⟩ : ∃ V, V = vw GFrame.c (marksFrame k0 n) := ⟨_, rfl⟩
  obtain ⟨K, hK⟩ : ∃ K : Int, K = k0 + 5 * (n : Int) := ⟨_, rfl⟩
  have hK0 : ¬ K < 0 := by omega
  rw [← hV, ← hK] at ch
  rw [← hV, ← hK]
  refine pcon_run (c := body Try.f15) fits Try.func15 (by kernel_rfl) (by kernel_rfl) (by rfl) (by kernel_rfl) fun g F hg hF => ?_
  cbv
  refine call0 hg ch rfl rfl ?_
  cbv
  have e : g .q .lss K 0 = false := by rw [goLss hg]; exact decide_eq_false hK0
  rw [e]
  cbv
  exact fin0i hF rfl

end Go.Proofs.Ytenbloaopcfdlaa
