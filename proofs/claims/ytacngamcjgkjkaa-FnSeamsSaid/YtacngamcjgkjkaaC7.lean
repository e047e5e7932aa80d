/- Frames on a grid: one and all. -/
import Derived.Test.YtacngamcjgkjkaaC6
import Derived.Test.YtacngamcjgkjkaaAmAE
namespace Go.Proofs.Ytacngamcjgkjkaa
open Go.ChangeShapes Go.WideShapes Go.ChangeAt Go.RowKit Am
set_option linter.unusedVariables false
set_option linter.unusedSimpArgs false
set_option maxRecDepth 100000

def snapT (n s : Int) : Int := if (1 ≤ s ∧ s ≤ 4096) ∧ (-1000000000 ≤ n ∧ n ≤ 1000000000) then wrap64 (fdv (wrap64 (wrap64 (2 * n) + s)) (wrap64 (2 * s)) * s) else n
def snapG (s : Int) (f : GFrame) : GFrame := ⟨f.node, snapT f.x s, snapT f.y s, wrap64 (snapT (wrap64 (f.x + f.wide)) s - snapT f.x s), wrap64 (snapT (wrap64 (f.y + f.high)) s - snapT f.y s)⟩
abbrev agF (f : GFrame) : AT := .agg [.imm (.int .i64 f.node), .imm (.int .i64 f.x), .imm (.int .i64 f.y), .imm (.int .i64 f.wide), .imm (.int .i64 f.high)]
/-- A row that is filled by what is put behind. -/
structure Grow (G es : List (List AC)) (z : Int) : Prop where
  z0 : 0 ≤ z
  z1 : z ≤ lenI G
  eq : es = G.take z.toNat
theorem Grow.start (G : List (List AC)) : Grow G [] 0 := ⟨Int.le_refl 0, by rw [lenI_eq]; omega, by simp⟩
theorem Grow.step {G es : List (List AC)} {z : Int} {y : List AC} (h : Grow G es z) (hy : G[z.toNat]? = some y) : Grow G (es ++ [y]) (z + 1) := by
  have h0 := h.z0
  have hl := (List.getElem?_eq_some_iff.1 hy).1
  refine ⟨by omega, by rw [lenI_eq]; omega, ?_⟩
  rw [show (z + 1).toNat = z.toNat + 1 by omega, List.take_add_one, hy, h.eq]
  rfl
theorem Grow.done {G es : List (List AC)} {z : Int} (h : Grow G es z) (hz : ¬ z < lenI G) : es = G := by
  rw [lenI_eq] at hz
  rw [h.eq, List.take_of_length_le (by omega)]
theorem Grow.len {G es : List (List AC)} {z : Int} (h : Grow G es z) : es.length ≤ G.length := by rw [h.eq]; simp; omega
theorem Grow.plain {G es : List (List AC)} {z : Int} (h : Grow G es z) (hp : plainE G = true) : plainE es = true := by
  rw [h.eq, plainE, List.all_eq_true]
  intro x hx
  exact List.all_eq_true.1 hp x (List.mem_of_mem_take hx)
theorem goNA {P : Program} {n0 N : Nat} {g : Gd} (hg : g = G0 P n0 N) {t k by_ : Nat} {es : List (List AC)} {y : List AC} {q : Prop} (hk : y.length = k) (hb : by_ ≤ 65536) (hl : es.length ≤ 1048576) (hq : q) :
    g .N ((∀ x, x ∈ [y] → x.length = k) ∧ ((AB.mk t k es).es.length + [y].length) * by_ ≤ 140737488355328 ∧ (AB.mk t k es).es.length + [y].length ≤ 4611686018427387904) q :=
  goN hg ⟨fun x hx => by rw [List.mem_singleton.1 hx]; exact hk, Nat.le_trans (Nat.mul_le_mul (show es.length + 1 ≤ 1048577 by omega) hb) (by decide), by show es.length + 1 ≤ _; omega⟩ hq
theorem spec_SnapTo_a (n s : Int) : PCon Try.prog 80 [ai n, ai s] fun res rows => res = .t (ai (snapT n s)) ∧ rows = [] := by
  refine pcon_run (c := body Try.f80) fits Try.func80 (by kernel_rfl) (by kernel_rfl) (by rfl) (by kernel_rfl) fun g F hg hF => ?_
  cbv
  repeat' (first | (refine callB hg (spec_l01In_a _ _ _) rfl (fun R0 hR0 => ?_); cases R0 <;> cbv) | (refine callBP hg (spec_l01In_a _ _ _) rfl (fun R0 hR0 => ?_); cases R0 <;> cbv) | (refine callI hg (spec_FloorDiv_a _ _) rfl (fun R0 hR0 => ?_); cbv) | (refine callIP hg (spec_FloorDiv_a _ _) rfl (fun R0 hR0 => ?_); cbv) | (split <;> rename_i hh <;> (try rw [hh]) <;> (try simp only [goLss hg, goLeq hg, goGtr hg, goGeq hg, goEql hg, goNeq hg, goEqlB hg, goNeqB hg, goAdd hg, goSub hg, goMul hg, goQuo hg, goRem hg, goNg hg, goMn hg, goMx hg, beq_iff_eq, bne_iff_ne, beq_eq_false_iff_ne, bne_eq_false_iff_eq, decide_eq_true_eq, decide_eq_false_iff_not, ne_eq, Decidable.not_not] at hh) <;> cbv))
  all_goals exact fin0i hF (by (try simp only [goMul hg, goAdd hg] at *); simp only [snapT]; grind)
theorem impl_SnapTo_a (n s : Int) : PCon Try.prog 79 [ai n, ai s] fun res rows => res = .t (ai (snapT n s)) ∧ rows = [] := by
  refine pcon_run (c := body Try.f79) fits Try.func79 (by kernel_rfl) (by kernel_rfl) (by rfl) (by kernel_rfl) fun g F hg hF => ?_
  cbv
  repeat' (first | (refine callB hg (impl_in_a _ _ _) rfl (fun R0 hR0 => ?_); cases R0 <;> cbv) | (refine callBP hg (impl_in_a _ _ _) rfl (fun R0 hR0 => ?_); cases R0 <;> cbv) | (refine callI hg (impl_FloorDiv_a _ _) rfl (fun R0 hR0 => ?_); cbv) | (refine callIP hg (impl_FloorDiv_a _ _) rfl (fun R0 hR0 => ?_); cbv) | (split <;> rename_i hh <;> (try rw [hh]) <;> (try simp only [goLss hg, goLeq hg, goGtr hg, goGeq hg, goEql hg, goNeq hg, goEqlB hg, goNeqB hg, goAdd hg, goSub hg, goMul hg, goQuo hg, goRem hg, goNg hg, goMn hg, goMx hg, beq_iff_eq, bne_iff_ne, beq_eq_false_iff_ne, bne_eq_false_iff_eq, decide_eq_true_eq, decide_eq_false_iff_not, ne_eq, Decidable.not_not] at hh) <;> cbv))
  all_goals exact fin0i hF (by (try simp only [goMul hg, goAdd hg] at *); simp only [snapT]; grind)
set_option maxHeartbeats 1600000 in
theorem spec_SnapFrame_a (a0 a1 a2 a3 a4 s : Int) : PCon Try.prog 61 [agF ⟨a0, a1, a2, a3, a4⟩, ai s] fun res rows => res = .t (agF (snapG s ⟨a0, a1, a2, a3, a4⟩)) ∧ rows = [] := by
  refine pcon_run (c := body Try.f61) fits Try.func61 (by kernel_rfl) (by kernel_rfl) (by rfl) (by kernel_rfl) fun g F hg hF => ?_
  cbv
  repeat' (first | (refine callI hg (spec_SnapTo_a _ _) rfl (fun R0 hR0 => ?_); cbv) | (refine callIP hg (spec_SnapTo_a _ _) rfl (fun R0 hR0 => ?_); cbv) | (split <;> rename_i hh <;> (try rw [hh]) <;> (try simp only [goLss hg, goLeq hg, goGtr hg, goGeq hg, goEql hg, goNeq hg, goEqlB hg, goNeqB hg, goAdd hg, goSub hg, goMul hg, goQuo hg, goRem hg, goNg hg, goMn hg, goMx hg, beq_iff_eq, bne_iff_ne, beq_eq_false_iff_ne, bne_eq_false_iff_eq, decide_eq_true_eq, decide_eq_false_iff_not, ne_eq, Decidable.not_not] at hh) <;> cbv))
  all_goals exact fin0f hF (by (try simp only [goAdd hg, goSub hg] at *); subst_vars; exact ⟨rfl, rfl, rfl, rfl, rfl⟩)
set_option maxHeartbeats 1600000 in
theorem impl_SnapFrame_a (a0 a1 a2 a3 a4 s : Int) : PCon Try.prog 60 [agF ⟨a0, a1, a2, a3, a4⟩, ai s] fun res rows => res = .t (agF (snapG s ⟨a0, a1, a2, a3, a4⟩)) ∧ rows = [] := by
  refine pcon_run (c := body Try.f60) fits Try.func60 (by kernel_rfl) (by kernel_rfl) (by rfl) (by kernel_rfl) fun g F hg hF => ?_
  cbv
  repeat' (first | (refine callI hg (impl_SnapTo_a _ _) rfl (fun R0 hR0 => ?_); cbv) | (refine callIP hg (impl_SnapTo_a _ _) rfl (fun R0 hR0 => ?_); cbv) | (split <;> rename_i hh <;> (try rw [hh]) <;> (try simp only [goLss hg, goLeq hg, goGtr hg, goGeq hg, goEql hg, goNeq hg, goEqlB hg, goNeqB hg, goAdd hg, goSub hg, goMul hg, goQuo hg, goRem hg, goNg hg, goMn hg, goMx hg, beq_iff_eq, bne_iff_ne, beq_eq_false_iff_ne, bne_eq_false_iff_eq, decide_eq_true_eq, decide_eq_false_iff_not, ne_eq, Decidable.not_not] at hh) <;> cbv))
  all_goals exact fin0f hF (by (try simp only [goAdd hg, goSub hg] at *); subst_vars; exact ⟨rfl, rfl, rfl, rfl, rfl⟩)
set_option maxHeartbeats 1600000 in
theorem spec_SnapAll_a (xs : List GFrame) (s : Int) (hx : xs.length ≤ 1048576) : PCon Try.prog 31 [.c (.view (vw GFrame.c xs)), ai s] fun res rows => res = .t (.c (.own 0)) ∧ rows = [⟨54, 5, vw GFrame.c (xs.map (snapG s))⟩] := by
  obtain ⟨V, hV⟩ : ∃ V, V = vw GFrame.c xs := ⟨_, rfl⟩
  have hVl : V.length = xs.length := by rw [hV, vw_length]
  have iV : immE V = true := by rw [hV]; exact vw_imm _ _
  have kV : ∀ y ∈ V, y.length = 5 := by rw [hV]; exact vw_k (c := GFrame.c) (k := 5) fun _ => rfl
  have dV : ∀ y ∈ V, y.all dat = true := by rw [hV]; exact vw_dat
  obtain ⟨G, hG⟩ : ∃ G, G = vw GFrame.c (xs.map (snapG s)) := ⟨_, rfl⟩
  have hGl : G.length = xs.length := by rw [hG, vw_length]; simp
  have hGV : lenI G = lenI V := by rw [lenI_eq, lenI_eq, hGl, hVl]
  have pG : plainE G = true := by rw [hG]; exact vw_plain _ _
  have hV20 : lenI V ≤ 1048576 := by rw [lenI_eq]; omega
  have hV0 : 0 ≤ lenI V := by rw [lenI_eq]; omega
  rw [← hV, ← hG]
  refine pcon_run (c := body Try.f31) fits Try.func31 (by kernel_rfl) (by kernel_rfl) (by rfl) (by kernel_rfl) fun g F hg hF => ?_
  cbv
  refine loop_run hg fits (by kernel_rfl) (fun t : Int × List (List AC) => [(0, .t (.c (.view V))), (1, .t (ai s)), (5, .t (.c (.own 0))), (6, .t (ai t.1))]) (fun t => [.rw ⟨54, 5, t.2⟩]) (fun t => Grow G t.2 t.1) (fun t => xs.length - t.1.toNat)
    (0, []) [some 0] (Grow.start G) (wkS [0] (by decide) ⟨⟨_, rfl, rfl, rfl⟩, trivial⟩ ⟨rfl, rfl, rfl, rfl, trivial⟩) (fun t B hs hB => ?_)
  obtain ⟨z, es⟩ := t
  simp only at hs
  have h0 := hs.z0
  have h1 := hs.z1
  have hl := hs.len
  cbv
  cases hc : g .q .lss z (g .ln V)
  · rw [goLss hg, goLn hg, decide_eq_false_iff_not] at hc
    cbv
    obtain rfl := hs.done (by rw [hGV]; exact hc)
    exact finRow hF rfl pG
  · rw [goLss hg, goLn hg, decide_eq_true_eq] at hc
    cbv
    obtain ⟨x, hxx⟩ := at_z (xs := xs) h0 (by rw [lenI_eq] at hc; omega)
    have hyy : V[z.toNat]? = some (lc (GFrame.c x)) := by rw [hV]; exact vw_at hxx
    have hGG : G[z.toNat]? = some (lc (GFrame.c (snapG s x))) := by rw [hG]; exact vw_at (by simp [hxx])
    obtain ⟨a0, a1, a2, a3, a4⟩ := x
    refine goX hg _ h0 hyy rfl ?_
    cbv
    refine callF hg (spec_SnapFrame_a _ _ _ _ _ _) rfl (fun R0 R1 R2 R3 R4 h0' h1' h2' h3' h4' => ?_)
    cbv
    refine goNA hg rfl (by decide) (by omega) ?_
    cbv
    have e1 : g .w .add .i64 z 1 = z + 1 := by rw [goAdd hg, wrap_small _ (by omega)]
    rw [e1, goAp hg]
    have hs' := hs.step hGG
    have hcell : lc (GFrame.c (snapG s ⟨a0, a1, a2, a3, a4⟩)) = [.imm (.int .i64 R0), .imm (.int .i64 R1), .imm (.int .i64 R2), .imm (.int .i64 R3), .imm (.int .i64 R4)] := by subst h0' h1' h2' h3' h4'; rfl
    rw [hcell] at hs'
    exact back hB (z + 1, _) [some 2] (wkS [2] (by decide) ⟨⟨_, rfl, rfl, hs'.plain pG⟩, trivial⟩ ⟨rfl, rfl, rfl, rfl, trivial⟩) hs' (by show xs.length - (z + 1).toNat < xs.length - z.toNat; rw [lenI_eq] at hc; omega)
set_option maxHeartbeats 1600000 in
theorem impl_SnapAll_a (xs : List GFrame) (s : Int) (hx : xs.length ≤ 1048576) : PCon Try.prog 29 [.c (.view (vw GFrame.c xs)), ai s] fun res rows => res = .t (.c (.own 0)) ∧ rows = [⟨54, 5, vw GFrame.c (xs.map (snapG s))⟩] := by
  obtain ⟨V, hV⟩ : ∃ V, V = vw GFrame.c xs := ⟨_, rfl⟩
  have hVl : V.length = xs.length := by rw [hV, vw_length]
  have iV : immE V = true := by rw [hV]; exact vw_imm _ _
  have kV : ∀ y ∈ V, y.length = 5 := by rw [hV]; exact vw_k (c := GFrame.c) (k := 5) fun _ => rfl
  have dV : ∀ y ∈ V, y.all dat = true := by rw [hV]; exact vw_dat
  obtain ⟨G, hG⟩ : ∃ G, G = vw GFrame.c (xs.map (snapG s)) := ⟨_, rfl⟩
  have hGl : G.length = xs.length := by rw [hG, vw_length]; simp
  have hGV : lenI G = lenI V := by rw [lenI_eq, lenI_eq, hGl, hVl]
  have pG : plainE G = true := by rw [hG]; exact vw_plain _ _
  have hV20 : lenI V ≤ 1048576 := by rw [lenI_eq]; omega
  have hV0 : 0 ≤ lenI V := by rw [lenI_eq]; omega
  rw [← hV, ← hG]
  refine pcon_run (c := body Try.f29) fits Try.func29 (by kernel_rfl) (by kernel_rfl) (by rfl) (by kernel_rfl) fun g F hg hF => ?_
  cbv
  refine loop_run hg fits (by kernel_rfl) (fun t : Int × List (List AC) => [(1, .t (ai s)), (5, .t (.c (.own 0))), (8, .t (.c (.view V))), (9, .t (ai (g .ln V))), (10, .t (ai t.1))]) (fun t => [.rw ⟨54, 5, t.2⟩]) (fun t => Grow G t.2 t.1) (fun t => xs.length - t.1.toNat)
    (0, []) [none] (Grow.start G) (wkN _ _ ⟨rfl, rfl, rfl, rfl, rfl, trivial⟩) (fun t B hs hB => ?_)
  obtain ⟨z, es⟩ := t
  simp only at hs
  have h0 := hs.z0
  have h1 := hs.z1
  have hl := hs.len
  cbv
  cases hc : g .q .lss z (g .ln V)
  · rw [goLss hg, goLn hg, decide_eq_false_iff_not] at hc
    cbv
    obtain rfl := hs.done (by rw [hGV]; exact hc)
    exact finRow hF rfl pG
  · rw [goLss hg, goLn hg, decide_eq_true_eq] at hc
    cbv
    obtain ⟨x, hxx⟩ := at_z (xs := xs) h0 (by rw [lenI_eq] at hc; omega)
    have hyy : V[z.toNat]? = some (lc (GFrame.c x)) := by rw [hV]; exact vw_at hxx
    have hGG : G[z.toNat]? = some (lc (GFrame.c (snapG s x))) := by rw [hG]; exact vw_at (by simp [hxx])
    obtain ⟨a0, a1, a2, a3, a4⟩ := x
    refine goX hg _ h0 hyy rfl ?_
    cbv
    refine callF hg (impl_SnapFrame_a _ _ _ _ _ _) rfl (fun R0 R1 R2 R3 R4 h0' h1' h2' h3' h4' => ?_)
    cbv
    refine goNA hg rfl (by decide) (by omega) ?_
    cbv
    have e1 : g .w .add .i64 z 1 = z + 1 := by rw [goAdd hg, wrap_small _ (by omega)]
    rw [e1, goAp hg]
    have hs' := hs.step hGG
    have hcell : lc (GFrame.c (snapG s ⟨a0, a1, a2, a3, a4⟩)) = [.imm (.int .i64 R0), .imm (.int .i64 R1), .imm (.int .i64 R2), .imm (.int .i64 R3), .imm (.int .i64 R4)] := by subst h0' h1' h2' h3' h4'; rfl
    rw [hcell] at hs'
    exact back hB (z + 1, _) [some 3] (wkS [3] (by decide) ⟨⟨_, rfl, rfl, hs'.plain pG⟩, trivial⟩ ⟨rfl, rfl, rfl, rfl, rfl, trivial⟩) hs' (by show xs.length - (z + 1).toNat < xs.length - z.toNat; rw [lenI_eq] at hc; omega)

end Go.Proofs.Ytacngamcjgkjkaa
