/- Weights, shares, items: contracts. -/
import Derived.Test.YtcohgnecmgcajaaQ1
namespace Go.Proofs.Ytcohgnecmgcajaa
open Go.ChangeShapes Go.WideShapes Go.ChangeAt Go.RowKit Am
set_option linter.unusedVariables false
set_option linter.unusedSimpArgs false
set_option maxRecDepth 100000

theorem impl_WeightsOk_a (ws : List Int) (hl : ws.length ≤ 1048576) : PCon Try.prog 80 [.c (.view (vw intC ws))] fun res rows => res = .t (abl (wsOk ws)) ∧ rows = [] := by
  obtain ⟨V, hV⟩ : ∃ V, V = vw intC ws := ⟨_, rfl⟩
  have hVl : V.length = ws.length := by rw [hV, vw_length]
  have iV : immE V = true := by rw [hV]; exact vw_imm _ _
  have kV : ∀ y ∈ V, y.length = 1 := by rw [hV]; exact vw_k (c := intC) (k := 1) fun _ => rfl
  have dV : ∀ y ∈ V, y.all dat = true := by rw [hV]; exact vw_dat
  have hVx : lenI V = (ws.length : Int) := by rw [hV, vw_lenI]
  rw [← hV]
  refine pcon_run (c := body Try.f80) fits Try.func80 (by kernel_rfl) (by kernel_rfl) (by rfl) (by kernel_rfl) fun g F hg hF => ?_
  cbv
  refine loop_go hg fits (by kernel_rfl) V (fun x => lc (intC x)) ws hV hl (fun z (s : Unit) => [(0, .t (.c (.view V))), (5, .t (.c (.view V))), (6, .t (ai (g .ln V))), (7, .t (ai (z)))]) (fun z (s : Unit) => []) (fun z (s : Unit) => True) (fun (s : Unit) rest => rest.all (fun w => rng w 0 1073741824) && decide ((ws.length : Int) ≤ 64)) (wsOk ws) () rfl trivial (Wk.weak (wkG [] ⟨rfl, rfl, rfl, rfl, trivial⟩ trivial (by decide) no_lt)) (fun z s B hz h0 hi he => ?_) (fun z s x rest B z0 z1 z2 hx hy h0 hi hc e1 hB => ?_)
  · cbv; rw [he]; cbv
    exact fin0b hF (by rw [goLeq hg, goLn hg, hVx, ← h0]; rfl)
  · cbv; rw [hc]; cbv; refine goX hg _ z0 hy rfl ?_; cbv
    repeat' (first | (refine callB hg (impl_in_r _ _ _) rfl (fun R0 hR0 => ?_); cases R0 <;> cbv) | (refine callBP hg (impl_in_r _ _ _) rfl (fun R0 hR0 => ?_); cases R0 <;> cbv))
    · exact fin0b hF (by rw [← h0, List.all_cons, ← hR0]; rfl)
    · rw [e1]
      exact hB (()) _ _ ⟨by rw [← h0, List.all_cons, ← hR0]; rfl, trivial⟩ (Wk.weak (wkG [] ⟨rfl, rfl, rfl, rfl, trivial⟩ trivial (by decide) no_lt))
theorem spec_WeightsOk_a (ws : List Int) (hl : ws.length ≤ 1048576) : PCon Try.prog 84 [.c (.view (vw intC ws))] fun res rows => res = .t (abl (wsOk ws)) ∧ rows = [] := by
  obtain ⟨V, hV⟩ : ∃ V, V = vw intC ws := ⟨_, rfl⟩
  have hVl : V.length = ws.length := by rw [hV, vw_length]
  have iV : immE V = true := by rw [hV]; exact vw_imm _ _
  have kV : ∀ y ∈ V, y.length = 1 := by rw [hV]; exact vw_k (c := intC) (k := 1) fun _ => rfl
  have dV : ∀ y ∈ V, y.all dat = true := by rw [hV]; exact vw_dat
  have hVx : lenI V = (ws.length : Int) := by rw [hV, vw_lenI]
  rw [← hV]
  refine pcon_run (c := body Try.f84) fits Try.func84 (by kernel_rfl) (by kernel_rfl) (by rfl) (by kernel_rfl) fun g F hg hF => ?_
  cbv
  refine loop_go hg fits (by kernel_rfl) V (fun x => lc (intC x)) ws hV hl (fun z (s : Unit) => [(0, .t (.c (.view V))), (3, .t (ai (z)))]) (fun z (s : Unit) => []) (fun z (s : Unit) => True) (fun (s : Unit) rest => rest.all (fun w => rng w 0 1073741824) && decide ((ws.length : Int) ≤ 64)) (wsOk ws) () rfl trivial (Wk.weak (wkG [] ⟨rfl, rfl, trivial⟩ trivial (by decide) no_lt)) (fun z s B hz h0 hi he => ?_) (fun z s x rest B z0 z1 z2 hx hy h0 hi hc e1 hB => ?_)
  · cbv; rw [he]; cbv
    exact fin0b hF (by rw [goLeq hg, goLn hg, hVx, ← h0]; rfl)
  · cbv; rw [hc]; cbv; refine goX hg _ z0 hy rfl ?_; cbv
    repeat' (first | (refine callB hg (spec_l01In_r _ _ _) rfl (fun R0 hR0 => ?_); cases R0 <;> cbv) | (refine callBP hg (spec_l01In_r _ _ _) rfl (fun R0 hR0 => ?_); cases R0 <;> cbv))
    · exact fin0b hF (by rw [← h0, List.all_cons, ← hR0]; rfl)
    · rw [e1]
      exact hB (()) _ _ ⟨by rw [← h0, List.all_cons, ← hR0]; rfl, trivial⟩ (Wk.weak (wkG [] ⟨rfl, rfl, trivial⟩ trivial (by decide) no_lt))
set_option maxHeartbeats 1600000 in
theorem impl_Shares_a (n : Int) (ws : List Int) (hl : ws.length ≤ 1048576) : PCon Try.prog 66 [ai n, .c (.view (vw intC ws))] fun res rows => res = .t (.c (.own 0)) ∧ rows = [⟨3, 1, vw intC (shr n ws)⟩] := by
  have cw := impl_WeightsOk_a ws hl
  obtain ⟨V, hV⟩ : ∃ V, V = vw intC ws := ⟨_, rfl⟩
  have hVl : V.length = ws.length := by rw [hV, vw_length]
  have iV : immE V = true := by rw [hV]; exact vw_imm _ _
  have kV : ∀ y ∈ V, y.length = 1 := by rw [hV]; exact vw_k (c := intC) (k := 1) fun _ => rfl
  have dV : ∀ y ∈ V, y.all dat = true := by rw [hV]; exact vw_dat
  obtain ⟨GV, hGV⟩ : ∃ G, G = vw intC (shr n ws) := ⟨_, rfl⟩
  obtain ⟨A, hA⟩ : ∃ A, A = wsum 0 ws := ⟨_, rfl⟩
  obtain ⟨w, hw⟩ : ∃ w, w = wsOk ws := ⟨_, rfl⟩
  rw [← hV, ← hw] at cw
  rw [← hV, ← hGV]
  refine pcon_run (c := body Try.f66) fits Try.func66 (by kernel_rfl) (by kernel_rfl) (by rfl) (by kernel_rfl) fun g F hg hF => ?_
  cbv
  repeat' (first | (refine callB hg cw rfl (fun R0 hR0 => ?_); cases R0 <;> cbv) | (refine callBP hg cw rfl (fun R0 hR0 => ?_); cases R0 <;> cbv))
  · have e : GV = [] := by rw [hGV, shr, if_neg (by rw [← hw, ← hR0]; simp)]; rfl
    subst e
    exact finNil _ _ hF ⟨rfl, rfl⟩
  repeat' (first | (refine callI hg (impl_signed_a _) rfl (fun R0 hR0 => ?_); cbv) | (refine callIP hg (impl_signed_a _) rfl (fun R0 hR0 => ?_); cbv))
  have hG : shr n ws = shG R0 A 0 ws := by rw [shr, if_pos (by rw [← hw]; simp_all), hA]; simp_all
  refine loop_go hg fits (by kernel_rfl) V (fun x => lc (intC x)) ws hV hl (fun z (s : Int) => [(0, .t (ai (R0))), (1, .t (.c (.view V))), (5, .t (ai (s))), (17, .t (.c (.view V))), (18, .t (ai (g .ln V))), (19, .t (ai (z)))]) (fun z (s : Int) => []) (fun z (s : Int) => True) (fun (s : Int) rest => wsum s rest) (A) 0 hA.symm trivial (Wk.weak (wkG [] ⟨rfl, rfl, rfl, rfl, rfl, rfl, trivial⟩ trivial (by decide) no_lt)) (fun z s B hz h0 hi he => ?_) (fun z s x rest B z0 z1 z2 hx hy h0 hi hc e1 hB => ?_)
  rotate_left
  · cbv; rw [hc]; cbv; refine goX hg _ z0 hy rfl ?_; cbv
    rw [e1, goAdd hg]
    exact hB (_) _ _ ⟨h0, trivial⟩ (Wk.weak (wkG [] ⟨rfl, rfl, rfl, rfl, rfl, rfl, trivial⟩ trivial (by decide) no_lt))
  cbv; rw [he]; cbv
  obtain rfl : A = s := h0.symm
  refine loop_go hg fits (by kernel_rfl) V (fun x => lc (intC x)) ws hV hl (fun z (s : Int × List Int × List (List AC)) => [(0, .t (ai (R0))), (5, .t (ai (A))), (8, .t (.c (.own 0))), (9, .t (ai (s.1))), (27, .t (.c (.view V))), (28, .t (ai (g .ln V))), (29, .t (ai (z)))]) (fun z (s : Int × List Int × List (List AC)) => [.rw ⟨3, 1, s.2.2⟩]) (fun z (s : Int × List Int × List (List AC)) => s.2.2 = vw intC s.2.1 ∧ (s.2.1.length : Int) = z) (fun (s : Int × List Int × List (List AC)) rest => s.2.1 ++ shG R0 A s.1 rest) (shr n ws) (0, [], []) (by simpa using hG.symm) ⟨rfl, rfl⟩ (Wk.weak (wkG [none] ⟨rfl, rfl, rfl, rfl, rfl, rfl, rfl, trivial⟩ ⟨⟨_, rfl, rfl⟩, trivial⟩ (by decide) no_lt)) (fun z s B hz h0 hi he => ?_) (fun z s x rest B z0 z1 z2 hx hy h0 hi hc e1 hB => ?_)
  · obtain ⟨q, out, es⟩ := s
    obtain ⟨i1, i2⟩ := hi
    dsimp only at i1 i2 h0
    cbv; rw [he]; cbv
    obtain rfl : es = GV := by simp only [shG, List.append_nil] at h0; rw [i1, hGV, ← h0]
    exact finRow hF rfl (by rw [hGV]; exact vw_plain _ _)
  · obtain ⟨q, out, es⟩ := s
    obtain ⟨i1, i2⟩ := hi
    dsimp only at i1 i2 h0
    have hel : es.length ≤ 1048576 := by rw [i1, vw_length]; omega
    have pe : plainE es = true := by rw [i1]; exact vw_plain _ _
    cbv; rw [hc]; cbv; refine goX hg _ z0 hy rfl ?_; cbv
    (first | refine callI hg (impl_FloorDiv_a _ _) rfl (fun Q0 hQ0 => ?_) | refine callIP hg (impl_FloorDiv_a _ _) rfl (fun Q0 hQ0 => ?_)); cbv
    (first | refine callI hg (impl_FloorDiv_a _ _) rfl (fun Q1 hQ1 => ?_) | refine callIP hg (impl_FloorDiv_a _ _) rfl (fun Q1 hQ1 => ?_)); cbv
    refine goNA1 hg rfl (by decide) hel ?_
    cbv
    rw [e1, goAp hg]
    have hx2 : g .w .sub .i64 Q0 Q1 = wrap64 (fdv (wrap64 (R0 * wrap64 (q + x))) A - fdv (wrap64 (R0 * q)) A) := by rw [hQ0, hQ1]; simp only [goAdd hg, goMul hg, goSub hg]
    rw [hx2, goAdd hg]
    exact hB ((_, out ++ [_], _)) _ _ ⟨(by simpa [shG] using h0), ⟨by rw [i1, vw_snoc]; rfl, by simp; omega⟩⟩ (Wk.weak (wkG [some _] ⟨rfl, rfl, rfl, rfl, rfl, rfl, rfl, trivial⟩ ⟨⟨_, _, rfl, rfl, rfl, rfl, .inl ⟨rfl, by rw [i1]; exact snoc_plain _ _ rfl⟩⟩, trivial⟩ (by decide) no_lt))
set_option maxHeartbeats 1600000 in
theorem spec_Shares_a (n : Int) (ws : List Int) (hl : ws.length ≤ 1048576) : PCon Try.prog 77 [ai n, .c (.view (vw intC ws))] fun res rows => res = .t (.c (.own 0)) ∧ rows = [⟨3, 1, vw intC (shr n ws)⟩] := by
  have cw := spec_WeightsOk_a ws hl
  obtain ⟨V, hV⟩ : ∃ V, V = vw intC ws := ⟨_, rfl⟩
  have hVl : V.length = ws.length := by rw [hV, vw_length]
  have iV : immE V = true := by rw [hV]; exact vw_imm _ _
  have kV : ∀ y ∈ V, y.length = 1 := by rw [hV]; exact vw_k (c := intC) (k := 1) fun _ => rfl
  have dV : ∀ y ∈ V, y.all dat = true := by rw [hV]; exact vw_dat
  obtain ⟨GV, hGV⟩ : ∃ G, G = vw intC (shr n ws) := ⟨_, rfl⟩
  obtain ⟨A, hA⟩ : ∃ A, A = wsum 0 ws := ⟨_, rfl⟩
  obtain ⟨w, hw⟩ : ∃ w, w = wsOk ws := ⟨_, rfl⟩
  rw [← hV, ← hw] at cw
  rw [← hV, ← hGV]
  refine pcon_run (c := body Try.f77) fits Try.func77 (by kernel_rfl) (by kernel_rfl) (by rfl) (by kernel_rfl) fun g F hg hF => ?_
  cbv
  repeat' (first | (refine callB hg cw rfl (fun R0 hR0 => ?_); cases R0 <;> cbv) | (refine callBP hg cw rfl (fun R0 hR0 => ?_); cases R0 <;> cbv))
  · have e : GV = [] := by rw [hGV, shr, if_neg (by rw [← hw, ← hR0]; simp)]; rfl
    subst e
    exact finRow hF rfl rfl
  refine loop_go hg fits (by kernel_rfl) V (fun x => lc (intC x)) ws hV hl (fun z (s : Int) => [(0, .t (ai (n))), (1, .t (.c (.view V))), (5, .t (.c (.own 0))), (6, .t (ai (s))), (7, .t (ai (z)))]) (fun z (s : Int) => [.rw ⟨3, 1, []⟩]) (fun z (s : Int) => True) (fun (s : Int) rest => wsum s rest) (A) 0 hA.symm trivial (Wk.weak (wkG [some _] ⟨rfl, rfl, rfl, rfl, rfl, trivial⟩ ⟨⟨_, _, rfl, rfl, rfl, rfl, .inl ⟨rfl, rfl⟩⟩, trivial⟩ (by decide) no_lt)) (fun z s B hz h0 hi he => ?_) (fun z s x rest B z0 z1 z2 hx hy h0 hi hc e1 hB => ?_)
  rotate_left
  · cbv; rw [hc]; cbv; refine goX hg _ z0 hy rfl ?_; cbv
    rw [e1, goAdd hg]
    exact hB (_) _ _ ⟨h0, trivial⟩ (Wk.weak (wkG [some _] ⟨rfl, rfl, rfl, rfl, rfl, trivial⟩ ⟨⟨_, _, rfl, rfl, rfl, rfl, .inl ⟨rfl, rfl⟩⟩, trivial⟩ (by decide) no_lt))
  cbv; rw [he]; cbv
  obtain rfl : A = s := h0.symm
  (first | refine callI hg (spec_l02Len_a _) rfl (fun R0 hR0 => ?_) | refine callIP hg (spec_l02Len_a _) rfl (fun R0 hR0 => ?_)); cbv
  have hG : shr n ws = shG R0 A 0 ws := by rw [shr, if_pos (by rw [← hw]; simp_all), hA, hR0]
  refine loop_go hg fits (by kernel_rfl) V (fun x => lc (intC x)) ws hV hl (fun z (s : Int × List Int × List (List AC)) => [(0, .t (ai (R0))), (1, .t (.c (.view V))), (5, .t (.c (.own 0))), (6, .t (ai (A))), (8, .t (ai (s.1))), (9, .t (ai (z)))]) (fun z (s : Int × List Int × List (List AC)) => [.rw ⟨3, 1, s.2.2⟩]) (fun z (s : Int × List Int × List (List AC)) => s.2.2 = vw intC s.2.1 ∧ (s.2.1.length : Int) = z) (fun (s : Int × List Int × List (List AC)) rest => s.2.1 ++ shG R0 A s.1 rest) (shr n ws) (0, [], []) (by simpa using hG.symm) ⟨rfl, rfl⟩ (Wk.weak (wkG [some _] ⟨rfl, rfl, rfl, rfl, rfl, rfl, trivial⟩ ⟨⟨_, _, rfl, rfl, rfl, rfl, .inl ⟨rfl, rfl⟩⟩, trivial⟩ (by decide) no_lt)) (fun z s B hz h0 hi he => ?_) (fun z s x rest B z0 z1 z2 hx hy h0 hi hc e1 hB => ?_)
  · obtain ⟨q, out, es⟩ := s
    obtain ⟨i1, i2⟩ := hi
    dsimp only at i1 i2 h0
    cbv; rw [he]; cbv
    obtain rfl : es = GV := by simp only [shG, List.append_nil] at h0; rw [i1, hGV, ← h0]
    exact finRow hF rfl (by rw [hGV]; exact vw_plain _ _)
  · obtain ⟨q, out, es⟩ := s
    obtain ⟨i1, i2⟩ := hi
    dsimp only at i1 i2 h0
    have hel : es.length ≤ 1048576 := by rw [i1, vw_length]; omega
    have pe : plainE es = true := by rw [i1]; exact vw_plain _ _
    cbv; rw [hc]; cbv; refine goX hg _ z0 hy rfl ?_; cbv
    (first | refine callI hg (spec_FloorDiv_a _ _) rfl (fun Q0 hQ0 => ?_) | refine callIP hg (spec_FloorDiv_a _ _) rfl (fun Q0 hQ0 => ?_)); cbv
    (first | refine callI hg (spec_FloorDiv_a _ _) rfl (fun Q1 hQ1 => ?_) | refine callIP hg (spec_FloorDiv_a _ _) rfl (fun Q1 hQ1 => ?_)); cbv
    refine goNA1 hg rfl (by decide) hel ?_
    cbv
    rw [e1, goAp hg]
    have hx2 : g .w .sub .i64 Q0 Q1 = wrap64 (fdv (wrap64 (R0 * wrap64 (q + x))) A - fdv (wrap64 (R0 * q)) A) := by rw [hQ0, hQ1]; simp only [goAdd hg, goMul hg, goSub hg]
    rw [hx2, goAdd hg]
    exact hB ((_, out ++ [_], _)) _ _ ⟨(by simpa [shG] using h0), ⟨by rw [i1, vw_snoc]; rfl, by simp; omega⟩⟩ (Wk.weak (wkG [some _] ⟨rfl, rfl, rfl, rfl, rfl, rfl, trivial⟩ ⟨⟨_, _, rfl, rfl, rfl, rfl, .inl ⟨rfl, by rw [i1]; exact snoc_plain _ _ rfl⟩⟩, trivial⟩ (by decide) no_lt))
theorem spec_ItemOk_a (x : GItem) : PCon Try.prog 45 [.agg (lc (GItem.c x))] fun res rows => res = .t (abl (itOk x)) ∧ rows = [] := by
  obtain ⟨a0, a1, a2, a3, a4, a5, a6, a7, a8⟩ := x
  refine pcon_run (c := body Try.f45) fits Try.func45 (by kernel_rfl) (by kernel_rfl) (by rfl) (by kernel_rfl) fun g F hg hF => ?_
  cbv
  repeat' (first | (refine callB hg (spec_l01In_r _ _ _) rfl (fun R0 hR0 => ?_); cases R0 <;> cbv) | (refine callBP hg (spec_l01In_r _ _ _) rfl (fun R0 hR0 => ?_); cases R0 <;> cbv))
  all_goals exact fin0b hF (by simp only [itOk]; clear hF hg; simp_all)
theorem impl_ItemOk_a (x : GItem) : PCon Try.prog 63 [.agg (lc (GItem.c x))] fun res rows => res = .t (abl (itOk x)) ∧ rows = [] := by
  obtain ⟨a0, a1, a2, a3, a4, a5, a6, a7, a8⟩ := x
  refine pcon_run (c := body Try.f63) fits Try.func63 (by kernel_rfl) (by kernel_rfl) (by rfl) (by kernel_rfl) fun g F hg hF => ?_
  cbv
  repeat' (first | (refine callB hg (impl_in_r _ _ _) rfl (fun R0 hR0 => ?_); cases R0 <;> cbv) | (refine callBP hg (impl_in_r _ _ _) rfl (fun R0 hR0 => ?_); cases R0 <;> cbv))
  all_goals exact fin0b hF (by simp only [itOk]; clear hF hg; simp_all)
theorem impl_ItemsOk_a (xs : List GItem) (hl : xs.length ≤ 1048576) : PCon Try.prog 50 [.c (.view (vw GItem.c xs))] fun res rows => res = .t (abl (itsOk xs)) ∧ rows = [] := by
  obtain ⟨V, hV⟩ : ∃ V, V = vw GItem.c xs := ⟨_, rfl⟩
  have hVl : V.length = xs.length := by rw [hV, vw_length]
  have iV : immE V = true := by rw [hV]; exact vw_imm _ _
  have kV : ∀ y ∈ V, y.length = 9 := by rw [hV]; exact vw_k (c := GItem.c) (k := 9) fun _ => rfl
  have dV : ∀ y ∈ V, y.all dat = true := by rw [hV]; exact vw_dat
  have hVx : lenI V = (xs.length : Int) := by rw [hV, vw_lenI]
  rw [← hV]
  refine pcon_run (c := body Try.f50) fits Try.func50 (by kernel_rfl) (by kernel_rfl) (by rfl) (by kernel_rfl) fun g F hg hF => ?_
  cbv
  refine loop_go hg fits (by kernel_rfl) V (fun x => lc (GItem.c x)) xs hV hl (fun z (s : Unit) => [(0, .t (.c (.view V))), (5, .t (.c (.view V))), (6, .t (ai (g .ln V))), (7, .t (ai (z)))]) (fun z (s : Unit) => []) (fun z (s : Unit) => True) (fun (s : Unit) rest => rest.all itOk && decide ((xs.length : Int) ≤ 12)) (itsOk xs) () rfl trivial (Wk.weak (wkG [] ⟨rfl, rfl, rfl, rfl, trivial⟩ trivial (by decide) no_lt)) (fun z s B hz h0 hi he => ?_) (fun z s x rest B z0 z1 z2 hx hy h0 hi hc e1 hB => ?_)
  · cbv; rw [he]; cbv
    exact fin0b hF (by rw [goLeq hg, goLn hg, hVx, ← h0]; rfl)
  · cbv; rw [hc]; cbv; refine goX hg _ z0 hy rfl ?_; cbv
    (first | refine callB hg (impl_ItemOk_a x) rfl (fun R0 hR0 => ?_) | refine callBP hg (impl_ItemOk_a x) rfl (fun R0 hR0 => ?_)); cbv
    cases R0 <;> cbv
    · exact fin0b hF (by rw [← h0, List.all_cons, ← hR0]; rfl)
    · rw [e1]
      exact hB (()) _ _ ⟨by rw [← h0, List.all_cons, ← hR0]; rfl, trivial⟩ (Wk.weak (wkG [] ⟨rfl, rfl, rfl, rfl, trivial⟩ trivial (by decide) no_lt))
theorem spec_ItemsOk_a (xs : List GItem) (hl : xs.length ≤ 1048576) : PCon Try.prog 25 [.c (.view (vw GItem.c xs))] fun res rows => res = .t (abl (itsOk xs)) ∧ rows = [] := by
  obtain ⟨V, hV⟩ : ∃ V, V = vw GItem.c xs := ⟨_, rfl⟩
  have hVl : V.length = xs.length := by rw [hV, vw_length]
  have iV : immE V = true := by rw [hV]; exact vw_imm _ _
  have kV : ∀ y ∈ V, y.length = 9 := by rw [hV]; exact vw_k (c := GItem.c) (k := 9) fun _ => rfl
  have dV : ∀ y ∈ V, y.all dat = true := by rw [hV]; exact vw_dat
  have hVx : lenI V = (xs.length : Int) := by rw [hV, vw_lenI]
  rw [← hV]
  refine pcon_run (c := body Try.f25) fits Try.func25 (by kernel_rfl) (by kernel_rfl) (by rfl) (by kernel_rfl) fun g F hg hF => ?_
  cbv
  refine loop_go hg fits (by kernel_rfl) V (fun x => lc (GItem.c x)) xs hV hl (fun z (s : Unit) => [(0, .t (.c (.view V))), (3, .t (ai (z)))]) (fun z (s : Unit) => []) (fun z (s : Unit) => True) (fun (s : Unit) rest => rest.all itOk && decide ((xs.length : Int) ≤ 12)) (itsOk xs) () rfl trivial (Wk.weak (wkG [] ⟨rfl, rfl, trivial⟩ trivial (by decide) no_lt)) (fun z s B hz h0 hi he => ?_) (fun z s x rest B z0 z1 z2 hx hy h0 hi hc e1 hB => ?_)
  · cbv; rw [he]; cbv
    exact fin0b hF (by rw [goLeq hg, goLn hg, hVx, ← h0]; rfl)
  · cbv; rw [hc]; cbv; refine goX hg _ z0 hy rfl ?_; cbv
    (first | refine callB hg (spec_ItemOk_a x) rfl (fun R0 hR0 => ?_) | refine callBP hg (spec_ItemOk_a x) rfl (fun R0 hR0 => ?_)); cbv
    cases R0 <;> cbv
    · exact fin0b hF (by rw [← h0, List.all_cons, ← hR0]; rfl)
    · rw [e1]
      exact hB (()) _ _ ⟨by rw [← h0, List.all_cons, ← hR0]; rfl, trivial⟩ (Wk.weak (wkG [] ⟨rfl, rfl, trivial⟩ trivial (by decide) no_lt))
theorem impl_hypsOf_a (xs : List GItem) (hl : xs.length ≤ 1048576) : PCon Try.prog 48 [.c (.view (vw GItem.c xs))] fun res rows => res = .t (.c (.own 0)) ∧ rows = [⟨3, 1, vw intC (xs.map hyp)⟩] := by
  obtain ⟨V, hV⟩ : ∃ V, V = vw GItem.c xs := ⟨_, rfl⟩
  have hVl : V.length = xs.length := by rw [hV, vw_length]
  have iV : immE V = true := by rw [hV]; exact vw_imm _ _
  have kV : ∀ y ∈ V, y.length = 9 := by rw [hV]; exact vw_k (c := GItem.c) (k := 9) fun _ => rfl
  have dV : ∀ y ∈ V, y.all dat = true := by rw [hV]; exact vw_dat
  obtain ⟨GV, hGV⟩ : ∃ G, G = vw intC (xs.map hyp) := ⟨_, rfl⟩
  rw [← hV, ← hGV]
  refine pcon_run (c := body Try.f48) fits Try.func48 (by kernel_rfl) (by kernel_rfl) (by rfl) (by kernel_rfl) fun g F hg hF => ?_
  cbv
  refine loop_go hg fits (by kernel_rfl) V (fun x => lc (GItem.c x)) xs hV hl (fun z (s : List Int × List (List AC)) => [(3, .t (.c (.own 0))), (6, .t (.c (.view V))), (7, .t (ai (g .ln V))), (8, .t (ai (z)))]) (fun z (s : List Int × List (List AC)) => [.rw ⟨3, 1, s.2⟩]) (fun z (s : List Int × List (List AC)) => s.2 = vw intC s.1 ∧ (s.1.length : Int) = z) (fun (s : List Int × List (List AC)) rest => s.1 ++ rest.map hyp) (xs.map hyp) ([], []) rfl ⟨rfl, rfl⟩ (Wk.weak (wkG [none] ⟨rfl, rfl, rfl, rfl, trivial⟩ ⟨⟨_, rfl, rfl⟩, trivial⟩ (by decide) no_lt)) (fun z s B hz h0 hi he => ?_) (fun z s x rest B z0 z1 z2 hx hy h0 hi hc e1 hB => ?_)
  · obtain ⟨out, es⟩ := s
    obtain ⟨i1, i2⟩ := hi
    dsimp only at i1 i2 h0
    cbv; rw [he]; cbv
    obtain rfl : es = GV := by simp only [List.map_nil, List.append_nil] at h0; rw [i1, hGV, ← h0]
    exact finRow hF rfl (by rw [hGV]; exact vw_plain _ _)
  · obtain ⟨out, es⟩ := s
    obtain ⟨i1, i2⟩ := hi
    dsimp only at i1 i2 h0
    have hel : es.length ≤ 1048576 := by rw [i1, vw_length]; omega
    cbv; rw [hc]; cbv; refine goX hg _ z0 hy rfl ?_; cbv
    (first | refine callI hg (impl_HypOf_a x) rfl (fun Q0 hQ0 => ?_) | refine callIP hg (impl_HypOf_a x) rfl (fun Q0 hQ0 => ?_)); cbv
    refine goNA1 hg rfl (by decide) hel ?_
    cbv
    rw [e1, goAp hg]
    exact hB ((out ++ [_], _)) _ _ ⟨(by simpa [hQ0] using h0), ⟨by rw [i1, vw_snoc, ← hQ0]; rfl, by simp; omega⟩⟩ (Wk.weak (wkG [some _] ⟨rfl, rfl, rfl, rfl, trivial⟩ ⟨⟨_, _, rfl, rfl, rfl, rfl, .inl ⟨rfl, by rw [i1]; exact snoc_plain _ _ rfl⟩⟩, trivial⟩ (by decide) no_lt))
theorem spec_l13Hyps_a (xs : List GItem) (hl : xs.length ≤ 1048576) : PCon Try.prog 47 [.c (.view (vw GItem.c xs))] fun res rows => res = .t (.c (.own 0)) ∧ rows = [⟨3, 1, vw intC (xs.map hyp)⟩] := by
  obtain ⟨V, hV⟩ : ∃ V, V = vw GItem.c xs := ⟨_, rfl⟩
  have hVl : V.length = xs.length := by rw [hV, vw_length]
  have iV : immE V = true := by rw [hV]; exact vw_imm _ _
  have kV : ∀ y ∈ V, y.length = 9 := by rw [hV]; exact vw_k (c := GItem.c) (k := 9) fun _ => rfl
  have dV : ∀ y ∈ V, y.all dat = true := by rw [hV]; exact vw_dat
  obtain ⟨GV, hGV⟩ : ∃ G, G = vw intC (xs.map hyp) := ⟨_, rfl⟩
  rw [← hV, ← hGV]
  refine pcon_run (c := body Try.f47) fits Try.func47 (by kernel_rfl) (by kernel_rfl) (by rfl) (by kernel_rfl) fun g F hg hF => ?_
  cbv
  refine loop_go hg fits (by kernel_rfl) V (fun x => lc (GItem.c x)) xs hV hl (fun z (s : List Int × List (List AC)) => [(0, .t (.c (.view V))), (3, .t (.c (.own 0))), (4, .t (ai (z)))]) (fun z (s : List Int × List (List AC)) => [.rw ⟨3, 1, s.2⟩]) (fun z (s : List Int × List (List AC)) => s.2 = vw intC s.1 ∧ (s.1.length : Int) = z) (fun (s : List Int × List (List AC)) rest => s.1 ++ rest.map hyp) (xs.map hyp) ([], []) rfl ⟨rfl, rfl⟩ (Wk.weak (wkG [some _] ⟨rfl, rfl, rfl, trivial⟩ ⟨⟨_, _, rfl, rfl, rfl, rfl, .inl ⟨rfl, rfl⟩⟩, trivial⟩ (by decide) no_lt)) (fun z s B hz h0 hi he => ?_) (fun z s x rest B z0 z1 z2 hx hy h0 hi hc e1 hB => ?_)
  · obtain ⟨out, es⟩ := s
    obtain ⟨i1, i2⟩ := hi
    dsimp only at i1 i2 h0
    cbv; rw [he]; cbv
    obtain rfl : es = GV := by simp only [List.map_nil, List.append_nil] at h0; rw [i1, hGV, ← h0]
    exact finRow hF rfl (by rw [hGV]; exact vw_plain _ _)
  · obtain ⟨out, es⟩ := s
    obtain ⟨i1, i2⟩ := hi
    dsimp only at i1 i2 h0
    have hel : es.length ≤ 1048576 := by rw [i1, vw_length]; omega
    cbv; rw [hc]; cbv; refine goX hg _ z0 hy rfl ?_; cbv
    (first | refine callI hg (spec_HypOf_a x) rfl (fun Q0 hQ0 => ?_) | refine callIP hg (spec_HypOf_a x) rfl (fun Q0 hQ0 => ?_)); cbv
    refine goNA1 hg rfl (by decide) hel ?_
    cbv
    rw [e1, goAp hg]
    exact hB ((out ++ [_], _)) _ _ ⟨(by simpa [hQ0] using h0), ⟨by rw [i1, vw_snoc, ← hQ0]; rfl, by simp; omega⟩⟩ (Wk.weak (wkG [some _] ⟨rfl, rfl, rfl, trivial⟩ ⟨⟨_, _, rfl, rfl, rfl, rfl, .inl ⟨rfl, by rw [i1]; exact snoc_plain _ _ rfl⟩⟩, trivial⟩ (by decide) no_lt))
theorem impl_weightOf_a (x : GItem) (gr : Bool) : PCon Try.prog 28 [.agg (lc (GItem.c x)), abl gr] fun res rows => res = .t (ai (wgt gr x)) ∧ rows = [] := by
  obtain ⟨a0, a1, a2, a3, a4, a5, a6, a7, a8⟩ := x
  cases gr <;> (refine pcon_run (c := body Try.f28) fits Try.func28 (by kernel_rfl) (by kernel_rfl) (by rfl) (by kernel_rfl) fun g F hg hF => ?_; cbv; exact fin0i hF (by (try rw [goMul hg]); rfl))
theorem impl_upper_a (x : GItem) : PCon Try.prog 40 [.agg (lc (GItem.c x))] fun res rows => res = .t (ai (uppI x)) ∧ rows = [] := by
  obtain ⟨a0, a1, a2, a3, a4, a5, a6, a7, a8⟩ := x
  refine pcon_run (c := body Try.f40) fits Try.func40 (by kernel_rfl) (by kernel_rfl) (by rfl) (by kernel_rfl) fun g F hg hF => ?_
  cbv
  exact fin0i hF (by rw [goMx hg]; rfl)
theorem spec_l13Most_a (x : GItem) : PCon Try.prog 41 [.agg (lc (GItem.c x))] fun res rows => res = .t (ai (uppS x)) ∧ rows = [] := by
  obtain ⟨a0, a1, a2, a3, a4, a5, a6, a7, a8⟩ := x
  refine pcon_run (c := body Try.f41) fits Try.func41 (by kernel_rfl) (by kernel_rfl) (by rfl) (by kernel_rfl) fun g F hg hF => ?_
  cbv
  repeat' (first | (split <;> rename_i hh <;> (try rw [hh]) <;> (try simp only [goLss hg, goLeq hg, goGtr hg, goGeq hg, goEql hg, goNeq hg, goEqlB hg, goNeqB hg, goAdd hg, goSub hg, goMul hg, goQuo hg, goRem hg, goNg hg, goMn hg, goMx hg, beq_iff_eq, bne_iff_ne, beq_eq_false_iff_ne, bne_eq_false_iff_eq, decide_eq_true_eq, decide_eq_false_iff_not, ne_eq, Decidable.not_not] at hh) <;> cbv))
  all_goals exact fin0i hF (by simp only [uppS]; grind)

end Go.Proofs.Ytcohgnecmgcajaa
