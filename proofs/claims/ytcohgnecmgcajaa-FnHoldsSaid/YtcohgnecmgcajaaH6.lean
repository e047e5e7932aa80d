/- Where items of a line begin: the loop over the items. -/
import Derived.Test.YtcohgnecmgcajaaH5
namespace Go.Proofs.Ytcohgnecmgcajaa
open Go.ChangeShapes Go.WideShapes Go.ChangeAt Go.RowKit Am
set_option linter.unusedVariables false
set_option linter.unusedSimpArgs false
set_option maxRecDepth 100000
theorem autN_bd : ∀ xs : List GItem, 0 ≤ autN xs ∧ autN xs ≤ 2 * xs.length
  | [] => by simp [autN]
  | x :: r => by
    have := autN_bd r
    simp only [autN, List.length_cons]
    split <;> split <;> omega
theorem finOI1 {F : List AT → EH → Prop} {Post : AV → List AB → Prop} {eh : EH} {u : Value} {r : Nat} {ab : AB} (hF : F = FinP 0 (fun res h' => ∃ rows, h' = rows.map .live ∧ Post res rows)) (h1 : nth eh r = some (.rw ab)) (hp : plainE ab.es = true) (hpost : Post (.tup [.c (.own 0), .c (.imm u)]) [ab]) : F [.c (.own r), .c (.imm u)] eh := finOI hF h1 hp hpost
theorem vw_ix {ss : List Int} {n : Int} (h : (ss.length : Int) = n) : lenI (vw intC ss) = n ∧ ∀ k : Int, 0 ≤ k → k < n → ∃ v : Int, (vw intC ss)[k.toNat]? = some [.imm (.int .i64 v)] :=
  ⟨by rw [vw_lenI]; exact h, fun k k0 k1 => ⟨_, vw_at (c := intC) (List.getElem?_eq_getElem (show k.toNat < ss.length by omega))⟩⟩
set_option maxHeartbeats 8000000 in
theorem spec_l15Places_a (xs : List GItem) (ys : List Int) (gap inner js : Int) (hx : xs.length ≤ 1048576) (hy : ys.length ≤ 1048576) : PCon Try.prog 57 [.c (.view (vw GItem.c xs)), .c (.view (vw intC ys)), ai gap, ai inner, ai js] fun res rows => ∃ (zs : List Int) (at_ : Int), zs.length ≤ 1048576 ∧ res = .tup [.c (.own 0), ai at_] ∧ rows = [⟨3, 1, vw intC zs⟩] := by
  have cK := spec_l15Ok_a xs ys gap inner hx hy
  have cF := spec_FreeOf_a xs ys gap inner hx hy
  have cA := spec_AutosIn_a xs hx
  have cS := fun free (h : (xs.length : Int) ≤ 12) => spec_l15Spaces_a free xs.length js (by omega) h
  have cE := evenly_ix
  have cL := fun free => spec_LeadOf_a free xs.length js
  obtain ⟨A, hA⟩ : ∃ V, V = autN xs := ⟨_, rfl⟩
  obtain ⟨NX, hNX⟩ : ∃ V : Int, V = (xs.length : Int) := ⟨_, rfl⟩
  have hAb := autN_bd xs
  rw [← hA] at hAb cA
  rw [← hNX] at hAb
  simp only [← hNX] at cS cL
  obtain ⟨V, hV⟩ : ∃ V, V = vw GItem.c xs := ⟨_, rfl⟩
  have hVl : V.length = xs.length := by rw [hV, vw_length]
  have iV : immE V = true := by rw [hV]; exact vw_imm _ _
  have kV : ∀ y ∈ V, y.length = 9 := by rw [hV]; exact vw_k (c := GItem.c) (k := 9) fun _ => rfl
  have dV : ∀ y ∈ V, y.all dat = true := by rw [hV]; exact vw_dat
  obtain ⟨W, hW⟩ : ∃ W, W = vw intC ys := ⟨_, rfl⟩
  have hWl : W.length = ys.length := by rw [hW, vw_length]
  have iW : immE W = true := by rw [hW]; exact vw_imm _ _
  have kW : ∀ y ∈ W, y.length = 1 := by rw [hW]; exact vw_k (c := intC) (k := 1) fun _ => rfl
  have dW : ∀ y ∈ W, y.all dat = true := by rw [hW]; exact vw_dat
  have hVn : lenI V = NX := by rw [hV, vw_lenI, hNX]
  rw [← hV, ← hW] at cK cF
  rw [← hV] at cA
  rw [← hV, ← hW]
  refine pcon_run (c := body Try.f57) fits Try.func57 (by kernel_rfl) (by kernel_rfl) (by rfl) (by kernel_rfl) fun g F hg hF => ?_
  have eLn : g .ln V = NX := by rw [goLn hg, hVn]
  have k12 : itsOk xs = true → NX ≤ 12 := fun h => by have := (itsOk_mem h).2; omega
  have kyl : ys.length = xs.length → (ys.length : Int) = NX := fun h => by omega
  have kW : ∀ z : Int, 0 ≤ z → z < NX → ys.length = xs.length → ∃ w : Int, W[z.toNat]? = some (lc (intC w)) := fun z z0 z1 h => ⟨_, by rw [hW]; exact vw_at (List.getElem?_eq_getElem (show z.toNat < ys.length by omega))⟩
  have h00 : 0 ≤ NX := by omega
  have kA : ∀ r : List GItem, 0 ≤ autN r := fun r => (autN_bd r).1
  cbv
  refine callC hg (pcall_pure cK rfl fun res rows hq => ?_)
  obtain ⟨⟨b, hb, rfl⟩, rfl⟩ := hq
  refine ⟨[], rfl, ?_⟩
  cbv
  cases b <;> cbv
  · exact finOI hF rfl rfl ⟨[], _, by decide, rfl, rfl⟩
  obtain ⟨hok, hyl⟩ := hb rfl
  have h12 : NX ≤ 12 := k12 hok
  have kW := fun z z0 z1 => kW z z0 z1 hyl
  have cS := fun free => cS free h12
  refine callC hg (pcall_pure cF rfl fun res rows hq => ?_)
  obtain ⟨⟨fr, rfl⟩, rfl⟩ := hq
  refine ⟨[], rfl, ?_⟩
  cbv
  (first | refine callI hg (spec_l02Len_a fr) rfl (fun FREE hFREE => ?_) | refine callIP hg (spec_l02Len_a fr) rfl (fun FREE hFREE => ?_)); cbv
  clear hFREE
  refine call0 hg cA rfl rfl ?_
  cbv
  refine goMkI hg (by decide) hAb.1 (by omega) ?_
  cbv
  generalize hG0 : g .rp A _ = G
  rw [eLn]
  refine goMkI hg (by decide) h00 (by omega) ?_
  cbv
  generalize hS0 : g .rp NX _ = SP
  have hG : G = vw intC (List.replicate A.toNat 0) := by rw [← hG0, goRp hg, vw_rep]; rfl
  have hSP : SP = vw intC (List.replicate NX.toNat 0) := by rw [← hS0, goRp hg, vw_rep]; rfl
  have pG : plainE G = true := by rw [hG]; exact vw_plain _ _
  have pSP : plainE SP = true := by rw [hSP]; exact vw_plain _ _
  have xG : lenI G = A ∧ ∀ k : Int, 0 ≤ k → k < A → ∃ v : Int, G[k.toNat]? = some [.imm (.int .i64 v)] := ⟨by rw [hG, vw_lenI, List.length_replicate]; omega, fun k k0 k1 => ⟨0, by rw [hG]; exact vw_at (c := intC) (x := 0) (by rw [List.getElem?_replicate, if_pos (by omega)])⟩⟩
  have xSP : lenI SP = NX ∧ ∀ k : Int, 0 ≤ k → k < NX → ∃ v : Int, SP[k.toNat]? = some [.imm (.int .i64 v)] := ⟨by rw [hSP, vw_lenI, List.length_replicate]; omega, fun k k0 k1 => ⟨0, by rw [hSP]; exact vw_at (c := intC) (x := 0) (by rw [List.getElem?_replicate, if_pos (by omega)])⟩⟩
  clear hG hSP hG0 hS0
  have tA : g .q .gtr A 0 = decide (0 < A) := by rw [goGtr hg]
  have tA0 : g .q .eql A 0 = decide (A = 0) := by rw [goEql hg]; exact (Bool.beq_eq_decide_eq _ _)
  by_cases hA0 : A = 0
  · have hnA : ¬ 0 < A := by omega
    cbv
    rw [tA, decide_eq_false hnA]
    cbv
    rw [tA0, decide_eq_true hA0]
    cbv
    rw [eLn]
    refine callC hg (pcall_pure (cL FREE) rfl fun res rows hq => ?_)
    obtain ⟨⟨at0, rfl⟩, rfl⟩ := hq
    refine ⟨[], rfl, ?_⟩
    cbv
    rw [eLn]
    refine callRowX hg (cS FREE) (fun ab ⟨ys, _, h⟩ => by rw [h]; exact vw_imm _ _) (dat_data rfl) fun ab hab => ?_
    obtain ⟨ss, hss, rfl⟩ := hab
    obtain ⟨SP2, hSP2⟩ : ∃ S, S = vw intC ss := ⟨_, rfl⟩
    have pSP2 : plainE SP2 = true := by rw [hSP2]; exact vw_plain _ _
    have xSP2 : lenI SP2 = NX ∧ ∀ k : Int, 0 ≤ k → k < NX → ∃ v : Int, SP2[k.toNat]? = some [.imm (.int .i64 v)] := by rw [hSP2]; exact vw_ix hss
    rw [← hSP2]
    cbv
    refine loop_go hg fits (by kernel_rfl) V (fun x => lc (GItem.c x)) xs hV hx (fun z (s : Int × Int × List Int × List (List AC)) => [(0, .t (.c (.view V))), (1, .t (.c (.view W))), (2, .t (ai (gap))), (12, .t (.c (.own 0))), (15, .t (.c (.own 1))), (16, .t (ai (s.1))), (17, .t (.c (.own 2))), (18, .t (ai (s.2.1))), (19, .t (ai (z)))]) (fun z (s : Int × Int × List Int × List (List AC)) => [.rw ⟨3, 1, s.2.2.2⟩, .rw ⟨3, 1, G⟩, .rw ⟨3, 1, SP2⟩]) (fun z (s : Int × Int × List Int × List (List AC)) => s.2.2.2 = vw intC s.2.2.1 ∧ (s.2.2.1.length : Int) ≤ z ∧ 0 ≤ s.2.1) (fun (s : Int × Int × List Int × List (List AC)) rest => s.2.1 + autN rest) (A) (at0, 0, [], []) (by rw [hA]; exact Int.zero_add _) ⟨rfl, by simp, by simp⟩ (Wk.weak (wkG [some 0, some 1, some 3] ⟨rfl, rfl, rfl, rfl, rfl, rfl, rfl, rfl, rfl, trivial⟩ ⟨⟨_, _, rfl, rfl, rfl, rfl, .inl ⟨rfl, rfl⟩⟩, ⟨_, _, rfl, rfl, rfl, rfl, .inl ⟨rfl, pG⟩⟩, ⟨_, _, rfl, rfl, rfl, rfl, .inl ⟨rfl, pSP2⟩⟩, trivial⟩ (by decide) no_lt)) (fun z s B hz h0 hi he => ?_) (fun z s x rest B z0 z1 z2 hx hy h0 hi hc e1 hB => ?_)
    · obtain ⟨at_, k, zs, E⟩ := s
      obtain ⟨hE, hzl, hk0⟩ := hi
      dsimp only at hE hzl hk0 h0
      have pE : plainE E = true := by rw [hE]; exact vw_plain _ _
      have hzl6 : zs.length ≤ 1048576 := by omega
      cbv; rw [he]; cbv
      exact finOI hF rfl pE ⟨zs, _, hzl6, rfl, by rw [hE]⟩
    obtain ⟨at_, k, zs, E⟩ := s
    obtain ⟨hE, hzl, hk0⟩ := hi
    dsimp only at hE hzl hk0 h0
    have hzV : z < NX := by rw [hVl] at *; omega
    obtain ⟨w, hw⟩ := kW z z0 hzV
    obtain ⟨sp, hsp⟩ := xSP2.2 z z0 hzV
    have hspl : z < lenI SP2 := by rw [xSP2.1]; exact hzV
    have hE6 : E.length ≤ 1048576 := by rw [hE, vw_length]; omega
    have aE : ∀ v : Int, E ++ [[.imm (.int .i64 v)]] = vw intC (zs ++ [v]) := fun v => by rw [vw_snocD, hE]; rfl
    have lE : ∀ v : Int, ((zs ++ [v]).length : Int) ≤ z + 1 := fun v => by simp; omega
    have rA := kA rest
    obtain ⟨k1, hk1⟩ : ∃ t, t = k + 1 := ⟨_, rfl⟩
    obtain ⟨k2, hk2⟩ : ∃ t, t = k1 + 1 := ⟨_, rfl⟩
    have hkA : k ≤ A := by have := kA (x :: rest); omega
    have ek1 : g .w .add .i64 k 1 = k1 := by rw [goAdd hg, hk1]; exact wr1 (by omega) (by omega)
    have ek2 : g .w .add .i64 k1 1 = k2 := by rw [goAdd hg, hk2]; exact wr1 (by omega) (by omega)
    have xk := fun (h : k < A) => xG.2 k hk0 h
    have xk1 := fun (h : k1 < A) => xG.2 k1 (by omega) h
    have lk : k < A → k < lenI G := fun h => by rw [xG.1]; exact h
    have lk1 : k1 < A → k1 < lenI G := fun h => by rw [xG.1]; exact h
    have hk10 : 0 ≤ k1 := by omega
    have hk20 : 0 ≤ k2 := by omega
    obtain ⟨qz, hqz⟩ : ∃ q, q = g .q .lss (g .w .add .i64 z 1) (g .ln V) := ⟨_, rfl⟩
    obtain ⟨y0, y1, y2, y3, y4, y5, y6, y7, y8⟩ := x
    cases y7 <;> cases y8
    · have hh : k + (0 + autN rest) = A := by rw [← h0]; simp [autN]
      cbv; rw [hc]; cbv; refine goX hg _ z0 hy rfl ?_; cbv
      repeat' first
        | (refine goX hg _ z0 hy rfl ?_; cbv)
        | (refine goX hg _ z0 hw rfl ?_; cbv)
        | (refine goY hg hk0 (lk gk) fun j hj hjl => ?_; cbv; refine ⟨_, by rw [hj]; exact vk, ?_⟩; cbv; clear hj hjl)
        | (refine goY hg hk10 (lk1 gk1) fun j hj hjl => ?_; cbv; refine ⟨_, by rw [hj]; exact vk1, ?_⟩; cbv; clear hj hjl)
        | (rw [ek1]; cbv)
        | (rw [ek2]; cbv)
        | (refine goNA1 hg rfl (by decide) hE6 ?_; cbv)
        | (rw [← hqz]; cases qz <;> cbv)
        | (refine goY hg z0 hspl fun j hj hjl => ?_; cbv; refine ⟨_, by rw [hj]; exact hsp, ?_⟩; cbv; clear hj hjl)
      all_goals
        rw [e1]
        simp only [goAp hg]
        exact hB ((_, k, zs ++ [_], _)) _ _ ⟨(by rw [← h0]; simp [autN]; try omega), ⟨aE _, lE _, hk0⟩⟩ (Wk.weak (wkG [some 4, some 1, some 2] ⟨rfl, rfl, rfl, rfl, rfl, rfl, rfl, rfl, rfl, trivial⟩ ⟨⟨_, _, rfl, rfl, rfl, rfl, .inl ⟨rfl, (aE _).symm ▸ vw_plain _ _⟩⟩, ⟨_, _, rfl, rfl, rfl, rfl, .inl ⟨rfl, pG⟩⟩, ⟨_, _, rfl, rfl, rfl, rfl, .inl ⟨rfl, pSP2⟩⟩, trivial⟩ (by decide) no_lt))
    · have hh : k + (1 + autN rest) = A := by rw [← h0]; simp [autN]
      have gk : k < A := by omega
      obtain ⟨vk_, vk⟩ := xk gk
      cbv; rw [hc]; cbv; refine goX hg _ z0 hy rfl ?_; cbv
      repeat' first
        | (refine goX hg _ z0 hy rfl ?_; cbv)
        | (refine goX hg _ z0 hw rfl ?_; cbv)
        | (refine goY hg hk0 (lk gk) fun j hj hjl => ?_; cbv; refine ⟨_, by rw [hj]; exact vk, ?_⟩; cbv; clear hj hjl)
        | (refine goY hg hk10 (lk1 gk1) fun j hj hjl => ?_; cbv; refine ⟨_, by rw [hj]; exact vk1, ?_⟩; cbv; clear hj hjl)
        | (rw [ek1]; cbv)
        | (rw [ek2]; cbv)
        | (refine goNA1 hg rfl (by decide) hE6 ?_; cbv)
        | (rw [← hqz]; cases qz <;> cbv)
        | (refine goY hg z0 hspl fun j hj hjl => ?_; cbv; refine ⟨_, by rw [hj]; exact hsp, ?_⟩; cbv; clear hj hjl)
      all_goals
        rw [e1]
        simp only [goAp hg]
        exact hB ((_, k1, zs ++ [_], _)) _ _ ⟨(by rw [← h0]; simp [autN]; try omega), ⟨aE _, lE _, hk10⟩⟩ (Wk.weak (wkG [some 4, some 1, some 2] ⟨rfl, rfl, rfl, rfl, rfl, rfl, rfl, rfl, rfl, trivial⟩ ⟨⟨_, _, rfl, rfl, rfl, rfl, .inl ⟨rfl, (aE _).symm ▸ vw_plain _ _⟩⟩, ⟨_, _, rfl, rfl, rfl, rfl, .inl ⟨rfl, pG⟩⟩, ⟨_, _, rfl, rfl, rfl, rfl, .inl ⟨rfl, pSP2⟩⟩, trivial⟩ (by decide) no_lt))
    · have hh : k + (1 + autN rest) = A := by rw [← h0]; simp [autN]
      have gk : k < A := by omega
      obtain ⟨vk_, vk⟩ := xk gk
      cbv; rw [hc]; cbv; refine goX hg _ z0 hy rfl ?_; cbv
      repeat' first
        | (refine goX hg _ z0 hy rfl ?_; cbv)
        | (refine goX hg _ z0 hw rfl ?_; cbv)
        | (refine goY hg hk0 (lk gk) fun j hj hjl => ?_; cbv; refine ⟨_, by rw [hj]; exact vk, ?_⟩; cbv; clear hj hjl)
        | (refine goY hg hk10 (lk1 gk1) fun j hj hjl => ?_; cbv; refine ⟨_, by rw [hj]; exact vk1, ?_⟩; cbv; clear hj hjl)
        | (rw [ek1]; cbv)
        | (rw [ek2]; cbv)
        | (refine goNA1 hg rfl (by decide) hE6 ?_; cbv)
        | (rw [← hqz]; cases qz <;> cbv)
        | (refine goY hg z0 hspl fun j hj hjl => ?_; cbv; refine ⟨_, by rw [hj]; exact hsp, ?_⟩; cbv; clear hj hjl)
      all_goals
        rw [e1]
        simp only [goAp hg]
        exact hB ((_, k1, zs ++ [_], _)) _ _ ⟨(by rw [← h0]; simp [autN]; try omega), ⟨aE _, lE _, hk10⟩⟩ (Wk.weak (wkG [some 4, some 1, some 2] ⟨rfl, rfl, rfl, rfl, rfl, rfl, rfl, rfl, rfl, trivial⟩ ⟨⟨_, _, rfl, rfl, rfl, rfl, .inl ⟨rfl, (aE _).symm ▸ vw_plain _ _⟩⟩, ⟨_, _, rfl, rfl, rfl, rfl, .inl ⟨rfl, pG⟩⟩, ⟨_, _, rfl, rfl, rfl, rfl, .inl ⟨rfl, pSP2⟩⟩, trivial⟩ (by decide) no_lt))
    · have hh : k + (2 + autN rest) = A := by rw [← h0]; simp [autN]
      have gk : k < A := by omega
      obtain ⟨vk_, vk⟩ := xk gk
      have gk1 : k1 < A := by omega
      obtain ⟨vk1_, vk1⟩ := xk1 gk1
      cbv; rw [hc]; cbv; refine goX hg _ z0 hy rfl ?_; cbv
      repeat' first
        | (refine goX hg _ z0 hy rfl ?_; cbv)
        | (refine goX hg _ z0 hw rfl ?_; cbv)
        | (refine goY hg hk0 (lk gk) fun j hj hjl => ?_; cbv; refine ⟨_, by rw [hj]; exact vk, ?_⟩; cbv; clear hj hjl)
        | (refine goY hg hk10 (lk1 gk1) fun j hj hjl => ?_; cbv; refine ⟨_, by rw [hj]; exact vk1, ?_⟩; cbv; clear hj hjl)
        | (rw [ek1]; cbv)
        | (rw [ek2]; cbv)
        | (refine goNA1 hg rfl (by decide) hE6 ?_; cbv)
        | (rw [← hqz]; cases qz <;> cbv)
        | (refine goY hg z0 hspl fun j hj hjl => ?_; cbv; refine ⟨_, by rw [hj]; exact hsp, ?_⟩; cbv; clear hj hjl)
      all_goals
        rw [e1]
        simp only [goAp hg]
        exact hB ((_, k2, zs ++ [_], _)) _ _ ⟨(by rw [← h0]; simp [autN]; try omega), ⟨aE _, lE _, hk20⟩⟩ (Wk.weak (wkG [some 4, some 1, some 2] ⟨rfl, rfl, rfl, rfl, rfl, rfl, rfl, rfl, rfl, trivial⟩ ⟨⟨_, _, rfl, rfl, rfl, rfl, .inl ⟨rfl, (aE _).symm ▸ vw_plain _ _⟩⟩, ⟨_, _, rfl, rfl, rfl, rfl, .inl ⟨rfl, pG⟩⟩, ⟨_, _, rfl, rfl, rfl, rfl, .inl ⟨rfl, pSP2⟩⟩, trivial⟩ (by decide) no_lt))
  · have hpA : 0 < A := by omega
    cbv
    rw [tA, decide_eq_true hpA]
    cbv
    cases qf : g .q .gtr FREE 0 <;> cbv
    · rw [tA0, decide_eq_false hA0]
      cbv
      refine loop_go hg fits (by kernel_rfl) V (fun x => lc (GItem.c x)) xs hV hx (fun z (s : Int × Int × List Int × List (List AC)) => [(0, .t (.c (.view V))), (1, .t (.c (.view W))), (2, .t (ai (gap))), (12, .t (.c (.own 0))), (15, .t (.c (.own 1))), (16, .t (ai (s.1))), (17, .t (.c (.own 2))), (18, .t (ai (s.2.1))), (19, .t (ai (z)))]) (fun z (s : Int × Int × List Int × List (List AC)) => [.rw ⟨3, 1, s.2.2.2⟩, .rw ⟨3, 1, G⟩, .rw ⟨3, 1, SP⟩]) (fun z (s : Int × Int × List Int × List (List AC)) => s.2.2.2 = vw intC s.2.2.1 ∧ (s.2.2.1.length : Int) ≤ z ∧ 0 ≤ s.2.1) (fun (s : Int × Int × List Int × List (List AC)) rest => s.2.1 + autN rest) (A) (0, 0, [], []) (by rw [hA]; exact Int.zero_add _) ⟨rfl, by simp, by simp⟩ (Wk.weak (wkG [some 0, some 1, some 2] ⟨rfl, rfl, rfl, rfl, rfl, rfl, rfl, rfl, rfl, trivial⟩ ⟨⟨_, _, rfl, rfl, rfl, rfl, .inl ⟨rfl, rfl⟩⟩, ⟨_, _, rfl, rfl, rfl, rfl, .inl ⟨rfl, pG⟩⟩, ⟨_, _, rfl, rfl, rfl, rfl, .inl ⟨rfl, pSP⟩⟩, trivial⟩ (by decide) no_lt)) (fun z s B hz h0 hi he => ?_) (fun z s x rest B z0 z1 z2 hx hy h0 hi hc e1 hB => ?_)
      · obtain ⟨at_, k, zs, E⟩ := s
        obtain ⟨hE, hzl, hk0⟩ := hi
        dsimp only at hE hzl hk0 h0
        have pE : plainE E = true := by rw [hE]; exact vw_plain _ _
        have hzl6 : zs.length ≤ 1048576 := by omega
        cbv; rw [he]; cbv
        exact finOI hF rfl pE ⟨zs, _, hzl6, rfl, by rw [hE]⟩
      obtain ⟨at_, k, zs, E⟩ := s
      obtain ⟨hE, hzl, hk0⟩ := hi
      dsimp only at hE hzl hk0 h0
      have hzV : z < NX := by rw [hVl] at *; omega
      obtain ⟨w, hw⟩ := kW z z0 hzV
      obtain ⟨sp, hsp⟩ := xSP.2 z z0 hzV
      have hspl : z < lenI SP := by rw [xSP.1]; exact hzV
      have hE6 : E.length ≤ 1048576 := by rw [hE, vw_length]; omega
      have aE : ∀ v : Int, E ++ [[.imm (.int .i64 v)]] = vw intC (zs ++ [v]) := fun v => by rw [vw_snocD, hE]; rfl
      have lE : ∀ v : Int, ((zs ++ [v]).length : Int) ≤ z + 1 := fun v => by simp; omega
      have rA := kA rest
      obtain ⟨k1, hk1⟩ : ∃ t, t = k + 1 := ⟨_, rfl⟩
      obtain ⟨k2, hk2⟩ : ∃ t, t = k1 + 1 := ⟨_, rfl⟩
      have hkA : k ≤ A := by have := kA (x :: rest); omega
      have ek1 : g .w .add .i64 k 1 = k1 := by rw [goAdd hg, hk1]; exact wr1 (by omega) (by omega)
      have ek2 : g .w .add .i64 k1 1 = k2 := by rw [goAdd hg, hk2]; exact wr1 (by omega) (by omega)
      have xk := fun (h : k < A) => xG.2 k hk0 h
      have xk1 := fun (h : k1 < A) => xG.2 k1 (by omega) h
      have lk : k < A → k < lenI G := fun h => by rw [xG.1]; exact h
      have lk1 : k1 < A → k1 < lenI G := fun h => by rw [xG.1]; exact h
      have hk10 : 0 ≤ k1 := by omega
      have hk20 : 0 ≤ k2 := by omega
      obtain ⟨qz, hqz⟩ : ∃ q, q = g .q .lss (g .w .add .i64 z 1) (g .ln V) := ⟨_, rfl⟩
      obtain ⟨y0, y1, y2, y3, y4, y5, y6, y7, y8⟩ := x
      cases y7 <;> cases y8
      · have hh : k + (0 + autN rest) = A := by rw [← h0]; simp [autN]
        cbv; rw [hc]; cbv; refine goX hg _ z0 hy rfl ?_; cbv
        repeat' first
          | (refine goX hg _ z0 hy rfl ?_; cbv)
          | (refine goX hg _ z0 hw rfl ?_; cbv)
          | (refine goY hg hk0 (lk gk) fun j hj hjl => ?_; cbv; refine ⟨_, by rw [hj]; exact vk, ?_⟩; cbv; clear hj hjl)
          | (refine goY hg hk10 (lk1 gk1) fun j hj hjl => ?_; cbv; refine ⟨_, by rw [hj]; exact vk1, ?_⟩; cbv; clear hj hjl)
          | (rw [ek1]; cbv)
          | (rw [ek2]; cbv)
          | (refine goNA1 hg rfl (by decide) hE6 ?_; cbv)
          | (rw [← hqz]; cases qz <;> cbv)
          | (refine goY hg z0 hspl fun j hj hjl => ?_; cbv; refine ⟨_, by rw [hj]; exact hsp, ?_⟩; cbv; clear hj hjl)
        all_goals
          rw [e1]
          simp only [goAp hg]
          exact hB ((_, k, zs ++ [_], _)) _ _ ⟨(by rw [← h0]; simp [autN]; try omega), ⟨aE _, lE _, hk0⟩⟩ (Wk.weak (wkG [some 4, some 1, some 2] ⟨rfl, rfl, rfl, rfl, rfl, rfl, rfl, rfl, rfl, trivial⟩ ⟨⟨_, _, rfl, rfl, rfl, rfl, .inl ⟨rfl, (aE _).symm ▸ vw_plain _ _⟩⟩, ⟨_, _, rfl, rfl, rfl, rfl, .inl ⟨rfl, pG⟩⟩, ⟨_, _, rfl, rfl, rfl, rfl, .inl ⟨rfl, pSP⟩⟩, trivial⟩ (by decide) no_lt))
      · have hh : k + (1 + autN rest) = A := by rw [← h0]; simp [autN]
        have gk : k < A := by omega
        obtain ⟨vk_, vk⟩ := xk gk
        cbv; rw [hc]; cbv; refine goX hg _ z0 hy rfl ?_; cbv
        repeat' first
          | (refine goX hg _ z0 hy rfl ?_; cbv)
          | (refine goX hg _ z0 hw rfl ?_; cbv)
          | (refine goY hg hk0 (lk gk) fun j hj hjl => ?_; cbv; refine ⟨_, by rw [hj]; exact vk, ?_⟩; cbv; clear hj hjl)
          | (refine goY hg hk10 (lk1 gk1) fun j hj hjl => ?_; cbv; refine ⟨_, by rw [hj]; exact vk1, ?_⟩; cbv; clear hj hjl)
          | (rw [ek1]; cbv)
          | (rw [ek2]; cbv)
          | (refine goNA1 hg rfl (by decide) hE6 ?_; cbv)
          | (rw [← hqz]; cases qz <;> cbv)
          | (refine goY hg z0 hspl fun j hj hjl => ?_; cbv; refine ⟨_, by rw [hj]; exact hsp, ?_⟩; cbv; clear hj hjl)
        all_goals
          rw [e1]
          simp only [goAp hg]
          exact hB ((_, k1, zs ++ [_], _)) _ _ ⟨(by rw [← h0]; simp [autN]; try omega), ⟨aE _, lE _, hk10⟩⟩ (Wk.weak (wkG [some 4, some 1, some 2] ⟨rfl, rfl, rfl, rfl, rfl, rfl, rfl, rfl, rfl, trivial⟩ ⟨⟨_, _, rfl, rfl, rfl, rfl, .inl ⟨rfl, (aE _).symm ▸ vw_plain _ _⟩⟩, ⟨_, _, rfl, rfl, rfl, rfl, .inl ⟨rfl, pG⟩⟩, ⟨_, _, rfl, rfl, rfl, rfl, .inl ⟨rfl, pSP⟩⟩, trivial⟩ (by decide) no_lt))
      · have hh : k + (1 + autN rest) = A := by rw [← h0]; simp [autN]
        have gk : k < A := by omega
        obtain ⟨vk_, vk⟩ := xk gk
        cbv; rw [hc]; cbv; refine goX hg _ z0 hy rfl ?_; cbv
        repeat' first
          | (refine goX hg _ z0 hy rfl ?_; cbv)
          | (refine goX hg _ z0 hw rfl ?_; cbv)
          | (refine goY hg hk0 (lk gk) fun j hj hjl => ?_; cbv; refine ⟨_, by rw [hj]; exact vk, ?_⟩; cbv; clear hj hjl)
          | (refine goY hg hk10 (lk1 gk1) fun j hj hjl => ?_; cbv; refine ⟨_, by rw [hj]; exact vk1, ?_⟩; cbv; clear hj hjl)
          | (rw [ek1]; cbv)
          | (rw [ek2]; cbv)
          | (refine goNA1 hg rfl (by decide) hE6 ?_; cbv)
          | (rw [← hqz]; cases qz <;> cbv)
          | (refine goY hg z0 hspl fun j hj hjl => ?_; cbv; refine ⟨_, by rw [hj]; exact hsp, ?_⟩; cbv; clear hj hjl)
        all_goals
          rw [e1]
          simp only [goAp hg]
          exact hB ((_, k1, zs ++ [_], _)) _ _ ⟨(by rw [← h0]; simp [autN]; try omega), ⟨aE _, lE _, hk10⟩⟩ (Wk.weak (wkG [some 4, some 1, some 2] ⟨rfl, rfl, rfl, rfl, rfl, rfl, rfl, rfl, rfl, trivial⟩ ⟨⟨_, _, rfl, rfl, rfl, rfl, .inl ⟨rfl, (aE _).symm ▸ vw_plain _ _⟩⟩, ⟨_, _, rfl, rfl, rfl, rfl, .inl ⟨rfl, pG⟩⟩, ⟨_, _, rfl, rfl, rfl, rfl, .inl ⟨rfl, pSP⟩⟩, trivial⟩ (by decide) no_lt))
      · have hh : k + (2 + autN rest) = A := by rw [← h0]; simp [autN]
        have gk : k < A := by omega
        obtain ⟨vk_, vk⟩ := xk gk
        have gk1 : k1 < A := by omega
        obtain ⟨vk1_, vk1⟩ := xk1 gk1
        cbv; rw [hc]; cbv; refine goX hg _ z0 hy rfl ?_; cbv
        repeat' first
          | (refine goX hg _ z0 hy rfl ?_; cbv)
          | (refine goX hg _ z0 hw rfl ?_; cbv)
          | (refine goY hg hk0 (lk gk) fun j hj hjl => ?_; cbv; refine ⟨_, by rw [hj]; exact vk, ?_⟩; cbv; clear hj hjl)
          | (refine goY hg hk10 (lk1 gk1) fun j hj hjl => ?_; cbv; refine ⟨_, by rw [hj]; exact vk1, ?_⟩; cbv; clear hj hjl)
          | (rw [ek1]; cbv)
          | (rw [ek2]; cbv)
          | (refine goNA1 hg rfl (by decide) hE6 ?_; cbv)
          | (rw [← hqz]; cases qz <;> cbv)
          | (refine goY hg z0 hspl fun j hj hjl => ?_; cbv; refine ⟨_, by rw [hj]; exact hsp, ?_⟩; cbv; clear hj hjl)
        all_goals
          rw [e1]
          simp only [goAp hg]
          exact hB ((_, k2, zs ++ [_], _)) _ _ ⟨(by rw [← h0]; simp [autN]; try omega), ⟨aE _, lE _, hk20⟩⟩ (Wk.weak (wkG [some 4, some 1, some 2] ⟨rfl, rfl, rfl, rfl, rfl, rfl, rfl, rfl, rfl, trivial⟩ ⟨⟨_, _, rfl, rfl, rfl, rfl, .inl ⟨rfl, (aE _).symm ▸ vw_plain _ _⟩⟩, ⟨_, _, rfl, rfl, rfl, rfl, .inl ⟨rfl, pG⟩⟩, ⟨_, _, rfl, rfl, rfl, rfl, .inl ⟨rfl, pSP⟩⟩, trivial⟩ (by decide) no_lt))
    · obtain ⟨Y1, i1, l1, x1, c1⟩ := cE FREE A hAb.1 (by omega)
      have pY1 := imm_plainE i1
      have xY1 := And.intro l1 x1
      refine callRow hg c1 (dat_data rfl) i1 ?_
      cbv
      rw [tA0, decide_eq_false hA0]
      cbv
      refine loop_go hg fits (by kernel_rfl) V (fun x => lc (GItem.c x)) xs hV hx (fun z (s : Int × Int × List Int × List (List AC)) => [(0, .t (.c (.view V))), (1, .t (.c (.view W))), (2, .t (ai (gap))), (12, .t (.c (.own 0))), (15, .t (.c (.own 1))), (16, .t (ai (s.1))), (17, .t (.c (.own 2))), (18, .t (ai (s.2.1))), (19, .t (ai (z)))]) (fun z (s : Int × Int × List Int × List (List AC)) => [.rw ⟨3, 1, s.2.2.2⟩, .rw ⟨3, 1, Y1⟩, .rw ⟨3, 1, SP⟩]) (fun z (s : Int × Int × List Int × List (List AC)) => s.2.2.2 = vw intC s.2.2.1 ∧ (s.2.2.1.length : Int) ≤ z ∧ 0 ≤ s.2.1) (fun (s : Int × Int × List Int × List (List AC)) rest => s.2.1 + autN rest) (A) (0, 0, [], []) (by rw [hA]; exact Int.zero_add _) ⟨rfl, by simp, by simp⟩ (Wk.weak (wkG [some 0, some 3, some 2] ⟨rfl, rfl, rfl, rfl, rfl, rfl, rfl, rfl, rfl, trivial⟩ ⟨⟨_, _, rfl, rfl, rfl, rfl, .inl ⟨rfl, rfl⟩⟩, ⟨_, _, rfl, rfl, rfl, rfl, .inl ⟨rfl, pY1⟩⟩, ⟨_, _, rfl, rfl, rfl, rfl, .inl ⟨rfl, pSP⟩⟩, trivial⟩ (by decide) no_lt)) (fun z s B hz h0 hi he => ?_) (fun z s x rest B z0 z1 z2 hx hy h0 hi hc e1 hB => ?_)
      · obtain ⟨at_, k, zs, E⟩ := s
        obtain ⟨hE, hzl, hk0⟩ := hi
        dsimp only at hE hzl hk0 h0
        have pE : plainE E = true := by rw [hE]; exact vw_plain _ _
        have hzl6 : zs.length ≤ 1048576 := by omega
        cbv; rw [he]; cbv
        exact finOI hF rfl pE ⟨zs, _, hzl6, rfl, by rw [hE]⟩
      obtain ⟨at_, k, zs, E⟩ := s
      obtain ⟨hE, hzl, hk0⟩ := hi
      dsimp only at hE hzl hk0 h0
      have hzV : z < NX := by rw [hVl] at *; omega
      obtain ⟨w, hw⟩ := kW z z0 hzV
      obtain ⟨sp, hsp⟩ := xSP.2 z z0 hzV
      have hspl : z < lenI SP := by rw [xSP.1]; exact hzV
      have hE6 : E.length ≤ 1048576 := by rw [hE, vw_length]; omega
      have aE : ∀ v : Int, E ++ [[.imm (.int .i64 v)]] = vw intC (zs ++ [v]) := fun v => by rw [vw_snocD, hE]; rfl
      have lE : ∀ v : Int, ((zs ++ [v]).length : Int) ≤ z + 1 := fun v => by simp; omega
      have rA := kA rest
      obtain ⟨k1, hk1⟩ : ∃ t, t = k + 1 := ⟨_, rfl⟩
      obtain ⟨k2, hk2⟩ : ∃ t, t = k1 + 1 := ⟨_, rfl⟩
      have hkA : k ≤ A := by have := kA (x :: rest); omega
      have ek1 : g .w .add .i64 k 1 = k1 := by rw [goAdd hg, hk1]; exact wr1 (by omega) (by omega)
      have ek2 : g .w .add .i64 k1 1 = k2 := by rw [goAdd hg, hk2]; exact wr1 (by omega) (by omega)
      have xk := fun (h : k < A) => xY1.2 k hk0 h
      have xk1 := fun (h : k1 < A) => xY1.2 k1 (by omega) h
      have lk : k < A → k < lenI Y1 := fun h => by rw [xY1.1]; exact h
      have lk1 : k1 < A → k1 < lenI Y1 := fun h => by rw [xY1.1]; exact h
      have hk10 : 0 ≤ k1 := by omega
      have hk20 : 0 ≤ k2 := by omega
      obtain ⟨qz, hqz⟩ : ∃ q, q = g .q .lss (g .w .add .i64 z 1) (g .ln V) := ⟨_, rfl⟩
      obtain ⟨y0, y1, y2, y3, y4, y5, y6, y7, y8⟩ := x
      cases y7 <;> cases y8
      · have hh : k + (0 + autN rest) = A := by rw [← h0]; simp [autN]
        cbv; rw [hc]; cbv; refine goX hg _ z0 hy rfl ?_; cbv
        repeat' first
          | (refine goX hg _ z0 hy rfl ?_; cbv)
          | (refine goX hg _ z0 hw rfl ?_; cbv)
          | (refine goY hg hk0 (lk gk) fun j hj hjl => ?_; cbv; refine ⟨_, by rw [hj]; exact vk, ?_⟩; cbv; clear hj hjl)
          | (refine goY hg hk10 (lk1 gk1) fun j hj hjl => ?_; cbv; refine ⟨_, by rw [hj]; exact vk1, ?_⟩; cbv; clear hj hjl)
          | (rw [ek1]; cbv)
          | (rw [ek2]; cbv)
          | (refine goNA1 hg rfl (by decide) hE6 ?_; cbv)
          | (rw [← hqz]; cases qz <;> cbv)
          | (refine goY hg z0 hspl fun j hj hjl => ?_; cbv; refine ⟨_, by rw [hj]; exact hsp, ?_⟩; cbv; clear hj hjl)
        all_goals
          rw [e1]
          simp only [goAp hg]
          exact hB ((_, k, zs ++ [_], _)) _ _ ⟨(by rw [← h0]; simp [autN]; try omega), ⟨aE _, lE _, hk0⟩⟩ (Wk.weak (wkG [some 4, some 1, some 2] ⟨rfl, rfl, rfl, rfl, rfl, rfl, rfl, rfl, rfl, trivial⟩ ⟨⟨_, _, rfl, rfl, rfl, rfl, .inl ⟨rfl, (aE _).symm ▸ vw_plain _ _⟩⟩, ⟨_, _, rfl, rfl, rfl, rfl, .inl ⟨rfl, pY1⟩⟩, ⟨_, _, rfl, rfl, rfl, rfl, .inl ⟨rfl, pSP⟩⟩, trivial⟩ (by decide) no_lt))
      · have hh : k + (1 + autN rest) = A := by rw [← h0]; simp [autN]
        have gk : k < A := by omega
        obtain ⟨vk_, vk⟩ := xk gk
        cbv; rw [hc]; cbv; refine goX hg _ z0 hy rfl ?_; cbv
        repeat' first
          | (refine goX hg _ z0 hy rfl ?_; cbv)
          | (refine goX hg _ z0 hw rfl ?_; cbv)
          | (refine goY hg hk0 (lk gk) fun j hj hjl => ?_; cbv; refine ⟨_, by rw [hj]; exact vk, ?_⟩; cbv; clear hj hjl)
          | (refine goY hg hk10 (lk1 gk1) fun j hj hjl => ?_; cbv; refine ⟨_, by rw [hj]; exact vk1, ?_⟩; cbv; clear hj hjl)
          | (rw [ek1]; cbv)
          | (rw [ek2]; cbv)
          | (refine goNA1 hg rfl (by decide) hE6 ?_; cbv)
          | (rw [← hqz]; cases qz <;> cbv)
          | (refine goY hg z0 hspl fun j hj hjl => ?_; cbv; refine ⟨_, by rw [hj]; exact hsp, ?_⟩; cbv; clear hj hjl)
        all_goals
          rw [e1]
          simp only [goAp hg]
          exact hB ((_, k1, zs ++ [_], _)) _ _ ⟨(by rw [← h0]; simp [autN]; try omega), ⟨aE _, lE _, hk10⟩⟩ (Wk.weak (wkG [some 4, some 1, some 2] ⟨rfl, rfl, rfl, rfl, rfl, rfl, rfl, rfl, rfl, trivial⟩ ⟨⟨_, _, rfl, rfl, rfl, rfl, .inl ⟨rfl, (aE _).symm ▸ vw_plain _ _⟩⟩, ⟨_, _, rfl, rfl, rfl, rfl, .inl ⟨rfl, pY1⟩⟩, ⟨_, _, rfl, rfl, rfl, rfl, .inl ⟨rfl, pSP⟩⟩, trivial⟩ (by decide) no_lt))
      · have hh : k + (1 + autN rest) = A := by rw [← h0]; simp [autN]
        have gk : k < A := by omega
        obtain ⟨vk_, vk⟩ := xk gk
        cbv; rw [hc]; cbv; refine goX hg _ z0 hy rfl ?_; cbv
        repeat' first
          | (refine goX hg _ z0 hy rfl ?_; cbv)
          | (refine goX hg _ z0 hw rfl ?_; cbv)
          | (refine goY hg hk0 (lk gk) fun j hj hjl => ?_; cbv; refine ⟨_, by rw [hj]; exact vk, ?_⟩; cbv; clear hj hjl)
          | (refine goY hg hk10 (lk1 gk1) fun j hj hjl => ?_; cbv; refine ⟨_, by rw [hj]; exact vk1, ?_⟩; cbv; clear hj hjl)
          | (rw [ek1]; cbv)
          | (rw [ek2]; cbv)
          | (refine goNA1 hg rfl (by decide) hE6 ?_; cbv)
          | (rw [← hqz]; cases qz <;> cbv)
          | (refine goY hg z0 hspl fun j hj hjl => ?_; cbv; refine ⟨_, by rw [hj]; exact hsp, ?_⟩; cbv; clear hj hjl)
        all_goals
          rw [e1]
          simp only [goAp hg]
          exact hB ((_, k1, zs ++ [_], _)) _ _ ⟨(by rw [← h0]; simp [autN]; try omega), ⟨aE _, lE _, hk10⟩⟩ (Wk.weak (wkG [some 4, some 1, some 2] ⟨rfl, rfl, rfl, rfl, rfl, rfl, rfl, rfl, rfl, trivial⟩ ⟨⟨_, _, rfl, rfl, rfl, rfl, .inl ⟨rfl, (aE _).symm ▸ vw_plain _ _⟩⟩, ⟨_, _, rfl, rfl, rfl, rfl, .inl ⟨rfl, pY1⟩⟩, ⟨_, _, rfl, rfl, rfl, rfl, .inl ⟨rfl, pSP⟩⟩, trivial⟩ (by decide) no_lt))
      · have hh : k + (2 + autN rest) = A := by rw [← h0]; simp [autN]
        have gk : k < A := by omega
        obtain ⟨vk_, vk⟩ := xk gk
        have gk1 : k1 < A := by omega
        obtain ⟨vk1_, vk1⟩ := xk1 gk1
        cbv; rw [hc]; cbv; refine goX hg _ z0 hy rfl ?_; cbv
        repeat' first
          | (refine goX hg _ z0 hy rfl ?_; cbv)
          | (refine goX hg _ z0 hw rfl ?_; cbv)
          | (refine goY hg hk0 (lk gk) fun j hj hjl => ?_; cbv; refine ⟨_, by rw [hj]; exact vk, ?_⟩; cbv; clear hj hjl)
          | (refine goY hg hk10 (lk1 gk1) fun j hj hjl => ?_; cbv; refine ⟨_, by rw [hj]; exact vk1, ?_⟩; cbv; clear hj hjl)
          | (rw [ek1]; cbv)
          | (rw [ek2]; cbv)
          | (refine goNA1 hg rfl (by decide) hE6 ?_; cbv)
          | (rw [← hqz]; cases qz <;> cbv)
          | (refine goY hg z0 hspl fun j hj hjl => ?_; cbv; refine ⟨_, by rw [hj]; exact hsp, ?_⟩; cbv; clear hj hjl)
        all_goals
          rw [e1]
          simp only [goAp hg]
          exact hB ((_, k2, zs ++ [_], _)) _ _ ⟨(by rw [← h0]; simp [autN]; try omega), ⟨aE _, lE _, hk20⟩⟩ (Wk.weak (wkG [some 4, some 1, some 2] ⟨rfl, rfl, rfl, rfl, rfl, rfl, rfl, rfl, rfl, trivial⟩ ⟨⟨_, _, rfl, rfl, rfl, rfl, .inl ⟨rfl, (aE _).symm ▸ vw_plain _ _⟩⟩, ⟨_, _, rfl, rfl, rfl, rfl, .inl ⟨rfl, pY1⟩⟩, ⟨_, _, rfl, rfl, rfl, rfl, .inl ⟨rfl, pSP⟩⟩, trivial⟩ (by decide) no_lt))
theorem spec_PlacesAlong_a (xs : List GItem) (ys : List Int) (gap inner js : Int) (hx : xs.length ≤ 1048576) (hy : ys.length ≤ 1048576) : PCon Try.prog 39 [.c (.view (vw GItem.c xs)), .c (.view (vw intC ys)), ai gap, ai inner, ai js] fun res rows => ∃ ab, res = .t (.c (.own 0)) ∧ rows = [ab] ∧ ∃ zs : List Int, zs.length ≤ 1048576 ∧ ab = ⟨3, 1, vw intC zs⟩ := by
  have cP := spec_l15Places_a xs ys gap inner js hx hy
  obtain ⟨V, hV⟩ : ∃ V, V = vw GItem.c xs := ⟨_, rfl⟩
  obtain ⟨W, hW⟩ : ∃ V, V = vw intC ys := ⟨_, rfl⟩
  rw [← hV, ← hW] at cP
  rw [← hV, ← hW]
  refine pcon_run (c := body Try.f39) fits Try.func39 (by kernel_rfl) (by kernel_rfl) (by rfl) (by kernel_rfl) fun g F hg hF => ?_
  cbv
  refine callC hg (pcall_pure cP rfl fun res rows hq => ?_)
  obtain ⟨zs, at_, hz, rfl, rfl⟩ := hq
  obtain ⟨E, hE⟩ : ∃ E, E = vw intC zs := ⟨_, rfl⟩
  have pE : plainE E = true := by rw [hE]; exact vw_plain _ _
  rw [← hE]
  refine ⟨[.rw ⟨3, 1, E⟩], by simp only [List.map_cons, List.map_nil, shift_row (ab := ⟨3, 1, E⟩) pE]; rfl, ?_⟩
  cbv
  exact fin1 ⟨3, 1, E⟩ hF rfl pE ⟨_, rfl, rfl, zs, hz, by rw [hE]⟩
theorem spec_DrawApartly_a (bs : List Int) (hl : bs.length ≤ 1048576) : PCon Try.prog 12 [.c (.view (vw bytC bs))] fun res rows => ∃ (xs : List Int) (ys : List Int), xs.length ≤ 1048576 ∧ ys.length ≤ 14 ∧ res = .tup [.c (.own 0), .c (.own 1)] ∧ rows = [⟨3, 1, vw intC xs⟩, ⟨3, 1, vw intC ys⟩] := by
  have cn := spec_l15Case_a bs hl
  have cP := fun xs ys gap inner js hx hy => spec_PlacesAlong_a xs ys gap inner js hx hy
  obtain ⟨V, hV⟩ : ∃ V, V = vw bytC bs := ⟨_, rfl⟩
  simp only [← hV] at cn ⊢
  refine pcon_run (c := body Try.f12) fits Try.func12 (by kernel_rfl) (by kernel_rfl) (by rfl) (by kernel_rfl) fun g F hg hF => ?_
  cbv
  refine callC hg (pcall_pure cn rfl fun res rows hq => ?_)
  obtain ⟨xs, ys, gap, inner, js, h1, h2, rfl, rfl⟩ := hq
  have cP := cP xs ys gap inner js (by omega) (by omega)
  obtain ⟨E, hE⟩ : ∃ E, E = vw GItem.c xs := ⟨_, rfl⟩
  have hEl : E.length = xs.length := by rw [hE, vw_length]
  have iE : immE E = true := by rw [hE]; exact vw_imm _ _
  have kE : ∀ y ∈ E, y.length = 9 := by rw [hE]; exact vw_k (c := GItem.c) (k := 9) fun _ => rfl
  have dE : ∀ y ∈ E, y.all dat = true := by rw [hE]; exact vw_dat
  obtain ⟨D, hD⟩ : ∃ D, D = vw intC ys := ⟨_, rfl⟩
  have hDl : D.length = ys.length := by rw [hD, vw_length]
  have iD : immE D = true := by rw [hD]; exact vw_imm _ _
  have kD : ∀ y ∈ D, y.length = 1 := by rw [hD]; exact vw_k (c := intC) (k := 1) fun _ => rfl
  have dD : ∀ y ∈ D, y.all dat = true := by rw [hD]; exact vw_dat
  have pE : plainE E = true := imm_plainE iE
  have pD : plainE D = true := imm_plainE iD
  rw [← hE, ← hD] at cP
  rw [← hE, ← hD]
  refine ⟨[.rw ⟨35, 9, E⟩, .rw ⟨3, 1, D⟩], by simp only [List.map_cons, List.map_nil, shift_row (ab := ⟨35, 9, E⟩) pE, shift_row (ab := ⟨3, 1, D⟩) pD]; rfl, ?_⟩
  cbv
  refine callRowX hg cP (fun ab ⟨zs, _, h⟩ => by rw [h]; exact vw_imm _ _) (resA_c (resRow (ab := ⟨_, _, E⟩) rfl kE dE) (resA_c (resRow (ab := ⟨_, _, D⟩) rfl kD dD) (resA_c (resDat rfl) (resA_c (resDat rfl) (resA_c (resDat rfl) resA_nil))))) fun ab hab => ?_
  obtain ⟨zs, hz, rfl⟩ := hab
  obtain ⟨Z, hZ⟩ : ∃ E, E = vw intC zs := ⟨_, rfl⟩
  have pZ : plainE Z = true := by rw [hZ]; exact vw_plain _ _
  rw [← hZ]
  cbv
  exact finR2v hF rfl rfl (by decide) pZ pD ⟨zs, ys, hz, h2, rfl, by rw [hZ, hD]⟩

end Go.Proofs.Ytcohgnecmgcajaa
