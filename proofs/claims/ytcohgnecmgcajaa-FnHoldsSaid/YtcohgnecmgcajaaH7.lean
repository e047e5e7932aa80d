/- Sizes within bounds, items apart. -/
import Derived.Test.YtcohgnecmgcajaaH1
import Derived.Test.YtcohgnecmgcajaaH6
namespace Go.Proofs.Ytcohgnecmgcajaa
open Go.ChangeShapes Go.WideShapes Go.ChangeAt Go.RowKit Am
set_option linter.unusedVariables false
set_option linter.unusedSimpArgs false
set_option maxRecDepth 100000

def pB (p : GItem × Int) : Bool := !(decide (p.2 < p.1.least) || (decide (0 ≤ p.1.most) && decide (uppI p.1 < p.2)))
theorem inbB_eq (xs : List GItem) (ys : List Int) : inbB xs ys = (decide (xs.length = ys.length) && (xs.zip ys).all pB) := rfl
theorem zip_at {x : GItem} {rest : List GItem} {ys : List Int} {z : Nat} {w : Int} (h : ys[z]? = some w) : ((x :: rest).zip (ys.drop z)).all pB = (pB (x, w) && (rest.zip (ys.drop (z + 1))).all pB) := by
  obtain ⟨hl, he⟩ := List.getElem?_eq_some_iff.1 h
  rw [List.drop_eq_getElem_cons hl, he, List.zip_cons_cons, List.all_cons]
def apG : List Int → List Int → Bool
  | x :: x' :: xs, y :: ys => !decide (x' < wrap64 (x + y)) && apG (x' :: xs) ys
  | _, _ => true
def apB (xs ys : List Int) : Bool := decide (xs.length = ys.length) && apG xs ys
theorem apG_short {xs ys : List Int} (h : xs.length ≤ 1) : apG xs ys = true := by
  match xs, ys, h with
  | [], _, _ => simp [apG]
  | [x], [], _ => simp [apG]
  | [x], _ :: _, _ => simp [apG]
theorem apG_at {xs ys : List Int} {z : Nat} {a b c : Int} (h1 : xs[z]? = some a) (h2 : xs[z + 1]? = some b) (h3 : ys[z]? = some c) : apG (xs.drop z) (ys.drop z) = (!decide (b < wrap64 (a + c)) && apG (xs.drop (z + 1)) (ys.drop (z + 1))) := by
  obtain ⟨hl, he⟩ := List.getElem?_eq_some_iff.1 h1
  obtain ⟨hl2, he2⟩ := List.getElem?_eq_some_iff.1 h2
  obtain ⟨hl3, he3⟩ := List.getElem?_eq_some_iff.1 h3
  rw [List.drop_eq_getElem_cons hl, List.drop_eq_getElem_cons hl2, List.drop_eq_getElem_cons hl3, he, he2, he3]
  rfl
set_option maxHeartbeats 4000000 in
theorem impl_InBounds_a (xs : List GItem) (ys : List Int) (hx : xs.length ≤ 1048576) (hyy : ys.length ≤ 1048576) : PCon Try.prog 14 [.c (.view (vw GItem.c xs)), .c (.view (vw intC ys))] fun res rows => res = .t (abl (inbB xs ys)) ∧ rows = [] := by
  obtain ⟨V, hV⟩ : ∃ V, V = vw GItem.c xs := ⟨_, rfl⟩
  have hVl : V.length = xs.length := by rw [hV, vw_length]
  have iV : immE V = true := by rw [hV]; exact vw_imm _ _
  have kV : ∀ y ∈ V, y.length = 9 := by rw [hV]; exact vw_k (c := GItem.c) (k := 9) fun _ => rfl
  have dV : ∀ y ∈ V, y.all dat = true := by rw [hV]; exact vw_dat
  obtain ⟨W, hW⟩ : ∃ W, W = vw intC ys := ⟨_, rfl⟩
  have hWl : W.length = ys.length := by rw [hW, vw_length]
  have iW : immE W = true := by rw [hW]; exact vw_imm _ _
  have kW : ∀ y ∈ W, y.length = 1 := by rw [hW]; exact vw_k (c := intC) (k := 1) fun _ => rfl
  have dW : ∀ y ∈ W, y.all dat = true := by rw [hW]; exact vw_dat
  obtain ⟨R, hR⟩ : ∃ R, R = (xs.zip ys).all pB := ⟨_, rfl⟩
  obtain ⟨Q, hQ⟩ : ∃ Q, Q = inbB xs ys := ⟨_, rfl⟩
  have hQ2 : Q = (decide (xs.length = ys.length) && R) := by rw [hQ, hR]; rfl
  have cU := fun x => impl_upper_a x
  rw [← hV, ← hW, ← hQ]
  refine pcon_run (c := body Try.f14) fits Try.func14 (by kernel_rfl) (by kernel_rfl) (by rfl) (by kernel_rfl) fun g F hg hF => ?_
  have t0 : g .q .neq (g .ln V) (g .ln W) = !decide (xs.length = ys.length) := by
    rw [goNeq hg, goLn hg, goLn hg, lenI_eq, lenI_eq, hVl, hWl]
    by_cases h : xs.length = ys.length
    · simp [h]
    · simp [h]; omega
  by_cases hlen : xs.length = ys.length
  rotate_left
  · rw [decide_eq_false hlen] at t0
    have hQf : Q = false := by rw [hQ2, decide_eq_false hlen]; rfl
    cbv
    rw [t0]
    cbv
    exact fin0b hF hQf.symm
  rw [decide_eq_true hlen] at t0 hQ2
  have hQR : R = Q := by rw [hQ2]; rfl
  cbv
  rw [t0]
  cbv
  refine loop_go hg fits (by kernel_rfl) V (fun x => lc (GItem.c x)) xs hV hx (fun z (s : List Int) => [(1, .t (.c (.view W))), (12, .t (.c (.view V))), (13, .t (ai (g .ln V))), (14, .t (ai (z)))]) (fun z (s : List Int) => []) (fun z (s : List Int) => s = ys.drop z.toNat) (fun (s : List Int) rest => (rest.zip s).all pB) (R) ys hR.symm rfl (Wk.weak (wkG [] ⟨rfl, rfl, rfl, rfl, trivial⟩ trivial (by decide) no_lt)) (fun z s B hz h0 hi he => ?_) (fun z s x rest B z0 z1 z2 hx hy h0 hi hc e1 hB => ?_)
  · cbv; rw [he]; cbv
    exact fin0b hF (by rw [← hQR, ← h0]; simp)
  have hzn : z.toNat < ys.length := by have := lenI_eq V; omega
  obtain ⟨w, hwy⟩ : ∃ w, ys[z.toNat]? = some w := ⟨_, List.getElem?_eq_getElem hzn⟩
  have hw : W[z.toNat]? = some (lc (intC w)) := by rw [hW]; exact vw_at hwy
  have step := zip_at (x := x) (rest := rest) hwy
  rw [show z.toNat + 1 = (z + 1).toNat by omega] at step
  rw [hi, step] at h0
  have cU := cU x
  obtain ⟨U, hUU⟩ : ∃ U, U = uppI x := ⟨_, rfl⟩
  have hU : 0 ≤ x.most → uppI x = U := fun hm => hUU.symm
  rw [← hUU] at cU
  have hp : pB (x, w) = !(decide (w < x.least) || (decide (0 ≤ x.most) && decide (uppI x < w))) := rfl
  obtain ⟨y0, y1, y2, y3, y4, y5, y6, y7, y8⟩ := x
  dsimp only at hp hU
  obtain ⟨qa, hqa⟩ : ∃ q, q = decide (w < y1) := ⟨_, rfl⟩
  obtain ⟨qb, hqb⟩ : ∃ q, q = decide (0 ≤ y2) := ⟨_, rfl⟩
  obtain ⟨qc, hqc⟩ : ∃ q, q = decide (U < w) := ⟨_, rfl⟩
  have ta : g .q .lss w y1 = qa := by rw [hqa]; exact goLss hg _ _
  have tb : g .q .geq y2 0 = qb := by rw [hqb]; exact goGeq hg _ _
  have tc : g .q .gtr w U = qc := by rw [hqc, goGtr hg]
  have hp2 : pB (⟨y0, y1, y2, y3, y4, y5, y6, y7, y8⟩, w) = !(qa || (qb && qc)) := by
    rw [hp, hqa, hqb, hqc]
    by_cases hm : 0 ≤ y2
    · rw [hU hm]
    · simp [hm]
  clear hp hqa hqb hqc
  cbv; rw [hc]; cbv; refine goX hg _ z0 hy rfl ?_; cbv
  repeat' first
    | (refine goX hg _ z0 hw rfl ?_; cbv)
    | (refine goX hg _ z0 hy rfl ?_; cbv)
    | (rw [ta]; cases qa <;> cbv)
    | (rw [tb]; cases qb <;> cbv)
    | (refine call0P hg cU rfl rfl ?_; cbv)
    | (rw [tc]; cases qc <;> cbv)
  all_goals first
    | exact fin0b hF (by rw [← hQR, ← h0, hp2]; rfl)
    | (rw [e1]; exact hB ((ys.drop (z + 1).toNat)) _ _ ⟨(by rw [← h0, hp2]; rfl), rfl⟩ (Wk.weak (wkG [] ⟨rfl, rfl, rfl, rfl, trivial⟩ trivial (by decide) no_lt)))
set_option maxHeartbeats 4000000 in
theorem spec_InBounds_a (xs : List GItem) (ys : List Int) (hx : xs.length ≤ 1048576) (hyy : ys.length ≤ 1048576) : PCon Try.prog 15 [.c (.view (vw GItem.c xs)), .c (.view (vw intC ys))] fun res rows => res = .t (abl (inbB xs ys)) ∧ rows = [] := by
  obtain ⟨V, hV⟩ : ∃ V, V = vw GItem.c xs := ⟨_, rfl⟩
  have hVl : V.length = xs.length := by rw [hV, vw_length]
  have iV : immE V = true := by rw [hV]; exact vw_imm _ _
  have kV : ∀ y ∈ V, y.length = 9 := by rw [hV]; exact vw_k (c := GItem.c) (k := 9) fun _ => rfl
  have dV : ∀ y ∈ V, y.all dat = true := by rw [hV]; exact vw_dat
  obtain ⟨W, hW⟩ : ∃ W, W = vw intC ys := ⟨_, rfl⟩
  have hWl : W.length = ys.length := by rw [hW, vw_length]
  have iW : immE W = true := by rw [hW]; exact vw_imm _ _
  have kW : ∀ y ∈ W, y.length = 1 := by rw [hW]; exact vw_k (c := intC) (k := 1) fun _ => rfl
  have dW : ∀ y ∈ W, y.all dat = true := by rw [hW]; exact vw_dat
  obtain ⟨R, hR⟩ : ∃ R, R = (xs.zip ys).all pB := ⟨_, rfl⟩
  obtain ⟨Q, hQ⟩ : ∃ Q, Q = inbB xs ys := ⟨_, rfl⟩
  have hQ2 : Q = (decide (xs.length = ys.length) && R) := by rw [hQ, hR]; rfl
  have cU := fun x => spec_l13Most_a x
  rw [← hV, ← hW, ← hQ]
  refine pcon_run (c := body Try.f15) fits Try.func15 (by kernel_rfl) (by kernel_rfl) (by rfl) (by kernel_rfl) fun g F hg hF => ?_
  have t0 : g .q .neq (g .ln W) (g .ln V) = !decide (xs.length = ys.length) := by
    rw [goNeq hg, goLn hg, goLn hg, lenI_eq, lenI_eq, hVl, hWl, bne_comm]
    by_cases h : xs.length = ys.length
    · simp [h]
    · simp [h]; omega
  by_cases hlen : xs.length = ys.length
  rotate_left
  · rw [decide_eq_false hlen] at t0
    have hQf : Q = false := by rw [hQ2, decide_eq_false hlen]; rfl
    cbv
    rw [t0]
    cbv
    exact fin0b hF hQf.symm
  rw [decide_eq_true hlen] at t0 hQ2
  have hQR : R = Q := by rw [hQ2]; rfl
  cbv
  rw [t0]
  cbv
  refine loop_go hg fits (by kernel_rfl) V (fun x => lc (GItem.c x)) xs hV hx (fun z (s : List Int) => [(0, .t (.c (.view V))), (1, .t (.c (.view W))), (5, .t (ai (z)))]) (fun z (s : List Int) => []) (fun z (s : List Int) => s = ys.drop z.toNat) (fun (s : List Int) rest => (rest.zip s).all pB) (R) ys hR.symm rfl (Wk.weak (wkG [] ⟨rfl, rfl, rfl, trivial⟩ trivial (by decide) no_lt)) (fun z s B hz h0 hi he => ?_) (fun z s x rest B z0 z1 z2 hx hy h0 hi hc e1 hB => ?_)
  · cbv; rw [he]; cbv
    exact fin0b hF (by rw [← hQR, ← h0]; simp)
  have hzn : z.toNat < ys.length := by have := lenI_eq V; omega
  obtain ⟨w, hwy⟩ : ∃ w, ys[z.toNat]? = some w := ⟨_, List.getElem?_eq_getElem hzn⟩
  have hw : W[z.toNat]? = some (lc (intC w)) := by rw [hW]; exact vw_at hwy
  have step := zip_at (x := x) (rest := rest) hwy
  rw [show z.toNat + 1 = (z + 1).toNat by omega] at step
  rw [hi, step] at h0
  have cU := cU x
  obtain ⟨U, hUU⟩ : ∃ U, U = uppS x := ⟨_, rfl⟩
  have hU : 0 ≤ x.most → uppI x = U := fun hm => by rw [hUU]; unfold uppS uppI; split <;> split <;> omega
  rw [← hUU] at cU
  have hp : pB (x, w) = !(decide (w < x.least) || (decide (0 ≤ x.most) && decide (uppI x < w))) := rfl
  obtain ⟨y0, y1, y2, y3, y4, y5, y6, y7, y8⟩ := x
  dsimp only at hp hU
  obtain ⟨qa, hqa⟩ : ∃ q, q = decide (w < y1) := ⟨_, rfl⟩
  obtain ⟨qb, hqb⟩ : ∃ q, q = decide (0 ≤ y2) := ⟨_, rfl⟩
  obtain ⟨qc, hqc⟩ : ∃ q, q = decide (U < w) := ⟨_, rfl⟩
  have ta : g .q .lss w y1 = qa := by rw [hqa]; exact goLss hg _ _
  have tb : g .q .geq y2 0 = qb := by rw [hqb]; exact goGeq hg _ _
  have tc : g .q .gtr w U = qc := by rw [hqc, goGtr hg]
  have hp2 : pB (⟨y0, y1, y2, y3, y4, y5, y6, y7, y8⟩, w) = !(qa || (qb && qc)) := by
    rw [hp, hqa, hqb, hqc]
    by_cases hm : 0 ≤ y2
    · rw [hU hm]
    · simp [hm]
  clear hp hqa hqb hqc
  cbv; rw [hc]; cbv
  repeat' first
    | (refine goX hg _ z0 hw rfl ?_; cbv)
    | (refine goX hg _ z0 hy rfl ?_; cbv)
    | (rw [ta]; cases qa <;> cbv)
    | (rw [tb]; cases qb <;> cbv)
    | (refine call0P hg cU rfl rfl ?_; cbv)
    | (rw [tc]; cases qc <;> cbv)
  all_goals first
    | exact fin0b hF (by rw [← hQR, ← h0, hp2]; rfl)
    | (rw [e1]; exact hB ((ys.drop (z + 1).toNat)) _ _ ⟨(by rw [← h0, hp2]; rfl), rfl⟩ (Wk.weak (wkG [] ⟨rfl, rfl, rfl, trivial⟩ trivial (by decide) no_lt)))
set_option maxHeartbeats 4000000 in
theorem impl_Apartly_a (xs : List Int) (ys : List Int) (hx : xs.length ≤ 1048576) (hyy : ys.length ≤ 1048576) : PCon Try.prog 20 [.c (.view (vw intC xs)), .c (.view (vw intC ys))] fun res rows => res = .t (abl (apB xs ys)) ∧ rows = [] := by
  obtain ⟨V, hV⟩ : ∃ V, V = vw intC xs := ⟨_, rfl⟩
  have hVl : V.length = xs.length := by rw [hV, vw_length]
  have iV : immE V = true := by rw [hV]; exact vw_imm _ _
  have kV : ∀ y ∈ V, y.length = 1 := by rw [hV]; exact vw_k (c := intC) (k := 1) fun _ => rfl
  have dV : ∀ y ∈ V, y.all dat = true := by rw [hV]; exact vw_dat
  obtain ⟨W, hW⟩ : ∃ W, W = vw intC ys := ⟨_, rfl⟩
  have hWl : W.length = ys.length := by rw [hW, vw_length]
  have iW : immE W = true := by rw [hW]; exact vw_imm _ _
  have kW : ∀ y ∈ W, y.length = 1 := by rw [hW]; exact vw_k (c := intC) (k := 1) fun _ => rfl
  have dW : ∀ y ∈ W, y.all dat = true := by rw [hW]; exact vw_dat
  obtain ⟨R, hR⟩ : ∃ R, R = apG xs ys := ⟨_, rfl⟩
  obtain ⟨Q, hQ⟩ : ∃ Q, Q = apB xs ys := ⟨_, rfl⟩
  have hQ2 : Q = (decide (xs.length = ys.length) && R) := by rw [hQ, hR]; rfl
  rw [← hV, ← hW, ← hQ]
  refine pcon_run (c := body Try.f20) fits Try.func20 (by kernel_rfl) (by kernel_rfl) (by rfl) (by kernel_rfl) fun g F hg hF => ?_
  have t0 : g .q .neq (g .ln V) (g .ln W) = !decide (xs.length = ys.length) := by
    rw [goNeq hg, goLn hg, goLn hg, lenI_eq, lenI_eq, hVl, hWl]
    by_cases h : xs.length = ys.length
    · simp [h]
    · simp [h]; omega
  by_cases hlen : xs.length = ys.length
  rotate_left
  · rw [decide_eq_false hlen] at t0
    have hQf : Q = false := by rw [hQ2, decide_eq_false hlen]; rfl
    cbv
    rw [t0]
    cbv
    exact fin0b hF hQf.symm
  rw [decide_eq_true hlen] at t0 hQ2
  have hQR : R = Q := by rw [hQ2]; rfl
  have hln : g .ln V = (xs.length : Int) := by rw [goLn hg, lenI_eq, hVl]
  have hi0 : (1 : Int) ≤ 1 ∧ ((1 : Int) ≤ xs.length ∨ (1 : Int) = 1) ∧ apG (xs.drop ((1 : Int) - 1).toNat) (ys.drop ((1 : Int) - 1).toNat) = R := ⟨by decide, .inr rfl, by rw [hR]; rfl⟩
  cbv
  rw [t0]
  cbv
  refine loop_runW hg fits (by kernel_rfl) (fun s : Int => [(0, .t (.c (.view V))), (1, .t (.c (.view W))), (5, .t (ai (s)))]) (fun s => []) (fun s => 1 ≤ s ∧ (s ≤ xs.length ∨ s = 1) ∧ apG (xs.drop (s - 1).toNat) (ys.drop (s - 1).toNat) = R) (fun s => xs.length + 1 - s.toNat)
    1 hi0 (Wk.weak (wkG [] ⟨rfl, rfl, rfl, trivial⟩ trivial (by decide) no_lt)) (fun z B hs hB => ?_)
  obtain ⟨h1, h2, h3⟩ := hs
  have tz : g .q .lss z (g .ln V) = decide (z < xs.length) := by rw [goLss hg, hln]
  by_cases hz : z < xs.length
  rotate_left
  · have hfin : R = true := by
      rw [← h3]; refine apG_short ?_
      rw [List.length_drop]; omega
    cbv
    rw [tz, decide_eq_false hz]
    cbv
    exact fin0b hF (by rw [← hQR]; exact hfin.symm)
  obtain ⟨zp, hzp⟩ : ∃ t, t = z - 1 := ⟨_, rfl⟩
  obtain ⟨zn, hzn⟩ : ∃ t, t = z + 1 := ⟨_, rfl⟩
  obtain ⟨a, ha⟩ : ∃ a, xs[zp.toNat]? = some a := ⟨_, List.getElem?_eq_getElem (by omega)⟩
  obtain ⟨b, hb⟩ : ∃ a, xs[z.toNat]? = some a := ⟨_, List.getElem?_eq_getElem (by omega)⟩
  obtain ⟨c, hc⟩ : ∃ a, ys[zp.toNat]? = some a := ⟨_, List.getElem?_eq_getElem (by omega)⟩
  have hVa : V[zp.toNat]? = some (lc (intC a)) := by rw [hV]; exact vw_at ha
  have hVb : V[z.toNat]? = some (lc (intC b)) := by rw [hV]; exact vw_at hb
  have hWc : W[zp.toNat]? = some (lc (intC c)) := by rw [hW]; exact vw_at hc
  have z0 : 0 ≤ z := by omega
  have zp0 : 0 ≤ zp := by omega
  have ep : g .w .sub .i64 z 1 = zp := by rw [goSub hg, hzp]; exact wr1 (by omega) (by omega)
  have en : g .w .add .i64 z 1 = zn := by rw [goAdd hg, hzn]; exact wr1 (by omega) (by omega)
  have st := apG_at ha (by rw [show zp.toNat + 1 = z.toNat by omega]; exact hb) hc
  rw [show zp.toNat + 1 = z.toNat by omega] at st
  rw [← hzp] at h3
  rw [st] at h3
  obtain ⟨q, hq⟩ : ∃ q, q = decide (b < wrap64 (a + c)) := ⟨_, rfl⟩
  have tq : g .q .lss b (g .w .add .i64 a c) = q := by rw [hq, goAdd hg]; exact goLss hg _ _
  rw [← hq] at h3
  have fin : q = false → 1 ≤ zn ∧ (zn ≤ xs.length ∨ zn = 1) ∧ apG (xs.drop (zn - 1).toNat) (ys.drop (zn - 1).toNat) = R := fun h => by
    refine ⟨by omega, .inl (by omega), ?_⟩
    rw [← h3, h, show (zn - 1).toNat = z.toNat by omega]; rfl
  have fuel : xs.length + 1 - zn.toNat < xs.length + 1 - z.toNat := by omega
  cbv
  rw [tz, decide_eq_true hz]
  cbv
  refine goX hg _ z0 hVb rfl ?_
  cbv
  rw [ep]
  refine goX hg _ zp0 hVa rfl ?_
  cbv
  rw [ep]
  refine goX hg _ zp0 hWc rfl ?_
  cbv
  rw [tq]
  cases hqq : q <;> cbv
  · rw [en]
    subst hB
    exact ⟨zn, fin hqq, fuel, Wk.weak (wkG [] ⟨rfl, rfl, rfl, trivial⟩ trivial (by decide) no_lt)⟩
  · exact fin0b hF (by rw [← hQR, ← h3, hqq]; rfl)
set_option maxHeartbeats 4000000 in
theorem spec_Apartly_a (xs : List Int) (ys : List Int) (hx : xs.length ≤ 1048576) (hyy : ys.length ≤ 1048576) : PCon Try.prog 21 [.c (.view (vw intC xs)), .c (.view (vw intC ys))] fun res rows => res = .t (abl (apB xs ys)) ∧ rows = [] := by
  obtain ⟨V, hV⟩ : ∃ V, V = vw intC xs := ⟨_, rfl⟩
  have hVl : V.length = xs.length := by rw [hV, vw_length]
  have iV : immE V = true := by rw [hV]; exact vw_imm _ _
  have kV : ∀ y ∈ V, y.length = 1 := by rw [hV]; exact vw_k (c := intC) (k := 1) fun _ => rfl
  have dV : ∀ y ∈ V, y.all dat = true := by rw [hV]; exact vw_dat
  obtain ⟨W, hW⟩ : ∃ W, W = vw intC ys := ⟨_, rfl⟩
  have hWl : W.length = ys.length := by rw [hW, vw_length]
  have iW : immE W = true := by rw [hW]; exact vw_imm _ _
  have kW : ∀ y ∈ W, y.length = 1 := by rw [hW]; exact vw_k (c := intC) (k := 1) fun _ => rfl
  have dW : ∀ y ∈ W, y.all dat = true := by rw [hW]; exact vw_dat
  obtain ⟨R, hR⟩ : ∃ R, R = apG xs ys := ⟨_, rfl⟩
  obtain ⟨Q, hQ⟩ : ∃ Q, Q = apB xs ys := ⟨_, rfl⟩
  have hQ2 : Q = (decide (xs.length = ys.length) && R) := by rw [hQ, hR]; rfl
  rw [← hV, ← hW, ← hQ]
  refine pcon_run (c := body Try.f21) fits Try.func21 (by kernel_rfl) (by kernel_rfl) (by rfl) (by kernel_rfl) fun g F hg hF => ?_
  have t0 : g .q .neq (g .ln V) (g .ln W) = !decide (xs.length = ys.length) := by
    rw [goNeq hg, goLn hg, goLn hg, lenI_eq, lenI_eq, hVl, hWl]
    by_cases h : xs.length = ys.length
    · simp [h]
    · simp [h]; omega
  by_cases hlen : xs.length = ys.length
  rotate_left
  · rw [decide_eq_false hlen] at t0
    have hQf : Q = false := by rw [hQ2, decide_eq_false hlen]; rfl
    cbv
    rw [t0]
    cbv
    exact fin0b hF hQf.symm
  rw [decide_eq_true hlen] at t0 hQ2
  have hQR : R = Q := by rw [hQ2]; rfl
  have hln : g .ln V = (xs.length : Int) := by rw [goLn hg, lenI_eq, hVl]
  have hi0 : (1 : Int) ≤ 1 ∧ ((1 : Int) ≤ xs.length ∨ (1 : Int) = 1) ∧ apG (xs.drop ((1 : Int) - 1).toNat) (ys.drop ((1 : Int) - 1).toNat) = R := ⟨by decide, .inr rfl, by rw [hR]; rfl⟩
  cbv
  rw [t0]
  cbv
  refine loop_runW hg fits (by kernel_rfl) (fun s : Int => [(0, .t (.c (.view V))), (1, .t (.c (.view W))), (5, .t (ai (s)))]) (fun s => []) (fun s => 1 ≤ s ∧ (s ≤ xs.length ∨ s = 1) ∧ apG (xs.drop (s - 1).toNat) (ys.drop (s - 1).toNat) = R) (fun s => xs.length + 1 - s.toNat)
    1 hi0 (Wk.weak (wkG [] ⟨rfl, rfl, rfl, trivial⟩ trivial (by decide) no_lt)) (fun z B hs hB => ?_)
  obtain ⟨h1, h2, h3⟩ := hs
  have tz : g .q .lss z (g .ln V) = decide (z < xs.length) := by rw [goLss hg, hln]
  by_cases hz : z < xs.length
  rotate_left
  · have hfin : R = true := by
      rw [← h3]; refine apG_short ?_
      rw [List.length_drop]; omega
    cbv
    rw [tz, decide_eq_false hz]
    cbv
    exact fin0b hF (by rw [← hQR]; exact hfin.symm)
  obtain ⟨zp, hzp⟩ : ∃ t, t = z - 1 := ⟨_, rfl⟩
  obtain ⟨zn, hzn⟩ : ∃ t, t = z + 1 := ⟨_, rfl⟩
  obtain ⟨a, ha⟩ : ∃ a, xs[zp.toNat]? = some a := ⟨_, List.getElem?_eq_getElem (by omega)⟩
  obtain ⟨b, hb⟩ : ∃ a, xs[z.toNat]? = some a := ⟨_, List.getElem?_eq_getElem (by omega)⟩
  obtain ⟨c, hc⟩ : ∃ a, ys[zp.toNat]? = some a := ⟨_, List.getElem?_eq_getElem (by omega)⟩
  have hVa : V[zp.toNat]? = some (lc (intC a)) := by rw [hV]; exact vw_at ha
  have hVb : V[z.toNat]? = some (lc (intC b)) := by rw [hV]; exact vw_at hb
  have hWc : W[zp.toNat]? = some (lc (intC c)) := by rw [hW]; exact vw_at hc
  have z0 : 0 ≤ z := by omega
  have zp0 : 0 ≤ zp := by omega
  have ep : g .w .sub .i64 z 1 = zp := by rw [goSub hg, hzp]; exact wr1 (by omega) (by omega)
  have en : g .w .add .i64 z 1 = zn := by rw [goAdd hg, hzn]; exact wr1 (by omega) (by omega)
  have st := apG_at ha (by rw [show zp.toNat + 1 = z.toNat by omega]; exact hb) hc
  rw [show zp.toNat + 1 = z.toNat by omega] at st
  rw [← hzp] at h3
  rw [st] at h3
  obtain ⟨q, hq⟩ : ∃ q, q = decide (b < wrap64 (a + c)) := ⟨_, rfl⟩
  have tq : g .q .lss b (g .w .add .i64 a c) = q := by rw [hq, goAdd hg]; exact goLss hg _ _
  rw [← hq] at h3
  have fin : q = false → 1 ≤ zn ∧ (zn ≤ xs.length ∨ zn = 1) ∧ apG (xs.drop (zn - 1).toNat) (ys.drop (zn - 1).toNat) = R := fun h => by
    refine ⟨by omega, .inl (by omega), ?_⟩
    rw [← h3, h, show (zn - 1).toNat = z.toNat by omega]; rfl
  have fuel : xs.length + 1 - zn.toNat < xs.length + 1 - z.toNat := by omega
  cbv
  rw [tz, decide_eq_true hz]
  cbv
  refine goX hg _ z0 hVb rfl ?_
  cbv
  rw [ep]
  refine goX hg _ zp0 hVa rfl ?_
  cbv
  rw [ep]
  refine goX hg _ zp0 hWc rfl ?_
  cbv
  rw [tq]
  cases hqq : q <;> cbv
  · rw [en]
    subst hB
    exact ⟨zn, fin hqq, fuel, Wk.weak (wkG [] ⟨rfl, rfl, rfl, trivial⟩ trivial (by decide) no_lt)⟩
  · exact fin0b hF (by rw [← hQR, ← h3, hqq]; rfl)

end Go.Proofs.Ytcohgnecmgcajaa
