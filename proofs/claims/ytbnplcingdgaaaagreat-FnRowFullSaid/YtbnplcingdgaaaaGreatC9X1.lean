/- A row whose boxes all grow is full: plain law. -/
import Derived.Test.YtbnplcingdgaaaaGreatC9bj
namespace Go.Proofs.YtbnplcingdgaaaaGreat
open Go.ChangeShapes Go.WideShapes Go.ChangeAt Go.RowKit Am
set_option linter.unusedVariables false
set_option linter.unusedSimpArgs false
set_option maxRecDepth 100000
theorem kidsT4 {s0 s1 s2 s3 s4 : ah} (h0 : gP s0 = true) (h1 : gP s1 = true) (h2 : gP s2 = true) (h3 : gP s3 = true) (h4 : gP s4 = true) : aM [av s0 [2, 3, 4, 5], aK s1, aK s2, aK s3, aK s4] = true := by
  have e : goT [av s0 [2, 3, 4, 5], aK s1, aK s2, aK s3, aK s4] [av s0 [2, 3, 4, 5], aK s1, aK s2, aK s3, aK s4] 0 = ((aR [av s0 [2, 3, 4, 5], aK s1, aK s2, aK s3, aK s4] 1 (av s0 [2, 3, 4, 5]) && (aR [av s0 [2, 3, 4, 5], aK s1, aK s2, aK s3, aK s4] 2 (aK s1) && (aR [av s0 [2, 3, 4, 5], aK s1, aK s2, aK s3, aK s4] 3 (aK s2) && (aR [av s0 [2, 3, 4, 5], aK s1, aK s2, aK s3, aK s4] 4 (aK s3) && (aR [av s0 [2, 3, 4, 5], aK s1, aK s2, aK s3, aK s4] 5 (aK s4) && true)))))) := rfl
  unfold aM
  rw [e, bv (ns := [av s0 [2, 3, 4, 5], aK s1, aK s2, aK s3, aK s4]) (n := 1) (x := av s0 [2, 3, 4, 5]) h0 (by kernel_rfl), bv (ns := [av s0 [2, 3, 4, 5], aK s1, aK s2, aK s3, aK s4]) (n := 2) (x := aK s1) h1 (by kernel_rfl), bv (ns := [av s0 [2, 3, 4, 5], aK s1, aK s2, aK s3, aK s4]) (n := 3) (x := aK s2) h2 (by kernel_rfl), bv (ns := [av s0 [2, 3, 4, 5], aK s1, aK s2, aK s3, aK s4]) (n := 4) (x := aK s3) h3 (by kernel_rfl), bv (ns := [av s0 [2, 3, 4, 5], aK s1, aK s2, aK s3, aK s4]) (n := 5) (x := aK s4) h4 (by kernel_rfl)]
  rfl
theorem addK3 {s0 s1 s2 s3 s4 : ah} (h0 : gP s0 = true) (h1 : gP s1 = true) (h2 : gP s2 = true) (h3 : gP s3 = true) (h4 : gP s4 = true) : uN [av s0 [2, 3, 4], aK s1, aK s2, aK s3] s4 3 = [av s0 [2, 3, 4, 5], aK s1, aK s2, aK s3, aK s4] := by
  have t0 : aM [av s0 [2, 3, 4], aK s1, aK s2, aK s3] = true := wv h0 h1 h2 h3
  have t1 : aM [av s0 [2, 3, 4], aK s1, aK s2, aK s3, fM s4] = true := by
    have e : goT [av s0 [2, 3, 4], aK s1, aK s2, aK s3, fM s4] [av s0 [2, 3, 4], aK s1, aK s2, aK s3, fM s4] 0 = ((aR [av s0 [2, 3, 4], aK s1, aK s2, aK s3, fM s4] 1 (av s0 [2, 3, 4]) && (aR [av s0 [2, 3, 4], aK s1, aK s2, aK s3, fM s4] 2 (aK s1) && (aR [av s0 [2, 3, 4], aK s1, aK s2, aK s3, fM s4] 3 (aK s2) && (aR [av s0 [2, 3, 4], aK s1, aK s2, aK s3, fM s4] 4 (aK s3) && (aR [av s0 [2, 3, 4], aK s1, aK s2, aK s3, fM s4] 5 (fM s4) && true)))))) := rfl
    unfold aM
    rw [e, bv (ns := [av s0 [2, 3, 4], aK s1, aK s2, aK s3, fM s4]) (n := 1) (x := (av s0 [2, 3, 4])) h0 (by kernel_rfl), bv (ns := [av s0 [2, 3, 4], aK s1, aK s2, aK s3, fM s4]) (n := 2) (x := (aK s1)) h1 (by kernel_rfl), bv (ns := [av s0 [2, 3, 4], aK s1, aK s2, aK s3, fM s4]) (n := 3) (x := (aK s2)) h2 (by kernel_rfl), bv (ns := [av s0 [2, 3, 4], aK s1, aK s2, aK s3, fM s4]) (n := 4) (x := (aK s3)) h3 (by kernel_rfl), bv (ns := [av s0 [2, 3, 4], aK s1, aK s2, aK s3, fM s4]) (n := 5) (x := (fM s4)) h4 (by kernel_rfl)]
    rfl
  have a0 : jN [av s0 [2, 3, 4], aK s1, aK s2, aK s3] s4 = [av s0 [2, 3, 4], aK s1, aK s2, aK s3, fM s4] := by
    unfold jN rr
    rw [t0, h4]
    rfl
  have a1 : nv [av s0 [2, 3, 4], aK s1, aK s2, aK s3] s4 = 5 := by
    unfold nv rr
    rw [t0, h4]
    rfl
  have e2 : inT [av s0 [2, 3, 4], aK s1, aK s2, aK s3, fM s4] 1 5 3 = [av s0 [2, 3, 4, 5], aK s1, aK s2, aK s3, aK s4] := rfl
  have t2 : aM [av s0 [2, 3, 4, 5], aK s1, aK s2, aK s3, aK s4] = true := kidsT4 h0 h1 h2 h3 h4
  have i0 : inI [av s0 [2, 3, 4], aK s1, aK s2, aK s3, fM s4] 1 5 3 = 0 := by
    unfold inI inO
    rw [t1, e2, t2]
    rfl
  unfold uN
  rw [a0, a1]
  unfold inN
  rw [i0, e2]
  rfl

/-- An item that grows from its base, not bound. -/
def itB (b g : Int) : ag := ⟨b, 0, -1, g, 0, 0, 0, false, false⟩
/-- The share up to s of G parts. -/
def shF (R G s : Int) : Int := R * s / G
theorem fdv_sh {R G s : Int} (hR : 0 ≤ R) (hR1 : R ≤ 1048576) (hG : 1 ≤ G) (hG1 : G ≤ 100) (h0 : 0 ≤ s) (h1 : s ≤ G) : fdv (wrap64 (R * s)) G = shF R G s := by
  have m0 : 0 ≤ R * s := Int.mul_nonneg hR h0
  have m1 : R * s ≤ 1048576 * 100 := Int.mul_le_mul hR1 (by omega) h0 (by decide)
  rw [aw _ (by omega)]
  have d0 : 0 ≤ R * s / G := Int.ediv_nonneg m0 (by omega)
  have d1 : R * s / G ≤ R * s := Int.ediv_le_self _ m0
  unfold fdv shF
  rw [if_neg (by omega), Int.tdiv_eq_ediv_of_nonneg m0, if_neg (by have := Int.tmod_nonneg G m0; omega)]
  exact aw _ (by omega)
theorem shF_mono {R G s t : Int} (hR : 0 ≤ R) (hG : 1 ≤ G) (h : s ≤ t) : shF R G s ≤ shF R G t := Int.ediv_le_ediv (by omega) (Int.mul_le_mul_of_nonneg_left h hR)
theorem shF_0 (R G : Int) : shF R G 0 = 0 := by unfold shF; simp
theorem shF_all (R : Int) {G : Int} (hG : 1 ≤ G) : shF R G G = R := Int.mul_ediv_cancel _ (by omega)
theorem itB_ok {b g : Int} (hb : 0 ≤ b ∧ b ≤ 1000) (hg : 1 ≤ g ∧ g ≤ 5) : Bz (itB b g) = true := by
  unfold Bz itB
  simp only []
  rw [rH (n := b) (by omega), rH (n := g) (by omega)]
  rfl
theorem hyp_itB {b g : Int} (hb : 0 ≤ b ∧ b ≤ 1000) : hyp (itB b g) = b := by
  unfold hyp itB lu
  simp
  omega
theorem tgt_itB {b g A R : Int} (hb : 0 ≤ b ∧ b ≤ 1000) (hg : 1 ≤ g ∧ g ≤ 5) (hA : 0 ≤ A ∧ A ≤ 100) (hR : 0 ≤ R ∧ R ≤ 1048576) : nO true A R (itB b g) = false ∧ qk true A R (itB b g) = false := by
  have m0 : 0 ≤ b * A := Int.mul_nonneg hb.1 hA.1
  have m1 : b * A ≤ 1000 * 100 := Int.mul_le_mul hb.2 hA.2 hA.1 (by decide)
  have m2 : 0 ≤ R * g := Int.mul_nonneg hR.1 (by omega)
  have m3 : R * g ≤ 1048576 * 5 := Int.mul_le_mul hR.2 hg.2 (by omega) (by decide)
  refine ⟨?_, rfl⟩
  unfold nO tgt
  show decide (wrap64 (wrap64 (b * A) + wrap64 (R * g)) < wrap64 (0 * A)) = false
  rw [aw (b * A) (by omega), aw (R * g) (by omega), aw (b * A + R * g) (by omega), Int.zero_mul]
  exact decide_eq_false (by show ¬ _ < wrap64 0; unfold wrap64; omega)
theorem flx_row1 {b0 g0 W : Int} (hb0 : 0 ≤ b0 ∧ b0 ≤ 1000) (hg0 : 1 ≤ g0 ∧ g0 ≤ 5) (hW : b0 < W) (hW1 : W ≤ 100000) : ∃ z0 : Int, flx [itB b0 g0] 0 W = [z0] ∧ 0 ≤ z0 ∧ z0 = W := by
  obtain ⟨R, hR⟩ : ∃ R, R = W - (b0) := ⟨_, rfl⟩
  obtain ⟨G, hG⟩ : ∃ G, G = g0 := ⟨_, rfl⟩
  have hok : gd [itB b0 g0] = true := by
    unfold gd
    simp only [List.all_cons, List.all_nil, itB_ok hb0 hg0]
    rfl
  have hh : ([itB b0 g0] : List ag).map hyp = [b0] := by
    simp only [List.map_cons, List.map_nil, hyp_itB (g := g0) hb0]
  have hou : jd [itB b0 g0] [b0] 0 = b0 := by
    unfold jd DC Bx itB
    simp
    try omega
  have hgr : AA [itB b0 g0] 0 W = true := by
    unfold AA
    rw [hh, hou, aw _ (by omega)]
    exact decide_eq_true (by omega)
  have hhe : ([itB b0 g0] : List ag).map (na true) = [false] := by
    have e : ∀ b g : Int, (0 ≤ b ∧ b ≤ 1000) → (1 ≤ g ∧ g ≤ 5) → na true (itB b g) = false := fun b g hb hg => by
      unfold na
      rw [hyp_itB hb]
      show (if g = 0 then true else if true = true then decide (b < b) else _) = false
      rw [if_neg (by omega), if_pos rfl]
      exact decide_eq_false (by omega)
    simp only [List.map_cons, List.map_nil, e b0 g0 hb0 hg0]
  obtain ⟨f0, hf0⟩ : ∃ f, f = shF R G (0) := ⟨_, rfl⟩
  obtain ⟨f1, hf1⟩ : ∃ f, f = shF R G (g0) := ⟨_, rfl⟩
  have F0 : f0 = 0 := by rw [hf0]; exact shF_0 R G
  have F1 : f1 = R := by rw [hf1, ← hG]; exact shF_all R (by omega)
  have M0 : f0 ≤ f1 := by rw [hf0, hf1]; exact shF_mono (by omega) (by omega) (by omega)
  have w0 : wrap64 (0 + g0) = g0 := by rw [aw _ (by omega)]; omega
  have hshr : shr R [g0] = [f1 - f0] := by
    have e1 : yM [g0] = true := by
      unfold yM
      simp only [List.all_cons, List.all_nil, rH (n := g0) (l := 0) (m := 1073741824) (by omega)]
      rfl
    have e2 : tY 0 [g0] = G := by
      simp only [tY, w0]
      exact hG.symm
    have e3 : sg R = R := by unfold sg bro; split <;> (try split) <;> omega
    unfold shr
    rw [if_pos e1, e2, e3]
    simp only [shG, w0, fdv_sh (R := R) (G := G) (s := 0) (by omega) (by omega) (by omega) (by omega) (by omega) (by omega), fdv_sh (R := R) (G := G) (s := g0) (by omega) (by omega) (by omega) (by omega) (by omega) (by omega), ← hf0, ← hf1]
    have v0 : wrap64 (f1 - f0) = f1 - f0 := aw _ (by omega)
    rw [v0]
  have c : ∀ x : Int, 0 ≤ x → x ≤ 200000 → cl (wrap64 x) = x := fun x h0 h1 => by
    rw [aw _ (by omega)]
    unfold cl bro
    split <;> (try split) <;> omega
  refine ⟨b0 + (f1 - f0), ?_, by omega, by omega⟩
  have hi0 : (gd [itB b0 g0] && inL 0 && inL W) = true := by
    rw [hok]
    unfold inL
    simp
    omega
  unfold flx
  rw [if_pos hi0, hgr, hh, hhe]
  have hX : Fx.of [itB b0 g0] 0 W = ⟨[itB b0 g0], 0, W, true⟩ := by unfold Fx.of; rw [hgr]
  rw [hX]
  obtain ⟨X, hXX⟩ : ∃ X : Fx, X = ⟨[itB b0 g0], 0, W, true⟩ := ⟨_, rfl⟩
  have hrI : X.rI [false] [b0] = R := by
    unfold Fx.rI z7
    rw [hXX]
    show (let n := wrap64 (W - wrap64 (jd [itB b0 g0] [b0] 0)); if (true = true ∧ n < 0) ∨ (true = false ∧ 0 < n) then 0 else sg n) = R
    rw [hou, aw (b0) (by omega), aw (W - (b0)) (by omega)]
    rw [← hR]
    show (if (true = true ∧ R < 0) ∨ (true = false ∧ 0 < R) then 0 else sg R) = R
    rw [if_neg (by simp; omega)]
    unfold sg bro
    split <;> (try split) <;> omega
  have hall : X.all [false] = G := by
    rw [hXX]
    show tY 0 [g0] = G
    simp only [tY, w0]
    exact hG.symm
  have hset : X.setI [false] R = [(0, b0 + (f1 - f0))] := by
    have l1 : X.low [false] R = [] := by
      unfold Fx.low
      rw [hall, hXX]
      show List.filter _ [0] = []
      refine List.filter_eq_nil_iff.2 fun i hi => ?_
      simp only [List.mem_cons, List.not_mem_nil, or_false] at hi
      rcases hi with rfl
      · exact fun h => Bool.noConfusion ((tgt_itB hb0 hg0 (by omega) (by omega)).1.symm.trans h)
    have l2 : X.hig [false] R = [] := by
      unfold Fx.hig
      rw [hall, hXX]
      show List.filter _ [0] = []
      refine List.filter_eq_nil_iff.2 fun i hi => ?_
      simp only [List.mem_cons, List.not_mem_nil, or_false] at hi
      rcases hi with rfl
      all_goals
        rw [Bool.and_eq_true]
        exact fun h => Bool.noConfusion h.2
    unfold Fx.setI
    rw [if_pos ⟨l1, l2⟩]
    unfold Fx.shs
    have e : X.ws [false] = [g0] := by rw [hXX]; rfl
    rw [e, hshr, hXX]
    show [((0 : Int), cl (wrap64 (b0 + (f1 - f0))))] = _
    rw [c (b0 + (f1 - f0)) (by omega) (by omega)]
  rw [← hXX]
  unfold Fx.runI
  rw [if_neg (by decide), hrI, hset]
  rfl
theorem flx_row2 {b0 g0 b1 g1 W : Int} (hb0 : 0 ≤ b0 ∧ b0 ≤ 1000) (hg0 : 1 ≤ g0 ∧ g0 ≤ 5) (hb1 : 0 ≤ b1 ∧ b1 ≤ 1000) (hg1 : 1 ≤ g1 ∧ g1 ≤ 5) (hW : b0 + b1 < W) (hW1 : W ≤ 100000) : ∃ z0 z1 : Int, flx [itB b0 g0, itB b1 g1] 0 W = [z0, z1] ∧ 0 ≤ z0 ∧ 0 ≤ z1 ∧ z0 + z1 = W := by
  obtain ⟨R, hR⟩ : ∃ R, R = W - (b0 + b1) := ⟨_, rfl⟩
  obtain ⟨G, hG⟩ : ∃ G, G = g0 + g1 := ⟨_, rfl⟩
  have hok : gd [itB b0 g0, itB b1 g1] = true := by
    unfold gd
    simp only [List.all_cons, List.all_nil, itB_ok hb0 hg0, itB_ok hb1 hg1]
    rfl
  have hh : ([itB b0 g0, itB b1 g1] : List ag).map hyp = [b0, b1] := by
    simp only [List.map_cons, List.map_nil, hyp_itB (g := g0) hb0, hyp_itB (g := g1) hb1]
  have hou : jd [itB b0 g0, itB b1 g1] [b0, b1] 0 = b0 + b1 := by
    unfold jd DC Bx itB
    simp
    try omega
  have hgr : AA [itB b0 g0, itB b1 g1] 0 W = true := by
    unfold AA
    rw [hh, hou, aw _ (by omega)]
    exact decide_eq_true (by omega)
  have hhe : ([itB b0 g0, itB b1 g1] : List ag).map (na true) = [false, false] := by
    have e : ∀ b g : Int, (0 ≤ b ∧ b ≤ 1000) → (1 ≤ g ∧ g ≤ 5) → na true (itB b g) = false := fun b g hb hg => by
      unfold na
      rw [hyp_itB hb]
      show (if g = 0 then true else if true = true then decide (b < b) else _) = false
      rw [if_neg (by omega), if_pos rfl]
      exact decide_eq_false (by omega)
    simp only [List.map_cons, List.map_nil, e b0 g0 hb0 hg0, e b1 g1 hb1 hg1]
  obtain ⟨f0, hf0⟩ : ∃ f, f = shF R G (0) := ⟨_, rfl⟩
  obtain ⟨f1, hf1⟩ : ∃ f, f = shF R G (g0) := ⟨_, rfl⟩
  obtain ⟨f2, hf2⟩ : ∃ f, f = shF R G (g0 + g1) := ⟨_, rfl⟩
  have F0 : f0 = 0 := by rw [hf0]; exact shF_0 R G
  have F2 : f2 = R := by rw [hf2, ← hG]; exact shF_all R (by omega)
  have M0 : f0 ≤ f1 := by rw [hf0, hf1]; exact shF_mono (by omega) (by omega) (by omega)
  have M1 : f1 ≤ f2 := by rw [hf1, hf2]; exact shF_mono (by omega) (by omega) (by omega)
  have w0 : wrap64 (0 + g0) = g0 := by rw [aw _ (by omega)]; omega
  have w1 : wrap64 (g0 + g1) = g0 + g1 := aw _ (by omega)
  have hshr : shr R [g0, g1] = [f1 - f0, f2 - f1] := by
    have e1 : yM [g0, g1] = true := by
      unfold yM
      simp only [List.all_cons, List.all_nil, rH (n := g0) (l := 0) (m := 1073741824) (by omega), rH (n := g1) (l := 0) (m := 1073741824) (by omega)]
      rfl
    have e2 : tY 0 [g0, g1] = G := by
      simp only [tY, w0, w1]
      exact hG.symm
    have e3 : sg R = R := by unfold sg bro; split <;> (try split) <;> omega
    unfold shr
    rw [if_pos e1, e2, e3]
    simp only [shG, w0, w1, fdv_sh (R := R) (G := G) (s := 0) (by omega) (by omega) (by omega) (by omega) (by omega) (by omega), fdv_sh (R := R) (G := G) (s := g0) (by omega) (by omega) (by omega) (by omega) (by omega) (by omega), fdv_sh (R := R) (G := G) (s := g0 + g1) (by omega) (by omega) (by omega) (by omega) (by omega) (by omega), ← hf0, ← hf1, ← hf2]
    have v0 : wrap64 (f1 - f0) = f1 - f0 := aw _ (by omega)
    have v1 : wrap64 (f2 - f1) = f2 - f1 := aw _ (by omega)
    rw [v0, v1]
  have c : ∀ x : Int, 0 ≤ x → x ≤ 200000 → cl (wrap64 x) = x := fun x h0 h1 => by
    rw [aw _ (by omega)]
    unfold cl bro
    split <;> (try split) <;> omega
  refine ⟨b0 + (f1 - f0), b1 + (f2 - f1), ?_, by omega, by omega, by omega⟩
  have hi0 : (gd [itB b0 g0, itB b1 g1] && inL 0 && inL W) = true := by
    rw [hok]
    unfold inL
    simp
    omega
  unfold flx
  rw [if_pos hi0, hgr, hh, hhe]
  have hX : Fx.of [itB b0 g0, itB b1 g1] 0 W = ⟨[itB b0 g0, itB b1 g1], 0, W, true⟩ := by unfold Fx.of; rw [hgr]
  rw [hX]
  obtain ⟨X, hXX⟩ : ∃ X : Fx, X = ⟨[itB b0 g0, itB b1 g1], 0, W, true⟩ := ⟨_, rfl⟩
  have hrI : X.rI [false, false] [b0, b1] = R := by
    unfold Fx.rI z7
    rw [hXX]
    show (let n := wrap64 (W - wrap64 (jd [itB b0 g0, itB b1 g1] [b0, b1] 0)); if (true = true ∧ n < 0) ∨ (true = false ∧ 0 < n) then 0 else sg n) = R
    rw [hou, aw (b0 + b1) (by omega), aw (W - (b0 + b1)) (by omega)]
    rw [← hR]
    show (if (true = true ∧ R < 0) ∨ (true = false ∧ 0 < R) then 0 else sg R) = R
    rw [if_neg (by simp; omega)]
    unfold sg bro
    split <;> (try split) <;> omega
  have hall : X.all [false, false] = G := by
    rw [hXX]
    show tY 0 [g0, g1] = G
    simp only [tY, w0, w1]
    exact hG.symm
  have hset : X.setI [false, false] R = [(0, b0 + (f1 - f0)), (1, b1 + (f2 - f1))] := by
    have l1 : X.low [false, false] R = [] := by
      unfold Fx.low
      rw [hall, hXX]
      show List.filter _ [0, 1] = []
      refine List.filter_eq_nil_iff.2 fun i hi => ?_
      simp only [List.mem_cons, List.not_mem_nil, or_false] at hi
      rcases hi with rfl | rfl
      · exact fun h => Bool.noConfusion ((tgt_itB hb0 hg0 (by omega) (by omega)).1.symm.trans h)
      · exact fun h => Bool.noConfusion ((tgt_itB hb1 hg1 (by omega) (by omega)).1.symm.trans h)
    have l2 : X.hig [false, false] R = [] := by
      unfold Fx.hig
      rw [hall, hXX]
      show List.filter _ [0, 1] = []
      refine List.filter_eq_nil_iff.2 fun i hi => ?_
      simp only [List.mem_cons, List.not_mem_nil, or_false] at hi
      rcases hi with rfl | rfl
      all_goals
        rw [Bool.and_eq_true]
        exact fun h => Bool.noConfusion h.2
    unfold Fx.setI
    rw [if_pos ⟨l1, l2⟩]
    unfold Fx.shs
    have e : X.ws [false, false] = [g0, g1] := by rw [hXX]; rfl
    rw [e, hshr, hXX]
    show [((0 : Int), cl (wrap64 (b0 + (f1 - f0)))), ((1 : Int), cl (wrap64 (b1 + (f2 - f1))))] = _
    rw [c (b0 + (f1 - f0)) (by omega) (by omega), c (b1 + (f2 - f1)) (by omega) (by omega)]
  rw [← hXX]
  unfold Fx.runI
  rw [if_neg (by decide), hrI, hset]
  rfl
theorem flx_row3 {b0 g0 b1 g1 b2 g2 W : Int} (hb0 : 0 ≤ b0 ∧ b0 ≤ 1000) (hg0 : 1 ≤ g0 ∧ g0 ≤ 5) (hb1 : 0 ≤ b1 ∧ b1 ≤ 1000) (hg1 : 1 ≤ g1 ∧ g1 ≤ 5) (hb2 : 0 ≤ b2 ∧ b2 ≤ 1000) (hg2 : 1 ≤ g2 ∧ g2 ≤ 5) (hW : b0 + b1 + b2 < W) (hW1 : W ≤ 100000) : ∃ z0 z1 z2 : Int, flx [itB b0 g0, itB b1 g1, itB b2 g2] 0 W = [z0, z1, z2] ∧ 0 ≤ z0 ∧ 0 ≤ z1 ∧ 0 ≤ z2 ∧ z0 + z1 + z2 = W := by
  obtain ⟨R, hR⟩ : ∃ R, R = W - (b0 + b1 + b2) := ⟨_, rfl⟩
  obtain ⟨G, hG⟩ : ∃ G, G = g0 + g1 + g2 := ⟨_, rfl⟩
  have hok : gd [itB b0 g0, itB b1 g1, itB b2 g2] = true := by
    unfold gd
    simp only [List.all_cons, List.all_nil, itB_ok hb0 hg0, itB_ok hb1 hg1, itB_ok hb2 hg2]
    rfl
  have hh : ([itB b0 g0, itB b1 g1, itB b2 g2] : List ag).map hyp = [b0, b1, b2] := by
    simp only [List.map_cons, List.map_nil, hyp_itB (g := g0) hb0, hyp_itB (g := g1) hb1, hyp_itB (g := g2) hb2]
  have hou : jd [itB b0 g0, itB b1 g1, itB b2 g2] [b0, b1, b2] 0 = b0 + b1 + b2 := by
    unfold jd DC Bx itB
    simp
    try omega
  have hgr : AA [itB b0 g0, itB b1 g1, itB b2 g2] 0 W = true := by
    unfold AA
    rw [hh, hou, aw _ (by omega)]
    exact decide_eq_true (by omega)
  have hhe : ([itB b0 g0, itB b1 g1, itB b2 g2] : List ag).map (na true) = [false, false, false] := by
    have e : ∀ b g : Int, (0 ≤ b ∧ b ≤ 1000) → (1 ≤ g ∧ g ≤ 5) → na true (itB b g) = false := fun b g hb hg => by
      unfold na
      rw [hyp_itB hb]
      show (if g = 0 then true else if true = true then decide (b < b) else _) = false
      rw [if_neg (by omega), if_pos rfl]
      exact decide_eq_false (by omega)
    simp only [List.map_cons, List.map_nil, e b0 g0 hb0 hg0, e b1 g1 hb1 hg1, e b2 g2 hb2 hg2]
  obtain ⟨f0, hf0⟩ : ∃ f, f = shF R G (0) := ⟨_, rfl⟩
  obtain ⟨f1, hf1⟩ : ∃ f, f = shF R G (g0) := ⟨_, rfl⟩
  obtain ⟨f2, hf2⟩ : ∃ f, f = shF R G (g0 + g1) := ⟨_, rfl⟩
  obtain ⟨f3, hf3⟩ : ∃ f, f = shF R G (g0 + g1 + g2) := ⟨_, rfl⟩
  have F0 : f0 = 0 := by rw [hf0]; exact shF_0 R G
  have F3 : f3 = R := by rw [hf3, ← hG]; exact shF_all R (by omega)
  have M0 : f0 ≤ f1 := by rw [hf0, hf1]; exact shF_mono (by omega) (by omega) (by omega)
  have M1 : f1 ≤ f2 := by rw [hf1, hf2]; exact shF_mono (by omega) (by omega) (by omega)
  have M2 : f2 ≤ f3 := by rw [hf2, hf3]; exact shF_mono (by omega) (by omega) (by omega)
  have w0 : wrap64 (0 + g0) = g0 := by rw [aw _ (by omega)]; omega
  have w1 : wrap64 (g0 + g1) = g0 + g1 := aw _ (by omega)
  have w2 : wrap64 (g0 + g1 + g2) = g0 + g1 + g2 := aw _ (by omega)
  have hshr : shr R [g0, g1, g2] = [f1 - f0, f2 - f1, f3 - f2] := by
    have e1 : yM [g0, g1, g2] = true := by
      unfold yM
      simp only [List.all_cons, List.all_nil, rH (n := g0) (l := 0) (m := 1073741824) (by omega), rH (n := g1) (l := 0) (m := 1073741824) (by omega), rH (n := g2) (l := 0) (m := 1073741824) (by omega)]
      rfl
    have e2 : tY 0 [g0, g1, g2] = G := by
      simp only [tY, w0, w1, w2]
      exact hG.symm
    have e3 : sg R = R := by unfold sg bro; split <;> (try split) <;> omega
    unfold shr
    rw [if_pos e1, e2, e3]
    simp only [shG, w0, w1, w2, fdv_sh (R := R) (G := G) (s := 0) (by omega) (by omega) (by omega) (by omega) (by omega) (by omega), fdv_sh (R := R) (G := G) (s := g0) (by omega) (by omega) (by omega) (by omega) (by omega) (by omega), fdv_sh (R := R) (G := G) (s := g0 + g1) (by omega) (by omega) (by omega) (by omega) (by omega) (by omega), fdv_sh (R := R) (G := G) (s := g0 + g1 + g2) (by omega) (by omega) (by omega) (by omega) (by omega) (by omega), ← hf0, ← hf1, ← hf2, ← hf3]
    have v0 : wrap64 (f1 - f0) = f1 - f0 := aw _ (by omega)
    have v1 : wrap64 (f2 - f1) = f2 - f1 := aw _ (by omega)
    have v2 : wrap64 (f3 - f2) = f3 - f2 := aw _ (by omega)
    rw [v0, v1, v2]
  have c : ∀ x : Int, 0 ≤ x → x ≤ 200000 → cl (wrap64 x) = x := fun x h0 h1 => by
    rw [aw _ (by omega)]
    unfold cl bro
    split <;> (try split) <;> omega
  refine ⟨b0 + (f1 - f0), b1 + (f2 - f1), b2 + (f3 - f2), ?_, by omega, by omega, by omega, by omega⟩
  have hi0 : (gd [itB b0 g0, itB b1 g1, itB b2 g2] && inL 0 && inL W) = true := by
    rw [hok]
    unfold inL
    simp
    omega
  unfold flx
  rw [if_pos hi0, hgr, hh, hhe]
  have hX : Fx.of [itB b0 g0, itB b1 g1, itB b2 g2] 0 W = ⟨[itB b0 g0, itB b1 g1, itB b2 g2], 0, W, true⟩ := by unfold Fx.of; rw [hgr]
  rw [hX]
  obtain ⟨X, hXX⟩ : ∃ X : Fx, X = ⟨[itB b0 g0, itB b1 g1, itB b2 g2], 0, W, true⟩ := ⟨_, rfl⟩
  have hrI : X.rI [false, false, false] [b0, b1, b2] = R := by
    unfold Fx.rI z7
    rw [hXX]
    show (let n := wrap64 (W - wrap64 (jd [itB b0 g0, itB b1 g1, itB b2 g2] [b0, b1, b2] 0)); if (true = true ∧ n < 0) ∨ (true = false ∧ 0 < n) then 0 else sg n) = R
    rw [hou, aw (b0 + b1 + b2) (by omega), aw (W - (b0 + b1 + b2)) (by omega)]
    rw [← hR]
    show (if (true = true ∧ R < 0) ∨ (true = false ∧ 0 < R) then 0 else sg R) = R
    rw [if_neg (by simp; omega)]
    unfold sg bro
    split <;> (try split) <;> omega
  have hall : X.all [false, false, false] = G := by
    rw [hXX]
    show tY 0 [g0, g1, g2] = G
    simp only [tY, w0, w1, w2]
    exact hG.symm
  have hset : X.setI [false, false, false] R = [(0, b0 + (f1 - f0)), (1, b1 + (f2 - f1)), (2, b2 + (f3 - f2))] := by
    have l1 : X.low [false, false, false] R = [] := by
      unfold Fx.low
      rw [hall, hXX]
      show List.filter _ [0, 1, 2] = []
      refine List.filter_eq_nil_iff.2 fun i hi => ?_
      simp only [List.mem_cons, List.not_mem_nil, or_false] at hi
      rcases hi with rfl | rfl | rfl
      · exact fun h => Bool.noConfusion ((tgt_itB hb0 hg0 (by omega) (by omega)).1.symm.trans h)
      · exact fun h => Bool.noConfusion ((tgt_itB hb1 hg1 (by omega) (by omega)).1.symm.trans h)
      · exact fun h => Bool.noConfusion ((tgt_itB hb2 hg2 (by omega) (by omega)).1.symm.trans h)
    have l2 : X.hig [false, false, false] R = [] := by
      unfold Fx.hig
      rw [hall, hXX]
      show List.filter _ [0, 1, 2] = []
      refine List.filter_eq_nil_iff.2 fun i hi => ?_
      simp only [List.mem_cons, List.not_mem_nil, or_false] at hi
      rcases hi with rfl | rfl | rfl
      all_goals
        rw [Bool.and_eq_true]
        exact fun h => Bool.noConfusion h.2
    unfold Fx.setI
    rw [if_pos ⟨l1, l2⟩]
    unfold Fx.shs
    have e : X.ws [false, false, false] = [g0, g1, g2] := by rw [hXX]; rfl
    rw [e, hshr, hXX]
    show [((0 : Int), cl (wrap64 (b0 + (f1 - f0)))), ((1 : Int), cl (wrap64 (b1 + (f2 - f1)))), ((2 : Int), cl (wrap64 (b2 + (f3 - f2))))] = _
    rw [c (b0 + (f1 - f0)) (by omega) (by omega), c (b1 + (f2 - f1)) (by omega) (by omega), c (b2 + (f3 - f2)) (by omega) (by omega)]
  rw [← hXX]
  unfold Fx.runI
  rw [if_neg (by decide), hrI, hset]
  rfl
theorem flx_row4 {b0 g0 b1 g1 b2 g2 b3 g3 W : Int} (hb0 : 0 ≤ b0 ∧ b0 ≤ 1000) (hg0 : 1 ≤ g0 ∧ g0 ≤ 5) (hb1 : 0 ≤ b1 ∧ b1 ≤ 1000) (hg1 : 1 ≤ g1 ∧ g1 ≤ 5) (hb2 : 0 ≤ b2 ∧ b2 ≤ 1000) (hg2 : 1 ≤ g2 ∧ g2 ≤ 5) (hb3 : 0 ≤ b3 ∧ b3 ≤ 1000) (hg3 : 1 ≤ g3 ∧ g3 ≤ 5) (hW : b0 + b1 + b2 + b3 < W) (hW1 : W ≤ 100000) : ∃ z0 z1 z2 z3 : Int, flx [itB b0 g0, itB b1 g1, itB b2 g2, itB b3 g3] 0 W = [z0, z1, z2, z3] ∧ 0 ≤ z0 ∧ 0 ≤ z1 ∧ 0 ≤ z2 ∧ 0 ≤ z3 ∧ z0 + z1 + z2 + z3 = W := by
  obtain ⟨R, hR⟩ : ∃ R, R = W - (b0 + b1 + b2 + b3) := ⟨_, rfl⟩
  obtain ⟨G, hG⟩ : ∃ G, G = g0 + g1 + g2 + g3 := ⟨_, rfl⟩
  have hok : gd [itB b0 g0, itB b1 g1, itB b2 g2, itB b3 g3] = true := by
    unfold gd
    simp only [List.all_cons, List.all_nil, itB_ok hb0 hg0, itB_ok hb1 hg1, itB_ok hb2 hg2, itB_ok hb3 hg3]
    rfl
  have hh : ([itB b0 g0, itB b1 g1, itB b2 g2, itB b3 g3] : List ag).map hyp = [b0, b1, b2, b3] := by
    simp only [List.map_cons, List.map_nil, hyp_itB (g := g0) hb0, hyp_itB (g := g1) hb1, hyp_itB (g := g2) hb2, hyp_itB (g := g3) hb3]
  have hou : jd [itB b0 g0, itB b1 g1, itB b2 g2, itB b3 g3] [b0, b1, b2, b3] 0 = b0 + b1 + b2 + b3 := by
    unfold jd DC Bx itB
    simp
    try omega
  have hgr : AA [itB b0 g0, itB b1 g1, itB b2 g2, itB b3 g3] 0 W = true := by
    unfold AA
    rw [hh, hou, aw _ (by omega)]
    exact decide_eq_true (by omega)
  have hhe : ([itB b0 g0, itB b1 g1, itB b2 g2, itB b3 g3] : List ag).map (na true) = [false, false, false, false] := by
    have e : ∀ b g : Int, (0 ≤ b ∧ b ≤ 1000) → (1 ≤ g ∧ g ≤ 5) → na true (itB b g) = false := fun b g hb hg => by
      unfold na
      rw [hyp_itB hb]
      show (if g = 0 then true else if true = true then decide (b < b) else _) = false
      rw [if_neg (by omega), if_pos rfl]
      exact decide_eq_false (by omega)
    simp only [List.map_cons, List.map_nil, e b0 g0 hb0 hg0, e b1 g1 hb1 hg1, e b2 g2 hb2 hg2, e b3 g3 hb3 hg3]
  obtain ⟨f0, hf0⟩ : ∃ f, f = shF R G (0) := ⟨_, rfl⟩
  obtain ⟨f1, hf1⟩ : ∃ f, f = shF R G (g0) := ⟨_, rfl⟩
  obtain ⟨f2, hf2⟩ : ∃ f, f = shF R G (g0 + g1) := ⟨_, rfl⟩
  obtain ⟨f3, hf3⟩ : ∃ f, f = shF R G (g0 + g1 + g2) := ⟨_, rfl⟩
  obtain ⟨f4, hf4⟩ : ∃ f, f = shF R G (g0 + g1 + g2 + g3) := ⟨_, rfl⟩
  have F0 : f0 = 0 := by rw [hf0]; exact shF_0 R G
  have F4 : f4 = R := by rw [hf4, ← hG]; exact shF_all R (by omega)
  have M0 : f0 ≤ f1 := by rw [hf0, hf1]; exact shF_mono (by omega) (by omega) (by omega)
  have M1 : f1 ≤ f2 := by rw [hf1, hf2]; exact shF_mono (by omega) (by omega) (by omega)
  have M2 : f2 ≤ f3 := by rw [hf2, hf3]; exact shF_mono (by omega) (by omega) (by omega)
  have M3 : f3 ≤ f4 := by rw [hf3, hf4]; exact shF_mono (by omega) (by omega) (by omega)
  have w0 : wrap64 (0 + g0) = g0 := by rw [aw _ (by omega)]; omega
  have w1 : wrap64 (g0 + g1) = g0 + g1 := aw _ (by omega)
  have w2 : wrap64 (g0 + g1 + g2) = g0 + g1 + g2 := aw _ (by omega)
  have w3 : wrap64 (g0 + g1 + g2 + g3) = g0 + g1 + g2 + g3 := aw _ (by omega)
  have hshr : shr R [g0, g1, g2, g3] = [f1 - f0, f2 - f1, f3 - f2, f4 - f3] := by
    have e1 : yM [g0, g1, g2, g3] = true := by
      unfold yM
      simp only [List.all_cons, List.all_nil, rH (n := g0) (l := 0) (m := 1073741824) (by omega), rH (n := g1) (l := 0) (m := 1073741824) (by omega), rH (n := g2) (l := 0) (m := 1073741824) (by omega), rH (n := g3) (l := 0) (m := 1073741824) (by omega)]
      rfl
    have e2 : tY 0 [g0, g1, g2, g3] = G := by
      simp only [tY, w0, w1, w2, w3]
      exact hG.symm
    have e3 : sg R = R := by unfold sg bro; split <;> (try split) <;> omega
    unfold shr
    rw [if_pos e1, e2, e3]
    simp only [shG, w0, w1, w2, w3, fdv_sh (R := R) (G := G) (s := 0) (by omega) (by omega) (by omega) (by omega) (by omega) (by omega), fdv_sh (R := R) (G := G) (s := g0) (by omega) (by omega) (by omega) (by omega) (by omega) (by omega), fdv_sh (R := R) (G := G) (s := g0 + g1) (by omega) (by omega) (by omega) (by omega) (by omega) (by omega), fdv_sh (R := R) (G := G) (s := g0 + g1 + g2) (by omega) (by omega) (by omega) (by omega) (by omega) (by omega), fdv_sh (R := R) (G := G) (s := g0 + g1 + g2 + g3) (by omega) (by omega) (by omega) (by omega) (by omega) (by omega), ← hf0, ← hf1, ← hf2, ← hf3, ← hf4]
    have v0 : wrap64 (f1 - f0) = f1 - f0 := aw _ (by omega)
    have v1 : wrap64 (f2 - f1) = f2 - f1 := aw _ (by omega)
    have v2 : wrap64 (f3 - f2) = f3 - f2 := aw _ (by omega)
    have v3 : wrap64 (f4 - f3) = f4 - f3 := aw _ (by omega)
    rw [v0, v1, v2, v3]
  have c : ∀ x : Int, 0 ≤ x → x ≤ 200000 → cl (wrap64 x) = x := fun x h0 h1 => by
    rw [aw _ (by omega)]
    unfold cl bro
    split <;> (try split) <;> omega
  refine ⟨b0 + (f1 - f0), b1 + (f2 - f1), b2 + (f3 - f2), b3 + (f4 - f3), ?_, by omega, by omega, by omega, by omega, by omega⟩
  have hi0 : (gd [itB b0 g0, itB b1 g1, itB b2 g2, itB b3 g3] && inL 0 && inL W) = true := by
    rw [hok]
    unfold inL
    simp
    omega
  unfold flx
  rw [if_pos hi0, hgr, hh, hhe]
  have hX : Fx.of [itB b0 g0, itB b1 g1, itB b2 g2, itB b3 g3] 0 W = ⟨[itB b0 g0, itB b1 g1, itB b2 g2, itB b3 g3], 0, W, true⟩ := by unfold Fx.of; rw [hgr]
  rw [hX]
  obtain ⟨X, hXX⟩ : ∃ X : Fx, X = ⟨[itB b0 g0, itB b1 g1, itB b2 g2, itB b3 g3], 0, W, true⟩ := ⟨_, rfl⟩
  have hrI : X.rI [false, false, false, false] [b0, b1, b2, b3] = R := by
    unfold Fx.rI z7
    rw [hXX]
    show (let n := wrap64 (W - wrap64 (jd [itB b0 g0, itB b1 g1, itB b2 g2, itB b3 g3] [b0, b1, b2, b3] 0)); if (true = true ∧ n < 0) ∨ (true = false ∧ 0 < n) then 0 else sg n) = R
    rw [hou, aw (b0 + b1 + b2 + b3) (by omega), aw (W - (b0 + b1 + b2 + b3)) (by omega)]
    rw [← hR]
    show (if (true = true ∧ R < 0) ∨ (true = false ∧ 0 < R) then 0 else sg R) = R
    rw [if_neg (by simp; omega)]
    unfold sg bro
    split <;> (try split) <;> omega
  have hall : X.all [false, false, false, false] = G := by
    rw [hXX]
    show tY 0 [g0, g1, g2, g3] = G
    simp only [tY, w0, w1, w2, w3]
    exact hG.symm
  have hset : X.setI [false, false, false, false] R = [(0, b0 + (f1 - f0)), (1, b1 + (f2 - f1)), (2, b2 + (f3 - f2)), (3, b3 + (f4 - f3))] := by
    have l1 : X.low [false, false, false, false] R = [] := by
      unfold Fx.low
      rw [hall, hXX]
      show List.filter _ [0, 1, 2, 3] = []
      refine List.filter_eq_nil_iff.2 fun i hi => ?_
      simp only [List.mem_cons, List.not_mem_nil, or_false] at hi
      rcases hi with rfl | rfl | rfl | rfl
      · exact fun h => Bool.noConfusion ((tgt_itB hb0 hg0 (by omega) (by omega)).1.symm.trans h)
      · exact fun h => Bool.noConfusion ((tgt_itB hb1 hg1 (by omega) (by omega)).1.symm.trans h)
      · exact fun h => Bool.noConfusion ((tgt_itB hb2 hg2 (by omega) (by omega)).1.symm.trans h)
      · exact fun h => Bool.noConfusion ((tgt_itB hb3 hg3 (by omega) (by omega)).1.symm.trans h)
    have l2 : X.hig [false, false, false, false] R = [] := by
      unfold Fx.hig
      rw [hall, hXX]
      show List.filter _ [0, 1, 2, 3] = []
      refine List.filter_eq_nil_iff.2 fun i hi => ?_
      simp only [List.mem_cons, List.not_mem_nil, or_false] at hi
      rcases hi with rfl | rfl | rfl | rfl
      all_goals
        rw [Bool.and_eq_true]
        exact fun h => Bool.noConfusion h.2
    unfold Fx.setI
    rw [if_pos ⟨l1, l2⟩]
    unfold Fx.shs
    have e : X.ws [false, false, false, false] = [g0, g1, g2, g3] := by rw [hXX]; rfl
    rw [e, hshr, hXX]
    show [((0 : Int), cl (wrap64 (b0 + (f1 - f0)))), ((1 : Int), cl (wrap64 (b1 + (f2 - f1)))), ((2 : Int), cl (wrap64 (b2 + (f3 - f2)))), ((3 : Int), cl (wrap64 (b3 + (f4 - f3))))] = _
    rw [c (b0 + (f1 - f0)) (by omega) (by omega), c (b1 + (f2 - f1)) (by omega) (by omega), c (b2 + (f3 - f2)) (by omega) (by omega), c (b3 + (f4 - f3)) (by omega) (by omega)]
  rw [← hXX]
  unfold Fx.runI
  rw [if_neg (by decide), hrI, hset]
  rfl
def rowF (b g : Int) : ah := { mH with grow := g, basis := ⟨1, b⟩ }
def sdR : ao := ⟨77, 0, 0, false, false, 1, 77⟩
theorem rowF_ok {b g : Int} (hb : 0 ≤ b ∧ b ≤ 1000) (hg : 1 ≤ g ∧ g ≤ 5) : gP (rowF b g) = true := by
  have e : stN (rowF b g) = (rng 1 1 4 && (rng 1 1 3 && (rng 1 1 6 && (rng 1 1 5 && (rng 0 0 5 && (rng 2 1 6 && (rng 0 (-1000) 1000 && (rng g 0 1000 && (rng 0 0 1000 && (rng 0 0 6400 && (rng 0 0 1048576 && rng 0 0 1048576))))))))))) := rfl
  have e2 : (stV (rowF b g)).all zOk = (zOk ⟨1, b⟩ && (zOk ⟨0, 0⟩ && (zOk ⟨0, 0⟩ && (zOk ⟨0, 0⟩ && (zOk ⟨0, 0⟩ && (zOk ⟨0, 0⟩ && (zOk ⟨0, 0⟩ && true))))))) := rfl
  unfold gP
  rw [e, e2, rH (n := g) (by omega), yJ (x := b) (by omega)]
  rfl
theorem itm_row (p : Pl) (hs : p.s = mH) (hr : p.row = true) (rtl : Bool) {b g : Int} (hb : 0 ≤ b ∧ b ≤ 1000) (B : Bv) (ns : List af) (k : Int) (e : kst ns k = rowF b g) : Cr p (kst ns k) rtl (w9 B p rtl ns k) = itB b g := by
  have c : cl b = b := by unfold cl bro; split <;> (try split) <;> omega
  have h1 : C0 p (rowF b g) rtl = b := by
    unfold C0
    have e0 : vx (rowF b g).basis (knS p.al) = cl b := by unfold vx; rfl
    rw [e0, c, if_pos (by omega)]
  unfold w9
  rw [e, h1, if_pos (by omega)]
  unfold Cr
  have sd : t9 p (rowF b g) rtl true = ⟨0, 0, 0, false, false, 0, 0⟩ := by unfold t9; rw [hs]; cases rtl <;> rfl
  have l1 : Aj (rowF b g) p.row (knS p.al) = 0 := by rw [hr]; kernel_rfl
  have l2 : Bu (rowF b g) p.row (knS p.al) = -1 := by rw [hr]; kernel_rfl
  rw [sd, l1, l2]
  rfl
theorem sid_row (p : Pl) (hs : p.s = mH) (hr : p.row = true) (hac : p.ac = ⟨3, 77⟩) (rtl : Bool) (b g z : Int) : Br p (rowF b g) rtl (ur (rowF b g) ⟨3, z⟩ (Bi p (rowF b g) rtl z) (0, 0)) = sdR := by
  obtain ⟨s, row, pw, ph, iw, ih, al, ac, ks⟩ := p
  dsimp only at hs hr hac
  subst hs hr hac
  have k1 : kcX ⟨mH, true, pw, ph, iw, ih, al, ⟨3, 77⟩, ks⟩ (rowF b g) rtl = ⟨3, 77⟩ := by cases rtl <;> kernel_rfl
  have k2 : Bi ⟨mH, true, pw, ph, iw, ih, al, ⟨3, 77⟩, ks⟩ (rowF b g) rtl z = ⟨3, 77⟩ := by
    unfold Bi
    rw [k1]
    rfl
  rw [k2]
  have e0 : Br ⟨mH, true, pw, ph, iw, ih, al, ⟨3, 77⟩, ks⟩ (rowF b g) rtl (ur (rowF b g) ⟨3, z⟩ ⟨3, 77⟩ (0, 0)) = sdR := by cases rtl <;> kernel_rfl
  exact e0
theorem algP_it (ex : List Int) (k : Int) {a b g : Int} (h : 0 ≤ a ∧ a ≤ 200000) : DH ex a k (itB b g) = a := by
  have e : DH ex a k (itB b g) = wrap64 (a + wrap64 (0 + 0)) := rfl
  rw [e]
  unfold wrap64
  omega
theorem algQ_it (ex : List Int) {sp : Int → Int} (hsp : ∀ i, sp i = 0) (many i k : Int) {a b g s : Int} (h : 0 ≤ a ∧ a ≤ 200000) (hs : 0 ≤ s ∧ s ≤ 200000) : DG ex sp 0 many i a k (itB b g) s = a + s := by
  have e : DG ex sp 0 many i a k (itB b g) s = if i + 1 < many then wrap64 (wrap64 (wrap64 (DH ex a k (itB b g) + wrap64 (wrap64 (s + 0) + 0)) + 0) + sp i) else wrap64 (DH ex a k (itB b g) + wrap64 (wrap64 (s + 0) + 0)) := rfl
  rw [e, algP_it ex k h, hsp]
  have w1 : wrap64 (s + 0) = s := by unfold wrap64; omega
  have w2 : wrap64 (a + s) = a + s := aw _ (by omega)
  rw [w1, w1, w2]
  have w3 : wrap64 (a + s + 0) = a + s := by unfold wrap64; omega
  rw [w3, w3]
  split <;> rfl
theorem alS_row (xs : List ag) (free i : Int) : alS xs free 1 i = 0 := by
  unfold alS btw
  split
  · split <;> rfl
  · rfl
theorem al0_row (xs : List ag) (free : Int) : al0 xs free 1 = 0 := by
  unfold al0 led
  split
  · split <;> rfl
  · rfl
theorem pl_row {ns : List af} {W : Int} (hW : 0 ≤ W ∧ W ≤ 1048576) {ks : List Int} (h1 : kst ns 1 = mH) (hk : flK ns 1 = ks) : plO ns 1 ⟨3, W⟩ ⟨3, 77⟩ = ⟨mH, true, ⟨3, W⟩, ⟨3, 77⟩, ⟨3, W⟩, ⟨3, 77⟩, ⟨3, W⟩, ⟨3, 77⟩, ks⟩ := by
  have c : cl W = W := by unfold cl bro; split <;> (try split) <;> omega
  have e1 : inW mH ⟨3, W⟩ = ⟨3, W⟩ := by
    have e : inW mH ⟨3, W⟩ = ⟨3, cl (wrap64 (cl W - 0))⟩ := by kernel_rfl
    rw [e, c, aw _ (by omega), Int.sub_zero, c]
  have e2 : inH mH ⟨3, 77⟩ = ⟨3, 77⟩ := by kernel_rfl
  unfold plO
  rw [h1, hk, e1, e2]
  rfl
theorem alg_row1 {b0 g0 z0 W : Int} (hb0 : 0 ≤ b0 ∧ b0 ≤ 1000) (hg0 : 1 ≤ g0 ∧ g0 ≤ 5) (hz0 : 0 ≤ z0) (hS : z0 = W) (hW : W ≤ 100000) : alg [itB b0 g0] [z0] 0 W 1 = [0] := by
  have h5 : al5 [itB b0 g0] [z0] 0 W = true := by
    unfold al5 gd
    simp only [List.all_cons, List.all_nil, itB_ok hb0 hg0, rH (n := z0) (l := 0) (m := 1048576) (by omega), rH (n := W) (l := 0) (m := 1048576) (by omega)]
    rfl
  unfold alg
  rw [if_neg (by rw [h5]; decide), al0_row]
  obtain ⟨sp, hsp⟩ : ∃ f, f = alS [itB b0 g0] (alF [itB b0 g0] [z0] 0 W) 1 := ⟨_, rfl⟩
  have hs0 : ∀ i, sp i = 0 := fun i => by rw [hsp]; exact alS_row ..
  rw [← hsp]
  show yG _ sp 0 _ 0 0 0 [(itB b0 g0, z0)] = _
  simp only [yG]
  rw [algP_it _ _ (a := 0) (by omega)]
theorem row_box1 {b0 g0 W : Int} (hb0 : 0 ≤ b0 ∧ b0 ≤ 1000) (hg0 : 1 ≤ g0 ∧ g0 ≤ 5) (hW : b0 < W) (hW1 : W ≤ 100000) : ∃ z0 : Int, 0 ≤ z0 ∧ z0 = W ∧ ∀ rtl : Bool, (sbO [av mH [2], aK (rowF b0 g0)] 1 ⟨3, W⟩ ⟨3, 77⟩ rtl).frames = [⟨2, if rtl then W - (0) - z0 else 0, 0, z0, 77⟩] := by
  obtain ⟨z0, hf, hz0, hS⟩ := flx_row1 hb0 hg0 hW hW1
  refine ⟨z0, hz0, hS, fun rtl => ?_⟩
  have ht : aM [av mH [2], aK (rowF b0 g0)] = true := s8 (by kernel_rfl) (rowF_ok hb0 hg0)
  have o1 : zd [av mH [2], aK (rowF b0 g0)] 1 ⟨3, W⟩ ⟨3, 77⟩ = true := by
    unfold zd
    rw [ht]
    have r2 : yX ⟨3, W⟩ = true := by
      unfold yX rng
      simp
      omega
    rw [r2]
    rfl
  unfold sbO
  rw [o1, if_neg (by decide)]
  have hbx : uX [av mH [2], aK (rowF b0 g0)] rtl 4 1 ⟨3, W⟩ ⟨3, 77⟩ = uV (uX [av mH [2], aK (rowF b0 g0)] rtl 3) (plO [av mH [2], aK (rowF b0 g0)] 1 ⟨3, W⟩ ⟨3, 77⟩) rtl [av mH [2], aK (rowF b0 g0)] := by
    conv => lhs; unfold uX Cg
    rfl
  rw [hbx, pl_row (ks := [2]) (by omega) rfl rfl]
  obtain ⟨p, hp⟩ : ∃ p : Pl, p = ⟨mH, true, ⟨3, W⟩, ⟨3, 77⟩, ⟨3, W⟩, ⟨3, 77⟩, ⟨3, W⟩, ⟨3, 77⟩, [2]⟩ := ⟨_, rfl⟩
  have hits : uu (uX [av mH [2], aK (rowF b0 g0)] rtl 3) p rtl [av mH [2], aK (rowF b0 g0)] [2] = [itB b0 g0] := by
    unfold uu
    simp only [List.map_cons, List.map_nil]
    rw [itm_row p (by rw [hp]) (by rw [hp]) rtl hb0 _ _ 2 rfl]
  have hl : mO p [itB b0 g0] = [[0]] := by rw [hp]; kernel_rfl
  have hin : yi p [itB b0 g0] = W := by
    unfold yi tak
    rw [hp]
    show (if (3 : Int) = 3 ∨ _ then cl W else _) = W
    rw [if_pos (.inl rfl)]
    unfold cl bro
    split <;> (try split) <;> omega
  have hzs : mj p [itB b0 g0] = [z0] := by
    have e : mj p [itB b0 g0] = [[0]].flatMap fun l => flx (lit [itB b0 g0] l) (zm p) (yi p [itB b0 g0]) := by
      rw [← hl]
      rfl
    rw [e, hin]
    have e2 : zm p = 0 := by rw [hp]; kernel_rfl
    rw [e2]
    show flx [itB b0 g0] 0 W ++ [] = _
    rw [hf]
    rfl
  have hsd : rE (uX [av mH [2], aK (rowF b0 g0)] rtl 3) p rtl [av mH [2], aK (rowF b0 g0)] ([2].zip [z0]) = [sdR] := by
    have e : ∀ (k b g z : Int), kst [av mH [2], aK (rowF b0 g0)] k = rowF b g → (nod [av mH [2], aK (rowF b0 g0)] k).measured = false → flK [av mH [2], aK (rowF b0 g0)] k = [] → Br p (kst [av mH [2], aK (rowF b0 g0)] k) rtl (uY (uX [av mH [2], aK (rowF b0 g0)] rtl 3) p.row k ⟨3, z⟩ (Bi p (kst [av mH [2], aK (rowF b0 g0)] k) rtl z)) = sdR := fun k b g z h1 h2 h3 => by
      have hb : ∀ w h, uX [av mH [2], aK (rowF b0 g0)] rtl 3 k w h = ur (kst [av mH [2], aK (rowF b0 g0)] k) w h (0, 0) := fun w h => by
        unfold uX Cg
        rw [h2, h3]
        rfl
      unfold uY
      rw [show p.row = true by rw [hp], if_pos rfl, hb, h1]
      exact sid_row p (by rw [hp]) (by rw [hp]) (by rw [hp]) rtl b g z
    unfold rE
    show [Br p (kst [av mH [2], aK (rowF b0 g0)] 2) rtl (uY (uX [av mH [2], aK (rowF b0 g0)] rtl 3) p.row 2 ⟨3, z0⟩ (Bi p (kst [av mH [2], aK (rowF b0 g0)] 2) rtl z0))] = _
    rw [e 2 b0 g0 z0 rfl rfl rfl]
  unfold uV
  rw [← hp]
  rw [show p.kids = [2] by rw [hp], hits, hzs, hsd]
  unfold xp zE
  dsimp only
  rw [hl, hzs, hin]
  have hcs : uW p [[0]] [sdR] = [77] := by rw [hp]; kernel_rfl
  rw [hcs]
  have hfp : rq p [av mH [2], aK (rowF b0 g0)] [sdR] [z0] ([[0]].zip [77]) = [sdR] := by rw [hp]; kernel_rfl
  rw [hfp]
  have hpl : De p [itB b0 g0] W [z0] [0] = [0] := by
    have e : De p [itB b0 g0] W [z0] [0] = alg [itB b0 g0] [z0] 0 W 1 := by rw [hp]; kernel_rfl
    rw [e, alg_row1 hb0 hg0 hz0 hS hW1]
  have hf1 : ux p rtl [itB b0 g0] W (xq p [77]) [z0] [sdR] (Bq p [77]) 0 ([[0]].zip [77]) = ro p rtl W 77 [z0] [sdR] 0 77 (bas (pck [sdR] [0])) (De p [itB b0 g0] W [z0] [0]) 0 [0] ++ [] := by
    have a1 : xq p [77] = 77 := by rw [hp]; kernel_rfl
    have a2 : Bq p [77] = [0] := by rw [hp]; kernel_rfl
    rw [a1, a2]
    rfl
  rw [hf1, hpl, List.append_nil]
  have hm : ∀ a z : Int, 0 ≤ a → 0 ≤ z → a + z ≤ W → wrap64 (Ce W a z rtl + 0) = if rtl then W - a - z else a := fun a z h0 h1 h2 => by
    unfold Ce
    cases rtl
    · simp only [Bool.false_eq_true, if_false]
      exact (aw _ (by omega)).trans (by omega)
    · simp only [if_true]
      rw [aw (W - a) (by omega), aw (W - a - z) (by omega)]
      exact (aw _ (by omega)).trans (by omega)
  have he : ro p rtl W 77 [z0] [sdR] 0 77 (bas (pck [sdR] [0])) [0] 0 [0] = [⟨2, wrap64 (Ce W (0) z0 rtl + 0), 0, z0, 77⟩] := by rw [hp]; cases rtl <;> kernel_rfl
  rw [he, hm (0) z0 (by omega) (by omega) (by omega)]
theorem alg_row2 {b0 g0 b1 g1 z0 z1 W : Int} (hb0 : 0 ≤ b0 ∧ b0 ≤ 1000) (hg0 : 1 ≤ g0 ∧ g0 ≤ 5) (hb1 : 0 ≤ b1 ∧ b1 ≤ 1000) (hg1 : 1 ≤ g1 ∧ g1 ≤ 5) (hz0 : 0 ≤ z0) (hz1 : 0 ≤ z1) (hS : z0 + z1 = W) (hW : W ≤ 100000) : alg [itB b0 g0, itB b1 g1] [z0, z1] 0 W 1 = [0, z0] := by
  have h5 : al5 [itB b0 g0, itB b1 g1] [z0, z1] 0 W = true := by
    unfold al5 gd
    simp only [List.all_cons, List.all_nil, itB_ok hb0 hg0, itB_ok hb1 hg1, rH (n := z0) (l := 0) (m := 1048576) (by omega), rH (n := z1) (l := 0) (m := 1048576) (by omega), rH (n := W) (l := 0) (m := 1048576) (by omega)]
    rfl
  unfold alg
  rw [if_neg (by rw [h5]; decide), al0_row]
  obtain ⟨sp, hsp⟩ : ∃ f, f = alS [itB b0 g0, itB b1 g1] (alF [itB b0 g0, itB b1 g1] [z0, z1] 0 W) 1 := ⟨_, rfl⟩
  have hs0 : ∀ i, sp i = 0 := fun i => by rw [hsp]; exact alS_row ..
  rw [← hsp]
  show yG _ sp 0 _ 0 0 0 [(itB b0 g0, z0), (itB b1 g1, z1)] = _
  simp only [yG]
  rw [algP_it _ _ (a := 0) (by omega), algQ_it _ hs0 _ _ _ (a := 0) (by omega) (by omega)]
  rw [Int.zero_add]
  rw [algP_it _ _ (a := z0) (by omega)]
theorem row_box2 {b0 g0 b1 g1 W : Int} (hb0 : 0 ≤ b0 ∧ b0 ≤ 1000) (hg0 : 1 ≤ g0 ∧ g0 ≤ 5) (hb1 : 0 ≤ b1 ∧ b1 ≤ 1000) (hg1 : 1 ≤ g1 ∧ g1 ≤ 5) (hW : b0 + b1 < W) (hW1 : W ≤ 100000) : ∃ z0 z1 : Int, 0 ≤ z0 ∧ 0 ≤ z1 ∧ z0 + z1 = W ∧ ∀ rtl : Bool, (sbO [av mH [2, 3], aK (rowF b0 g0), aK (rowF b1 g1)] 1 ⟨3, W⟩ ⟨3, 77⟩ rtl).frames = [⟨2, if rtl then W - (0) - z0 else 0, 0, z0, 77⟩, ⟨3, if rtl then W - (z0) - z1 else z0, 0, z1, 77⟩] := by
  obtain ⟨z0, z1, hf, hz0, hz1, hS⟩ := flx_row2 hb0 hg0 hb1 hg1 hW hW1
  refine ⟨z0, z1, hz0, hz1, hS, fun rtl => ?_⟩
  have ht : aM [av mH [2, 3], aK (rowF b0 g0), aK (rowF b1 g1)] = true := s7 (by kernel_rfl) (rowF_ok hb0 hg0) (rowF_ok hb1 hg1)
  have o1 : zd [av mH [2, 3], aK (rowF b0 g0), aK (rowF b1 g1)] 1 ⟨3, W⟩ ⟨3, 77⟩ = true := by
    unfold zd
    rw [ht]
    have r2 : yX ⟨3, W⟩ = true := by
      unfold yX rng
      simp
      omega
    rw [r2]
    rfl
  unfold sbO
  rw [o1, if_neg (by decide)]
  have hbx : uX [av mH [2, 3], aK (rowF b0 g0), aK (rowF b1 g1)] rtl 4 1 ⟨3, W⟩ ⟨3, 77⟩ = uV (uX [av mH [2, 3], aK (rowF b0 g0), aK (rowF b1 g1)] rtl 3) (plO [av mH [2, 3], aK (rowF b0 g0), aK (rowF b1 g1)] 1 ⟨3, W⟩ ⟨3, 77⟩) rtl [av mH [2, 3], aK (rowF b0 g0), aK (rowF b1 g1)] := by
    conv => lhs; unfold uX Cg
    rfl
  rw [hbx, pl_row (ks := [2, 3]) (by omega) rfl rfl]
  obtain ⟨p, hp⟩ : ∃ p : Pl, p = ⟨mH, true, ⟨3, W⟩, ⟨3, 77⟩, ⟨3, W⟩, ⟨3, 77⟩, ⟨3, W⟩, ⟨3, 77⟩, [2, 3]⟩ := ⟨_, rfl⟩
  have hits : uu (uX [av mH [2, 3], aK (rowF b0 g0), aK (rowF b1 g1)] rtl 3) p rtl [av mH [2, 3], aK (rowF b0 g0), aK (rowF b1 g1)] [2, 3] = [itB b0 g0, itB b1 g1] := by
    unfold uu
    simp only [List.map_cons, List.map_nil]
    rw [itm_row p (by rw [hp]) (by rw [hp]) rtl hb0 _ _ 2 rfl, itm_row p (by rw [hp]) (by rw [hp]) rtl hb1 _ _ 3 rfl]
  have hl : mO p [itB b0 g0, itB b1 g1] = [[0, 1]] := by rw [hp]; kernel_rfl
  have hin : yi p [itB b0 g0, itB b1 g1] = W := by
    unfold yi tak
    rw [hp]
    show (if (3 : Int) = 3 ∨ _ then cl W else _) = W
    rw [if_pos (.inl rfl)]
    unfold cl bro
    split <;> (try split) <;> omega
  have hzs : mj p [itB b0 g0, itB b1 g1] = [z0, z1] := by
    have e : mj p [itB b0 g0, itB b1 g1] = [[0, 1]].flatMap fun l => flx (lit [itB b0 g0, itB b1 g1] l) (zm p) (yi p [itB b0 g0, itB b1 g1]) := by
      rw [← hl]
      rfl
    rw [e, hin]
    have e2 : zm p = 0 := by rw [hp]; kernel_rfl
    rw [e2]
    show flx [itB b0 g0, itB b1 g1] 0 W ++ [] = _
    rw [hf]
    rfl
  have hsd : rE (uX [av mH [2, 3], aK (rowF b0 g0), aK (rowF b1 g1)] rtl 3) p rtl [av mH [2, 3], aK (rowF b0 g0), aK (rowF b1 g1)] ([2, 3].zip [z0, z1]) = [sdR, sdR] := by
    have e : ∀ (k b g z : Int), kst [av mH [2, 3], aK (rowF b0 g0), aK (rowF b1 g1)] k = rowF b g → (nod [av mH [2, 3], aK (rowF b0 g0), aK (rowF b1 g1)] k).measured = false → flK [av mH [2, 3], aK (rowF b0 g0), aK (rowF b1 g1)] k = [] → Br p (kst [av mH [2, 3], aK (rowF b0 g0), aK (rowF b1 g1)] k) rtl (uY (uX [av mH [2, 3], aK (rowF b0 g0), aK (rowF b1 g1)] rtl 3) p.row k ⟨3, z⟩ (Bi p (kst [av mH [2, 3], aK (rowF b0 g0), aK (rowF b1 g1)] k) rtl z)) = sdR := fun k b g z h1 h2 h3 => by
      have hb : ∀ w h, uX [av mH [2, 3], aK (rowF b0 g0), aK (rowF b1 g1)] rtl 3 k w h = ur (kst [av mH [2, 3], aK (rowF b0 g0), aK (rowF b1 g1)] k) w h (0, 0) := fun w h => by
        unfold uX Cg
        rw [h2, h3]
        rfl
      unfold uY
      rw [show p.row = true by rw [hp], if_pos rfl, hb, h1]
      exact sid_row p (by rw [hp]) (by rw [hp]) (by rw [hp]) rtl b g z
    unfold rE
    show [Br p (kst [av mH [2, 3], aK (rowF b0 g0), aK (rowF b1 g1)] 2) rtl (uY (uX [av mH [2, 3], aK (rowF b0 g0), aK (rowF b1 g1)] rtl 3) p.row 2 ⟨3, z0⟩ (Bi p (kst [av mH [2, 3], aK (rowF b0 g0), aK (rowF b1 g1)] 2) rtl z0)), Br p (kst [av mH [2, 3], aK (rowF b0 g0), aK (rowF b1 g1)] 3) rtl (uY (uX [av mH [2, 3], aK (rowF b0 g0), aK (rowF b1 g1)] rtl 3) p.row 3 ⟨3, z1⟩ (Bi p (kst [av mH [2, 3], aK (rowF b0 g0), aK (rowF b1 g1)] 3) rtl z1))] = _
    rw [e 2 b0 g0 z0 rfl rfl rfl, e 3 b1 g1 z1 rfl rfl rfl]
  unfold uV
  rw [← hp]
  rw [show p.kids = [2, 3] by rw [hp], hits, hzs, hsd]
  unfold xp zE
  dsimp only
  rw [hl, hzs, hin]
  have hcs : uW p [[0, 1]] [sdR, sdR] = [77] := by rw [hp]; kernel_rfl
  rw [hcs]
  have hfp : rq p [av mH [2, 3], aK (rowF b0 g0), aK (rowF b1 g1)] [sdR, sdR] [z0, z1] ([[0, 1]].zip [77]) = [sdR, sdR] := by rw [hp]; kernel_rfl
  rw [hfp]
  have hpl : De p [itB b0 g0, itB b1 g1] W [z0, z1] [0, 1] = [0, z0] := by
    have e : De p [itB b0 g0, itB b1 g1] W [z0, z1] [0, 1] = alg [itB b0 g0, itB b1 g1] [z0, z1] 0 W 1 := by rw [hp]; kernel_rfl
    rw [e, alg_row2 hb0 hg0 hb1 hg1 hz0 hz1 hS hW1]
  have hf1 : ux p rtl [itB b0 g0, itB b1 g1] W (xq p [77]) [z0, z1] [sdR, sdR] (Bq p [77]) 0 ([[0, 1]].zip [77]) = ro p rtl W 77 [z0, z1] [sdR, sdR] 0 77 (bas (pck [sdR, sdR] [0, 1])) (De p [itB b0 g0, itB b1 g1] W [z0, z1] [0, 1]) 0 [0, 1] ++ [] := by
    have a1 : xq p [77] = 77 := by rw [hp]; kernel_rfl
    have a2 : Bq p [77] = [0] := by rw [hp]; kernel_rfl
    rw [a1, a2]
    rfl
  rw [hf1, hpl, List.append_nil]
  have hm : ∀ a z : Int, 0 ≤ a → 0 ≤ z → a + z ≤ W → wrap64 (Ce W a z rtl + 0) = if rtl then W - a - z else a := fun a z h0 h1 h2 => by
    unfold Ce
    cases rtl
    · simp only [Bool.false_eq_true, if_false]
      exact (aw _ (by omega)).trans (by omega)
    · simp only [if_true]
      rw [aw (W - a) (by omega), aw (W - a - z) (by omega)]
      exact (aw _ (by omega)).trans (by omega)
  have he : ro p rtl W 77 [z0, z1] [sdR, sdR] 0 77 (bas (pck [sdR, sdR] [0, 1])) [0, z0] 0 [0, 1] = [⟨2, wrap64 (Ce W (0) z0 rtl + 0), 0, z0, 77⟩, ⟨3, wrap64 (Ce W (z0) z1 rtl + 0), 0, z1, 77⟩] := by rw [hp]; cases rtl <;> kernel_rfl
  rw [he, hm (0) z0 (by omega) (by omega) (by omega), hm (z0) z1 (by omega) (by omega) (by omega)]
theorem alg_row3 {b0 g0 b1 g1 b2 g2 z0 z1 z2 W : Int} (hb0 : 0 ≤ b0 ∧ b0 ≤ 1000) (hg0 : 1 ≤ g0 ∧ g0 ≤ 5) (hb1 : 0 ≤ b1 ∧ b1 ≤ 1000) (hg1 : 1 ≤ g1 ∧ g1 ≤ 5) (hb2 : 0 ≤ b2 ∧ b2 ≤ 1000) (hg2 : 1 ≤ g2 ∧ g2 ≤ 5) (hz0 : 0 ≤ z0) (hz1 : 0 ≤ z1) (hz2 : 0 ≤ z2) (hS : z0 + z1 + z2 = W) (hW : W ≤ 100000) : alg [itB b0 g0, itB b1 g1, itB b2 g2] [z0, z1, z2] 0 W 1 = [0, z0, z0 + z1] := by
  have h5 : al5 [itB b0 g0, itB b1 g1, itB b2 g2] [z0, z1, z2] 0 W = true := by
    unfold al5 gd
    simp only [List.all_cons, List.all_nil, itB_ok hb0 hg0, itB_ok hb1 hg1, itB_ok hb2 hg2, rH (n := z0) (l := 0) (m := 1048576) (by omega), rH (n := z1) (l := 0) (m := 1048576) (by omega), rH (n := z2) (l := 0) (m := 1048576) (by omega), rH (n := W) (l := 0) (m := 1048576) (by omega)]
    rfl
  unfold alg
  rw [if_neg (by rw [h5]; decide), al0_row]
  obtain ⟨sp, hsp⟩ : ∃ f, f = alS [itB b0 g0, itB b1 g1, itB b2 g2] (alF [itB b0 g0, itB b1 g1, itB b2 g2] [z0, z1, z2] 0 W) 1 := ⟨_, rfl⟩
  have hs0 : ∀ i, sp i = 0 := fun i => by rw [hsp]; exact alS_row ..
  rw [← hsp]
  show yG _ sp 0 _ 0 0 0 [(itB b0 g0, z0), (itB b1 g1, z1), (itB b2 g2, z2)] = _
  simp only [yG]
  rw [algP_it _ _ (a := 0) (by omega), algQ_it _ hs0 _ _ _ (a := 0) (by omega) (by omega)]
  rw [Int.zero_add]
  rw [algP_it _ _ (a := z0) (by omega), algQ_it _ hs0 _ _ _ (a := z0) (by omega) (by omega)]
  rw [algP_it _ _ (a := z0 + z1) (by omega)]
theorem row_box3 {b0 g0 b1 g1 b2 g2 W : Int} (hb0 : 0 ≤ b0 ∧ b0 ≤ 1000) (hg0 : 1 ≤ g0 ∧ g0 ≤ 5) (hb1 : 0 ≤ b1 ∧ b1 ≤ 1000) (hg1 : 1 ≤ g1 ∧ g1 ≤ 5) (hb2 : 0 ≤ b2 ∧ b2 ≤ 1000) (hg2 : 1 ≤ g2 ∧ g2 ≤ 5) (hW : b0 + b1 + b2 < W) (hW1 : W ≤ 100000) : ∃ z0 z1 z2 : Int, 0 ≤ z0 ∧ 0 ≤ z1 ∧ 0 ≤ z2 ∧ z0 + z1 + z2 = W ∧ ∀ rtl : Bool, (sbO [av mH [2, 3, 4], aK (rowF b0 g0), aK (rowF b1 g1), aK (rowF b2 g2)] 1 ⟨3, W⟩ ⟨3, 77⟩ rtl).frames = [⟨2, if rtl then W - (0) - z0 else 0, 0, z0, 77⟩, ⟨3, if rtl then W - (z0) - z1 else z0, 0, z1, 77⟩, ⟨4, if rtl then W - (z0 + z1) - z2 else z0 + z1, 0, z2, 77⟩] := by
  obtain ⟨z0, z1, z2, hf, hz0, hz1, hz2, hS⟩ := flx_row3 hb0 hg0 hb1 hg1 hb2 hg2 hW hW1
  refine ⟨z0, z1, z2, hz0, hz1, hz2, hS, fun rtl => ?_⟩
  have ht : aM [av mH [2, 3, 4], aK (rowF b0 g0), aK (rowF b1 g1), aK (rowF b2 g2)] = true := wv (by kernel_rfl) (rowF_ok hb0 hg0) (rowF_ok hb1 hg1) (rowF_ok hb2 hg2)
  have o1 : zd [av mH [2, 3, 4], aK (rowF b0 g0), aK (rowF b1 g1), aK (rowF b2 g2)] 1 ⟨3, W⟩ ⟨3, 77⟩ = true := by
    unfold zd
    rw [ht]
    have r2 : yX ⟨3, W⟩ = true := by
      unfold yX rng
      simp
      omega
    rw [r2]
    rfl
  unfold sbO
  rw [o1, if_neg (by decide)]
  have hbx : uX [av mH [2, 3, 4], aK (rowF b0 g0), aK (rowF b1 g1), aK (rowF b2 g2)] rtl 4 1 ⟨3, W⟩ ⟨3, 77⟩ = uV (uX [av mH [2, 3, 4], aK (rowF b0 g0), aK (rowF b1 g1), aK (rowF b2 g2)] rtl 3) (plO [av mH [2, 3, 4], aK (rowF b0 g0), aK (rowF b1 g1), aK (rowF b2 g2)] 1 ⟨3, W⟩ ⟨3, 77⟩) rtl [av mH [2, 3, 4], aK (rowF b0 g0), aK (rowF b1 g1), aK (rowF b2 g2)] := by
    conv => lhs; unfold uX Cg
    rfl
  rw [hbx, pl_row (ks := [2, 3, 4]) (by omega) rfl rfl]
  obtain ⟨p, hp⟩ : ∃ p : Pl, p = ⟨mH, true, ⟨3, W⟩, ⟨3, 77⟩, ⟨3, W⟩, ⟨3, 77⟩, ⟨3, W⟩, ⟨3, 77⟩, [2, 3, 4]⟩ := ⟨_, rfl⟩
  have hits : uu (uX [av mH [2, 3, 4], aK (rowF b0 g0), aK (rowF b1 g1), aK (rowF b2 g2)] rtl 3) p rtl [av mH [2, 3, 4], aK (rowF b0 g0), aK (rowF b1 g1), aK (rowF b2 g2)] [2, 3, 4] = [itB b0 g0, itB b1 g1, itB b2 g2] := by
    unfold uu
    simp only [List.map_cons, List.map_nil]
    rw [itm_row p (by rw [hp]) (by rw [hp]) rtl hb0 _ _ 2 rfl, itm_row p (by rw [hp]) (by rw [hp]) rtl hb1 _ _ 3 rfl, itm_row p (by rw [hp]) (by rw [hp]) rtl hb2 _ _ 4 rfl]
  have hl : mO p [itB b0 g0, itB b1 g1, itB b2 g2] = [[0, 1, 2]] := by rw [hp]; kernel_rfl
  have hin : yi p [itB b0 g0, itB b1 g1, itB b2 g2] = W := by
    unfold yi tak
    rw [hp]
    show (if (3 : Int) = 3 ∨ _ then cl W else _) = W
    rw [if_pos (.inl rfl)]
    unfold cl bro
    split <;> (try split) <;> omega
  have hzs : mj p [itB b0 g0, itB b1 g1, itB b2 g2] = [z0, z1, z2] := by
    have e : mj p [itB b0 g0, itB b1 g1, itB b2 g2] = [[0, 1, 2]].flatMap fun l => flx (lit [itB b0 g0, itB b1 g1, itB b2 g2] l) (zm p) (yi p [itB b0 g0, itB b1 g1, itB b2 g2]) := by
      rw [← hl]
      rfl
    rw [e, hin]
    have e2 : zm p = 0 := by rw [hp]; kernel_rfl
    rw [e2]
    show flx [itB b0 g0, itB b1 g1, itB b2 g2] 0 W ++ [] = _
    rw [hf]
    rfl
  have hsd : rE (uX [av mH [2, 3, 4], aK (rowF b0 g0), aK (rowF b1 g1), aK (rowF b2 g2)] rtl 3) p rtl [av mH [2, 3, 4], aK (rowF b0 g0), aK (rowF b1 g1), aK (rowF b2 g2)] ([2, 3, 4].zip [z0, z1, z2]) = [sdR, sdR, sdR] := by
    have e : ∀ (k b g z : Int), kst [av mH [2, 3, 4], aK (rowF b0 g0), aK (rowF b1 g1), aK (rowF b2 g2)] k = rowF b g → (nod [av mH [2, 3, 4], aK (rowF b0 g0), aK (rowF b1 g1), aK (rowF b2 g2)] k).measured = false → flK [av mH [2, 3, 4], aK (rowF b0 g0), aK (rowF b1 g1), aK (rowF b2 g2)] k = [] → Br p (kst [av mH [2, 3, 4], aK (rowF b0 g0), aK (rowF b1 g1), aK (rowF b2 g2)] k) rtl (uY (uX [av mH [2, 3, 4], aK (rowF b0 g0), aK (rowF b1 g1), aK (rowF b2 g2)] rtl 3) p.row k ⟨3, z⟩ (Bi p (kst [av mH [2, 3, 4], aK (rowF b0 g0), aK (rowF b1 g1), aK (rowF b2 g2)] k) rtl z)) = sdR := fun k b g z h1 h2 h3 => by
      have hb : ∀ w h, uX [av mH [2, 3, 4], aK (rowF b0 g0), aK (rowF b1 g1), aK (rowF b2 g2)] rtl 3 k w h = ur (kst [av mH [2, 3, 4], aK (rowF b0 g0), aK (rowF b1 g1), aK (rowF b2 g2)] k) w h (0, 0) := fun w h => by
        unfold uX Cg
        rw [h2, h3]
        rfl
      unfold uY
      rw [show p.row = true by rw [hp], if_pos rfl, hb, h1]
      exact sid_row p (by rw [hp]) (by rw [hp]) (by rw [hp]) rtl b g z
    unfold rE
    show [Br p (kst [av mH [2, 3, 4], aK (rowF b0 g0), aK (rowF b1 g1), aK (rowF b2 g2)] 2) rtl (uY (uX [av mH [2, 3, 4], aK (rowF b0 g0), aK (rowF b1 g1), aK (rowF b2 g2)] rtl 3) p.row 2 ⟨3, z0⟩ (Bi p (kst [av mH [2, 3, 4], aK (rowF b0 g0), aK (rowF b1 g1), aK (rowF b2 g2)] 2) rtl z0)), Br p (kst [av mH [2, 3, 4], aK (rowF b0 g0), aK (rowF b1 g1), aK (rowF b2 g2)] 3) rtl (uY (uX [av mH [2, 3, 4], aK (rowF b0 g0), aK (rowF b1 g1), aK (rowF b2 g2)] rtl 3) p.row 3 ⟨3, z1⟩ (Bi p (kst [av mH [2, 3, 4], aK (rowF b0 g0), aK (rowF b1 g1), aK (rowF b2 g2)] 3) rtl z1)), Br p (kst [av mH [2, 3, 4], aK (rowF b0 g0), aK (rowF b1 g1), aK (rowF b2 g2)] 4) rtl (uY (uX [av mH [2, 3, 4], aK (rowF b0 g0), aK (rowF b1 g1), aK (rowF b2 g2)] rtl 3) p.row 4 ⟨3, z2⟩ (Bi p (kst [av mH [2, 3, 4], aK (rowF b0 g0), aK (rowF b1 g1), aK (rowF b2 g2)] 4) rtl z2))] = _
    rw [e 2 b0 g0 z0 rfl rfl rfl, e 3 b1 g1 z1 rfl rfl rfl, e 4 b2 g2 z2 rfl rfl rfl]
  unfold uV
  rw [← hp]
  rw [show p.kids = [2, 3, 4] by rw [hp], hits, hzs, hsd]
  unfold xp zE
  dsimp only
  rw [hl, hzs, hin]
  have hcs : uW p [[0, 1, 2]] [sdR, sdR, sdR] = [77] := by rw [hp]; kernel_rfl
  rw [hcs]
  have hfp : rq p [av mH [2, 3, 4], aK (rowF b0 g0), aK (rowF b1 g1), aK (rowF b2 g2)] [sdR, sdR, sdR] [z0, z1, z2] ([[0, 1, 2]].zip [77]) = [sdR, sdR, sdR] := by rw [hp]; kernel_rfl
  rw [hfp]
  have hpl : De p [itB b0 g0, itB b1 g1, itB b2 g2] W [z0, z1, z2] [0, 1, 2] = [0, z0, z0 + z1] := by
    have e : De p [itB b0 g0, itB b1 g1, itB b2 g2] W [z0, z1, z2] [0, 1, 2] = alg [itB b0 g0, itB b1 g1, itB b2 g2] [z0, z1, z2] 0 W 1 := by rw [hp]; kernel_rfl
    rw [e, alg_row3 hb0 hg0 hb1 hg1 hb2 hg2 hz0 hz1 hz2 hS hW1]
  have hf1 : ux p rtl [itB b0 g0, itB b1 g1, itB b2 g2] W (xq p [77]) [z0, z1, z2] [sdR, sdR, sdR] (Bq p [77]) 0 ([[0, 1, 2]].zip [77]) = ro p rtl W 77 [z0, z1, z2] [sdR, sdR, sdR] 0 77 (bas (pck [sdR, sdR, sdR] [0, 1, 2])) (De p [itB b0 g0, itB b1 g1, itB b2 g2] W [z0, z1, z2] [0, 1, 2]) 0 [0, 1, 2] ++ [] := by
    have a1 : xq p [77] = 77 := by rw [hp]; kernel_rfl
    have a2 : Bq p [77] = [0] := by rw [hp]; kernel_rfl
    rw [a1, a2]
    rfl
  rw [hf1, hpl, List.append_nil]
  have hm : ∀ a z : Int, 0 ≤ a → 0 ≤ z → a + z ≤ W → wrap64 (Ce W a z rtl + 0) = if rtl then W - a - z else a := fun a z h0 h1 h2 => by
    unfold Ce
    cases rtl
    · simp only [Bool.false_eq_true, if_false]
      exact (aw _ (by omega)).trans (by omega)
    · simp only [if_true]
      rw [aw (W - a) (by omega), aw (W - a - z) (by omega)]
      exact (aw _ (by omega)).trans (by omega)
  have he : ro p rtl W 77 [z0, z1, z2] [sdR, sdR, sdR] 0 77 (bas (pck [sdR, sdR, sdR] [0, 1, 2])) [0, z0, z0 + z1] 0 [0, 1, 2] = [⟨2, wrap64 (Ce W (0) z0 rtl + 0), 0, z0, 77⟩, ⟨3, wrap64 (Ce W (z0) z1 rtl + 0), 0, z1, 77⟩, ⟨4, wrap64 (Ce W (z0 + z1) z2 rtl + 0), 0, z2, 77⟩] := by rw [hp]; cases rtl <;> kernel_rfl
  rw [he, hm (0) z0 (by omega) (by omega) (by omega), hm (z0) z1 (by omega) (by omega) (by omega), hm (z0 + z1) z2 (by omega) (by omega) (by omega)]
theorem alg_row4 {b0 g0 b1 g1 b2 g2 b3 g3 z0 z1 z2 z3 W : Int} (hb0 : 0 ≤ b0 ∧ b0 ≤ 1000) (hg0 : 1 ≤ g0 ∧ g0 ≤ 5) (hb1 : 0 ≤ b1 ∧ b1 ≤ 1000) (hg1 : 1 ≤ g1 ∧ g1 ≤ 5) (hb2 : 0 ≤ b2 ∧ b2 ≤ 1000) (hg2 : 1 ≤ g2 ∧ g2 ≤ 5) (hb3 : 0 ≤ b3 ∧ b3 ≤ 1000) (hg3 : 1 ≤ g3 ∧ g3 ≤ 5) (hz0 : 0 ≤ z0) (hz1 : 0 ≤ z1) (hz2 : 0 ≤ z2) (hz3 : 0 ≤ z3) (hS : z0 + z1 + z2 + z3 = W) (hW : W ≤ 100000) : alg [itB b0 g0, itB b1 g1, itB b2 g2, itB b3 g3] [z0, z1, z2, z3] 0 W 1 = [0, z0, z0 + z1, z0 + z1 + z2] := by
  have h5 : al5 [itB b0 g0, itB b1 g1, itB b2 g2, itB b3 g3] [z0, z1, z2, z3] 0 W = true := by
    unfold al5 gd
    simp only [List.all_cons, List.all_nil, itB_ok hb0 hg0, itB_ok hb1 hg1, itB_ok hb2 hg2, itB_ok hb3 hg3, rH (n := z0) (l := 0) (m := 1048576) (by omega), rH (n := z1) (l := 0) (m := 1048576) (by omega), rH (n := z2) (l := 0) (m := 1048576) (by omega), rH (n := z3) (l := 0) (m := 1048576) (by omega), rH (n := W) (l := 0) (m := 1048576) (by omega)]
    rfl
  unfold alg
  rw [if_neg (by rw [h5]; decide), al0_row]
  obtain ⟨sp, hsp⟩ : ∃ f, f = alS [itB b0 g0, itB b1 g1, itB b2 g2, itB b3 g3] (alF [itB b0 g0, itB b1 g1, itB b2 g2, itB b3 g3] [z0, z1, z2, z3] 0 W) 1 := ⟨_, rfl⟩
  have hs0 : ∀ i, sp i = 0 := fun i => by rw [hsp]; exact alS_row ..
  rw [← hsp]
  show yG _ sp 0 _ 0 0 0 [(itB b0 g0, z0), (itB b1 g1, z1), (itB b2 g2, z2), (itB b3 g3, z3)] = _
  simp only [yG]
  rw [algP_it _ _ (a := 0) (by omega), algQ_it _ hs0 _ _ _ (a := 0) (by omega) (by omega)]
  rw [Int.zero_add]
  rw [algP_it _ _ (a := z0) (by omega), algQ_it _ hs0 _ _ _ (a := z0) (by omega) (by omega)]
  rw [algP_it _ _ (a := z0 + z1) (by omega), algQ_it _ hs0 _ _ _ (a := z0 + z1) (by omega) (by omega)]
  rw [algP_it _ _ (a := z0 + z1 + z2) (by omega)]
theorem row_box4 {b0 g0 b1 g1 b2 g2 b3 g3 W : Int} (hb0 : 0 ≤ b0 ∧ b0 ≤ 1000) (hg0 : 1 ≤ g0 ∧ g0 ≤ 5) (hb1 : 0 ≤ b1 ∧ b1 ≤ 1000) (hg1 : 1 ≤ g1 ∧ g1 ≤ 5) (hb2 : 0 ≤ b2 ∧ b2 ≤ 1000) (hg2 : 1 ≤ g2 ∧ g2 ≤ 5) (hb3 : 0 ≤ b3 ∧ b3 ≤ 1000) (hg3 : 1 ≤ g3 ∧ g3 ≤ 5) (hW : b0 + b1 + b2 + b3 < W) (hW1 : W ≤ 100000) : ∃ z0 z1 z2 z3 : Int, 0 ≤ z0 ∧ 0 ≤ z1 ∧ 0 ≤ z2 ∧ 0 ≤ z3 ∧ z0 + z1 + z2 + z3 = W ∧ ∀ rtl : Bool, (sbO [av mH [2, 3, 4, 5], aK (rowF b0 g0), aK (rowF b1 g1), aK (rowF b2 g2), aK (rowF b3 g3)] 1 ⟨3, W⟩ ⟨3, 77⟩ rtl).frames = [⟨2, if rtl then W - (0) - z0 else 0, 0, z0, 77⟩, ⟨3, if rtl then W - (z0) - z1 else z0, 0, z1, 77⟩, ⟨4, if rtl then W - (z0 + z1) - z2 else z0 + z1, 0, z2, 77⟩, ⟨5, if rtl then W - (z0 + z1 + z2) - z3 else z0 + z1 + z2, 0, z3, 77⟩] := by
  obtain ⟨z0, z1, z2, z3, hf, hz0, hz1, hz2, hz3, hS⟩ := flx_row4 hb0 hg0 hb1 hg1 hb2 hg2 hb3 hg3 hW hW1
  refine ⟨z0, z1, z2, z3, hz0, hz1, hz2, hz3, hS, fun rtl => ?_⟩
  have ht : aM [av mH [2, 3, 4, 5], aK (rowF b0 g0), aK (rowF b1 g1), aK (rowF b2 g2), aK (rowF b3 g3)] = true := kidsT4 (by kernel_rfl) (rowF_ok hb0 hg0) (rowF_ok hb1 hg1) (rowF_ok hb2 hg2) (rowF_ok hb3 hg3)
  have o1 : zd [av mH [2, 3, 4, 5], aK (rowF b0 g0), aK (rowF b1 g1), aK (rowF b2 g2), aK (rowF b3 g3)] 1 ⟨3, W⟩ ⟨3, 77⟩ = true := by
    unfold zd
    rw [ht]
    have r2 : yX ⟨3, W⟩ = true := by
      unfold yX rng
      simp
      omega
    rw [r2]
    rfl
  unfold sbO
  rw [o1, if_neg (by decide)]
  have hbx : uX [av mH [2, 3, 4, 5], aK (rowF b0 g0), aK (rowF b1 g1), aK (rowF b2 g2), aK (rowF b3 g3)] rtl 4 1 ⟨3, W⟩ ⟨3, 77⟩ = uV (uX [av mH [2, 3, 4, 5], aK (rowF b0 g0), aK (rowF b1 g1), aK (rowF b2 g2), aK (rowF b3 g3)] rtl 3) (plO [av mH [2, 3, 4, 5], aK (rowF b0 g0), aK (rowF b1 g1), aK (rowF b2 g2), aK (rowF b3 g3)] 1 ⟨3, W⟩ ⟨3, 77⟩) rtl [av mH [2, 3, 4, 5], aK (rowF b0 g0), aK (rowF b1 g1), aK (rowF b2 g2), aK (rowF b3 g3)] := by
    conv => lhs; unfold uX Cg
    rfl
  rw [hbx, pl_row (ks := [2, 3, 4, 5]) (by omega) rfl rfl]
  obtain ⟨p, hp⟩ : ∃ p : Pl, p = ⟨mH, true, ⟨3, W⟩, ⟨3, 77⟩, ⟨3, W⟩, ⟨3, 77⟩, ⟨3, W⟩, ⟨3, 77⟩, [2, 3, 4, 5]⟩ := ⟨_, rfl⟩
  have hits : uu (uX [av mH [2, 3, 4, 5], aK (rowF b0 g0), aK (rowF b1 g1), aK (rowF b2 g2), aK (rowF b3 g3)] rtl 3) p rtl [av mH [2, 3, 4, 5], aK (rowF b0 g0), aK (rowF b1 g1), aK (rowF b2 g2), aK (rowF b3 g3)] [2, 3, 4, 5] = [itB b0 g0, itB b1 g1, itB b2 g2, itB b3 g3] := by
    unfold uu
    simp only [List.map_cons, List.map_nil]
    rw [itm_row p (by rw [hp]) (by rw [hp]) rtl hb0 _ _ 2 rfl, itm_row p (by rw [hp]) (by rw [hp]) rtl hb1 _ _ 3 rfl, itm_row p (by rw [hp]) (by rw [hp]) rtl hb2 _ _ 4 rfl, itm_row p (by rw [hp]) (by rw [hp]) rtl hb3 _ _ 5 rfl]
  have hl : mO p [itB b0 g0, itB b1 g1, itB b2 g2, itB b3 g3] = [[0, 1, 2, 3]] := by rw [hp]; kernel_rfl
  have hin : yi p [itB b0 g0, itB b1 g1, itB b2 g2, itB b3 g3] = W := by
    unfold yi tak
    rw [hp]
    show (if (3 : Int) = 3 ∨ _ then cl W else _) = W
    rw [if_pos (.inl rfl)]
    unfold cl bro
    split <;> (try split) <;> omega
  have hzs : mj p [itB b0 g0, itB b1 g1, itB b2 g2, itB b3 g3] = [z0, z1, z2, z3] := by
    have e : mj p [itB b0 g0, itB b1 g1, itB b2 g2, itB b3 g3] = [[0, 1, 2, 3]].flatMap fun l => flx (lit [itB b0 g0, itB b1 g1, itB b2 g2, itB b3 g3] l) (zm p) (yi p [itB b0 g0, itB b1 g1, itB b2 g2, itB b3 g3]) := by
      rw [← hl]
      rfl
    rw [e, hin]
    have e2 : zm p = 0 := by rw [hp]; kernel_rfl
    rw [e2]
    show flx [itB b0 g0, itB b1 g1, itB b2 g2, itB b3 g3] 0 W ++ [] = _
    rw [hf]
    rfl
  have hsd : rE (uX [av mH [2, 3, 4, 5], aK (rowF b0 g0), aK (rowF b1 g1), aK (rowF b2 g2), aK (rowF b3 g3)] rtl 3) p rtl [av mH [2, 3, 4, 5], aK (rowF b0 g0), aK (rowF b1 g1), aK (rowF b2 g2), aK (rowF b3 g3)] ([2, 3, 4, 5].zip [z0, z1, z2, z3]) = [sdR, sdR, sdR, sdR] := by
    have e : ∀ (k b g z : Int), kst [av mH [2, 3, 4, 5], aK (rowF b0 g0), aK (rowF b1 g1), aK (rowF b2 g2), aK (rowF b3 g3)] k = rowF b g → (nod [av mH [2, 3, 4, 5], aK (rowF b0 g0), aK (rowF b1 g1), aK (rowF b2 g2), aK (rowF b3 g3)] k).measured = false → flK [av mH [2, 3, 4, 5], aK (rowF b0 g0), aK (rowF b1 g1), aK (rowF b2 g2), aK (rowF b3 g3)] k = [] → Br p (kst [av mH [2, 3, 4, 5], aK (rowF b0 g0), aK (rowF b1 g1), aK (rowF b2 g2), aK (rowF b3 g3)] k) rtl (uY (uX [av mH [2, 3, 4, 5], aK (rowF b0 g0), aK (rowF b1 g1), aK (rowF b2 g2), aK (rowF b3 g3)] rtl 3) p.row k ⟨3, z⟩ (Bi p (kst [av mH [2, 3, 4, 5], aK (rowF b0 g0), aK (rowF b1 g1), aK (rowF b2 g2), aK (rowF b3 g3)] k) rtl z)) = sdR := fun k b g z h1 h2 h3 => by
      have hb : ∀ w h, uX [av mH [2, 3, 4, 5], aK (rowF b0 g0), aK (rowF b1 g1), aK (rowF b2 g2), aK (rowF b3 g3)] rtl 3 k w h = ur (kst [av mH [2, 3, 4, 5], aK (rowF b0 g0), aK (rowF b1 g1), aK (rowF b2 g2), aK (rowF b3 g3)] k) w h (0, 0) := fun w h => by
        unfold uX Cg
        rw [h2, h3]
        rfl
      unfold uY
      rw [show p.row = true by rw [hp], if_pos rfl, hb, h1]
      exact sid_row p (by rw [hp]) (by rw [hp]) (by rw [hp]) rtl b g z
    unfold rE
    show [Br p (kst [av mH [2, 3, 4, 5], aK (rowF b0 g0), aK (rowF b1 g1), aK (rowF b2 g2), aK (rowF b3 g3)] 2) rtl (uY (uX [av mH [2, 3, 4, 5], aK (rowF b0 g0), aK (rowF b1 g1), aK (rowF b2 g2), aK (rowF b3 g3)] rtl 3) p.row 2 ⟨3, z0⟩ (Bi p (kst [av mH [2, 3, 4, 5], aK (rowF b0 g0), aK (rowF b1 g1), aK (rowF b2 g2), aK (rowF b3 g3)] 2) rtl z0)), Br p (kst [av mH [2, 3, 4, 5], aK (rowF b0 g0), aK (rowF b1 g1), aK (rowF b2 g2), aK (rowF b3 g3)] 3) rtl (uY (uX [av mH [2, 3, 4, 5], aK (rowF b0 g0), aK (rowF b1 g1), aK (rowF b2 g2), aK (rowF b3 g3)] rtl 3) p.row 3 ⟨3, z1⟩ (Bi p (kst [av mH [2, 3, 4, 5], aK (rowF b0 g0), aK (rowF b1 g1), aK (rowF b2 g2), aK (rowF b3 g3)] 3) rtl z1)), Br p (kst [av mH [2, 3, 4, 5], aK (rowF b0 g0), aK (rowF b1 g1), aK (rowF b2 g2), aK (rowF b3 g3)] 4) rtl (uY (uX [av mH [2, 3, 4, 5], aK (rowF b0 g0), aK (rowF b1 g1), aK (rowF b2 g2), aK (rowF b3 g3)] rtl 3) p.row 4 ⟨3, z2⟩ (Bi p (kst [av mH [2, 3, 4, 5], aK (rowF b0 g0), aK (rowF b1 g1), aK (rowF b2 g2), aK (rowF b3 g3)] 4) rtl z2)), Br p (kst [av mH [2, 3, 4, 5], aK (rowF b0 g0), aK (rowF b1 g1), aK (rowF b2 g2), aK (rowF b3 g3)] 5) rtl (uY (uX [av mH [2, 3, 4, 5], aK (rowF b0 g0), aK (rowF b1 g1), aK (rowF b2 g2), aK (rowF b3 g3)] rtl 3) p.row 5 ⟨3, z3⟩ (Bi p (kst [av mH [2, 3, 4, 5], aK (rowF b0 g0), aK (rowF b1 g1), aK (rowF b2 g2), aK (rowF b3 g3)] 5) rtl z3))] = _
    rw [e 2 b0 g0 z0 rfl rfl rfl, e 3 b1 g1 z1 rfl rfl rfl, e 4 b2 g2 z2 rfl rfl rfl, e 5 b3 g3 z3 rfl rfl rfl]
  unfold uV
  rw [← hp]
  rw [show p.kids = [2, 3, 4, 5] by rw [hp], hits, hzs, hsd]
  unfold xp zE
  dsimp only
  rw [hl, hzs, hin]
  have hcs : uW p [[0, 1, 2, 3]] [sdR, sdR, sdR, sdR] = [77] := by rw [hp]; kernel_rfl
  rw [hcs]
  have hfp : rq p [av mH [2, 3, 4, 5], aK (rowF b0 g0), aK (rowF b1 g1), aK (rowF b2 g2), aK (rowF b3 g3)] [sdR, sdR, sdR, sdR] [z0, z1, z2, z3] ([[0, 1, 2, 3]].zip [77]) = [sdR, sdR, sdR, sdR] := by rw [hp]; kernel_rfl
  rw [hfp]
  have hpl : De p [itB b0 g0, itB b1 g1, itB b2 g2, itB b3 g3] W [z0, z1, z2, z3] [0, 1, 2, 3] = [0, z0, z0 + z1, z0 + z1 + z2] := by
    have e : De p [itB b0 g0, itB b1 g1, itB b2 g2, itB b3 g3] W [z0, z1, z2, z3] [0, 1, 2, 3] = alg [itB b0 g0, itB b1 g1, itB b2 g2, itB b3 g3] [z0, z1, z2, z3] 0 W 1 := by rw [hp]; kernel_rfl
    rw [e, alg_row4 hb0 hg0 hb1 hg1 hb2 hg2 hb3 hg3 hz0 hz1 hz2 hz3 hS hW1]
  have hf1 : ux p rtl [itB b0 g0, itB b1 g1, itB b2 g2, itB b3 g3] W (xq p [77]) [z0, z1, z2, z3] [sdR, sdR, sdR, sdR] (Bq p [77]) 0 ([[0, 1, 2, 3]].zip [77]) = ro p rtl W 77 [z0, z1, z2, z3] [sdR, sdR, sdR, sdR] 0 77 (bas (pck [sdR, sdR, sdR, sdR] [0, 1, 2, 3])) (De p [itB b0 g0, itB b1 g1, itB b2 g2, itB b3 g3] W [z0, z1, z2, z3] [0, 1, 2, 3]) 0 [0, 1, 2, 3] ++ [] := by
    have a1 : xq p [77] = 77 := by rw [hp]; kernel_rfl
    have a2 : Bq p [77] = [0] := by rw [hp]; kernel_rfl
    rw [a1, a2]
    rfl
  rw [hf1, hpl, List.append_nil]
  have hm : ∀ a z : Int, 0 ≤ a → 0 ≤ z → a + z ≤ W → wrap64 (Ce W a z rtl + 0) = if rtl then W - a - z else a := fun a z h0 h1 h2 => by
    unfold Ce
    cases rtl
    · simp only [Bool.false_eq_true, if_false]
      exact (aw _ (by omega)).trans (by omega)
    · simp only [if_true]
      rw [aw (W - a) (by omega), aw (W - a - z) (by omega)]
      exact (aw _ (by omega)).trans (by omega)
  have he : ro p rtl W 77 [z0, z1, z2, z3] [sdR, sdR, sdR, sdR] 0 77 (bas (pck [sdR, sdR, sdR, sdR] [0, 1, 2, 3])) [0, z0, z0 + z1, z0 + z1 + z2] 0 [0, 1, 2, 3] = [⟨2, wrap64 (Ce W (0) z0 rtl + 0), 0, z0, 77⟩, ⟨3, wrap64 (Ce W (z0) z1 rtl + 0), 0, z1, 77⟩, ⟨4, wrap64 (Ce W (z0 + z1) z2 rtl + 0), 0, z2, 77⟩, ⟨5, wrap64 (Ce W (z0 + z1 + z2) z3 rtl + 0), 0, z3, 77⟩] := by rw [hp]; cases rtl <;> kernel_rfl
  rw [he, hm (0) z0 (by omega) (by omega) (by omega), hm (z0) z1 (by omega) (by omega) (by omega), hm (z0 + z1) z2 (by omega) (by omega) (by omega), hm (z0 + z1 + z2) z3 (by omega) (by omega) (by omega)]
/-- The tree of the law, with i children; what its bases are together. -/
def rfS (ps : List Int) (i : Nat) : ah := rowF ((plc ps (i + 1)).tmod 200) (1 + (plc ps i).tmod 5)
def rfK (ps : List Int) (i : Nat) : List af := xl (rfS ps) (jN [] mH) i
def rfT (ps : List Int) : Nat → Int
  | 0 => 0
  | i + 1 => rfT ps i + (plc ps (i + 1)).tmod 200
structure RowL (ps : List Int) (n : Nat) (W : Int) (at_ sz : Nat → Int) (fr er : List aG) : Prop where
  a0 : at_ 0 = 0
  aN : at_ n = W
  st : ∀ i, i < n → at_ (i + 1) = at_ i + sz i ∧ 0 ≤ sz i ∧ 0 ≤ at_ i ∧ at_ i + sz i ≤ W
  l1 : fr.length = n
  l2 : er.length = n
  f1 : ∀ i, i < n → ∃ nd, fr[i]? = some ⟨nd, at_ i, 0, sz i, 77⟩
  f2 : ∀ i, i < n → ∃ nd, er[i]? = some ⟨nd, W - at_ i - sz i, 0, sz i, 77⟩
theorem rfS_ok {ps : List Int} (hp : ∀ x ∈ ps, 0 ≤ x ∧ x < 10000) (i : Nat) : gP (rfS ps i) = true := by
  have a := gR hp (i + 1) (m := 200) (by decide)
  have b := gR hp i (m := 5) (by decide)
  exact rowF_ok (by omega) (by omega)
theorem row_law {ps : List Int} (hp : ∀ x ∈ ps, 0 ≤ x ∧ x < 10000) {n : Nat} (hn : n = 1 ∨ n = 2 ∨ n = 3 ∨ n = 4) {W : Int} (hW : rfT ps n < W) (hW1 : W ≤ 100000) :
    ∃ at_ sz, RowL ps n W at_ sz (sbO (rfK ps n) 1 ⟨3, W⟩ ⟨3, 77⟩ false).frames (sbO (rfK ps n) 1 ⟨3, W⟩ ⟨3, 77⟩ true).frames := by
  have s0 : gP mH = true := by kernel_rfl
  have x0 := rfS_ok hp 0
  have x1 := rfS_ok hp 1
  have x2 := rfS_ok hp 2
  have x3 := rfS_ok hp 3
  have hb := fun i => gR hp (i + 1) (m := 200) (by decide)
  have hg := fun i => gR hp i (m := 5) (by decide)
  have bb : ∀ i, 0 ≤ (plc ps (i + 1)).tmod 200 ∧ (plc ps (i + 1)).tmod 200 ≤ 1000 := fun i => by have := hb i; omega
  have gg : ∀ i, 1 ≤ 1 + (plc ps i).tmod 5 ∧ 1 + (plc ps i).tmod 5 ≤ 5 := fun i => by have := hg i; omega
  have e1 : rfK ps 1 = [av mH [2], aK (rfS ps 0)] := by
    show uN (jN [] mH) (rfS ps 0) 0 = _
    rw [C5 s0, C8 s0 x0]
  have e2 : rfK ps 2 = [av mH [2, 3], aK (rfS ps 0), aK (rfS ps 1)] := by
    show uN (rfK ps 1) (rfS ps 1) 1 = _
    rw [e1, C7 s0 x0 x1]
  have e3 : rfK ps 3 = [av mH [2, 3, 4], aK (rfS ps 0), aK (rfS ps 1), aK (rfS ps 2)] := by
    show uN (rfK ps 2) (rfS ps 2) 2 = _
    rw [e2, C6 s0 x0 x1 x2]
  have e4 : rfK ps 4 = [av mH [2, 3, 4, 5], aK (rfS ps 0), aK (rfS ps 1), aK (rfS ps 2), aK (rfS ps 3)] := by
    show uN (rfK ps 3) (rfS ps 3) 3 = _
    rw [e3, addK3 s0 x0 x1 x2 x3]
  have t1 : rfT ps 1 = (plc ps 1).tmod 200 := by simp [rfT]
  have t2 : rfT ps 2 = (plc ps 1).tmod 200 + (plc ps 2).tmod 200 := by simp [rfT]
  have t3 : rfT ps 3 = (plc ps 1).tmod 200 + (plc ps 2).tmod 200 + (plc ps 3).tmod 200 := by simp [rfT]
  have t4 : rfT ps 4 = (plc ps 1).tmod 200 + (plc ps 2).tmod 200 + (plc ps 3).tmod 200 + (plc ps 4).tmod 200 := by simp [rfT]
  rcases hn with rfl | rfl | rfl | rfl
  · obtain ⟨z0, h0, hS, hf⟩ := row_box1 (bb 0) (gg 0) (by rw [t1] at hW; exact hW) hW1
    rw [e1]
    refine ⟨fun i => if i = 0 then 0 else z0, fun i => z0, rfl, by simpa using hS, fun i hi => ?_, by rw [show (rfS ps 0) = rowF _ _ from rfl, hf]; rfl, by rw [show (rfS ps 0) = rowF _ _ from rfl, hf]; rfl, fun i hi => ?_, fun i hi => ?_⟩
    · obtain rfl : i = 0 := by omega
      simp
      omega
    · obtain rfl : i = 0 := by omega
      exact ⟨2, by rw [show (rfS ps 0) = rowF _ _ from rfl, hf]; rfl⟩
    · obtain rfl : i = 0 := by omega
      exact ⟨2, by rw [show (rfS ps 0) = rowF _ _ from rfl, hf]; rfl⟩
  · obtain ⟨z0, z1, h0, h1, hS, hf⟩ := row_box2 (bb 0) (gg 0) (bb 1) (gg 1) (by rw [t2] at hW; exact hW) hW1
    rw [e2]
    have r : rfS ps 0 = rowF ((plc ps 1).tmod 200) (1 + (plc ps 0).tmod 5) ∧ rfS ps 1 = rowF ((plc ps 2).tmod 200) (1 + (plc ps 1).tmod 5) := ⟨rfl, rfl⟩
    rw [r.1, r.2, hf, hf]
    refine ⟨fun i => if i = 0 then 0 else if i = 1 then z0 else z0 + z1, fun i => if i = 0 then z0 else z1, rfl, by simpa using hS, fun i hi => ?_, rfl, rfl, fun i hi => ?_, fun i hi => ?_⟩
    · have : i = 0 ∨ i = 1 := by omega
      rcases this with rfl | rfl
      · simp; omega
      · simp; omega
    · have : i = 0 ∨ i = 1 := by omega
      rcases this with rfl | rfl
      · exact ⟨2, rfl⟩
      · exact ⟨3, rfl⟩
    · have : i = 0 ∨ i = 1 := by omega
      rcases this with rfl | rfl
      · exact ⟨2, rfl⟩
      · exact ⟨3, rfl⟩
  · obtain ⟨z0, z1, z2, h0, h1, h2, hS, hf⟩ := row_box3 (bb 0) (gg 0) (bb 1) (gg 1) (bb 2) (gg 2) (by rw [t3] at hW; exact hW) hW1
    rw [e3]
    have r : rfS ps 0 = rowF ((plc ps 1).tmod 200) (1 + (plc ps 0).tmod 5) ∧ rfS ps 1 = rowF ((plc ps 2).tmod 200) (1 + (plc ps 1).tmod 5) ∧ rfS ps 2 = rowF ((plc ps 3).tmod 200) (1 + (plc ps 2).tmod 5) := ⟨rfl, rfl, rfl⟩
    rw [r.1, r.2.1, r.2.2, hf, hf]
    refine ⟨fun i => if i = 0 then 0 else if i = 1 then z0 else if i = 2 then z0 + z1 else z0 + z1 + z2, fun i => if i = 0 then z0 else if i = 1 then z1 else z2, rfl, by simpa using hS, fun i hi => ?_, rfl, rfl, fun i hi => ?_, fun i hi => ?_⟩
    · have : i = 0 ∨ i = 1 ∨ i = 2 := by omega
      rcases this with rfl | rfl | rfl
      · simp; omega
      · simp; omega
      · simp; omega
    · have : i = 0 ∨ i = 1 ∨ i = 2 := by omega
      rcases this with rfl | rfl | rfl
      · exact ⟨2, rfl⟩
      · exact ⟨3, rfl⟩
      · exact ⟨4, rfl⟩
    · have : i = 0 ∨ i = 1 ∨ i = 2 := by omega
      rcases this with rfl | rfl | rfl
      · exact ⟨2, rfl⟩
      · exact ⟨3, rfl⟩
      · exact ⟨4, rfl⟩
  · obtain ⟨z0, z1, z2, z3, h0, h1, h2, h3, hS, hf⟩ := row_box4 (bb 0) (gg 0) (bb 1) (gg 1) (bb 2) (gg 2) (bb 3) (gg 3) (by rw [t4] at hW; exact hW) hW1
    rw [e4]
    have r : rfS ps 0 = rowF ((plc ps 1).tmod 200) (1 + (plc ps 0).tmod 5) ∧ rfS ps 1 = rowF ((plc ps 2).tmod 200) (1 + (plc ps 1).tmod 5) ∧ rfS ps 2 = rowF ((plc ps 3).tmod 200) (1 + (plc ps 2).tmod 5) ∧ rfS ps 3 = rowF ((plc ps 4).tmod 200) (1 + (plc ps 3).tmod 5) := ⟨rfl, rfl, rfl, rfl⟩
    rw [r.1, r.2.1, r.2.2.1, r.2.2.2, hf, hf]
    refine ⟨fun i => if i = 0 then 0 else if i = 1 then z0 else if i = 2 then z0 + z1 else if i = 3 then z0 + z1 + z2 else z0 + z1 + z2 + z3, fun i => if i = 0 then z0 else if i = 1 then z1 else if i = 2 then z2 else z3, rfl, by simpa using hS, fun i hi => ?_, rfl, rfl, fun i hi => ?_, fun i hi => ?_⟩
    · have : i = 0 ∨ i = 1 ∨ i = 2 ∨ i = 3 := by omega
      rcases this with rfl | rfl | rfl | rfl
      · simp; omega
      · simp; omega
      · simp; omega
      · simp; omega
    · have : i = 0 ∨ i = 1 ∨ i = 2 ∨ i = 3 := by omega
      rcases this with rfl | rfl | rfl | rfl
      · exact ⟨2, rfl⟩
      · exact ⟨3, rfl⟩
      · exact ⟨4, rfl⟩
      · exact ⟨5, rfl⟩
    · have : i = 0 ∨ i = 1 ∨ i = 2 ∨ i = 3 := by omega
      rcases this with rfl | rfl | rfl | rfl
      · exact ⟨2, rfl⟩
      · exact ⟨3, rfl⟩
      · exact ⟨4, rfl⟩
      · exact ⟨5, rfl⟩

end Go.Proofs.YtbnplcingdgaaaaGreat
