/- Draws: the cursor over the bytes of a draw, and numbers drawn from it. -/
import Derived.Test.YtcohgnecmgcajaaC6
import Derived.Test.YtcohgnecmgcajaaAmAF
namespace Go.Proofs.Ytcohgnecmgcajaa
open Go.ChangeShapes Go.WideShapes Go.ChangeAt Go.RowKit Am
set_option linter.unusedVariables false
set_option linter.unusedSimpArgs false
set_option maxRecDepth 100000

abbrev bytC : Int → Array Value := fun b => #[.int .u8 b]
/-- The cursor's cells. -/
abbrev Cur (V : List (List AC)) (i h : Int) : List AC := [.view V, .imm (.int .i64 i), .imm (.int .i64 h)]
section
variable {n0 N : Nat} {g : Gd}
theorem goAnd (hg : g = G0 Try.prog n0 N) (a : Int) (m : Nat) (hm : m ≤ 1073741823) : 0 ≤ g .w .and .i64 a m ∧ g .w .and .i64 a m ≤ m := by
  subst hg
  show 0 ≤ IntKind.i64.wrap ((BitVec.ofInt 64 a &&& BitVec.ofInt 64 (m : Int)).toNat : Int) ∧ IntKind.i64.wrap ((BitVec.ofInt 64 a &&& BitVec.ofInt 64 (m : Int)).toNat : Int) ≤ m
  have h1 : (BitVec.ofInt 64 a &&& BitVec.ofInt 64 (m : Int)).toNat ≤ m := by
    rw [BitVec.toNat_and]
    refine Nat.le_trans Nat.and_le_right ?_
    rw [BitVec.toNat_ofInt]
    omega
  have h2 : IntKind.i64.wrap ((BitVec.ofInt 64 a &&& BitVec.ofInt 64 (m : Int)).toNat : Int) = ((BitVec.ofInt 64 a &&& BitVec.ofInt 64 (m : Int)).toNat : Int) := by
    rw [show IntKind.i64.wrap ((BitVec.ofInt 64 a &&& BitVec.ofInt 64 (m : Int)).toNat : Int) = wrap64 ((BitVec.ofInt 64 a &&& BitVec.ofInt 64 (m : Int)).toNat : Int) from IntWalk.i64_left _]
    unfold wrap64
    omega
  rw [h2]
  omega
/-- The end of a function that was told of one box, whose cells are plain. -/
theorem finCu {F : List AT → EH → Prop} {Post : AV → AH → Prop} {xs : List AT} {eh : EH} {t k : Nat} {c : List AC} (hF : F = FinP 1 Post) (h0 : nth eh 0 = some (.bx t k c)) (hc : c.all plain = true) (hx : plainV (mkV xs) = true) (hpost : Post (mkV xs) (toH [.bx t k c])) : F xs eh := by
  subst hF
  exact .inl ⟨mkV xs, toH [.bx t k c], [some 0], wkG [some 0] ⟨rnV_plain hx, trivial⟩ ⟨⟨_, _, nth_bx h0, rfl, rfl, rfl, .inl ⟨rfl, by simpa [plainE] using hc⟩⟩, trivial⟩ (by decide) (by decide), hpost⟩
/-- The end of a function that makes one box of plain cells. -/
theorem finBx {F : List AT → EH → Prop} {Post : AV → List AB → Prop} {eh : EH} {t k r : Nat} {c : List AC} (hF : F = FinP 0 (fun res h' => ∃ rows, h' = rows.map .live ∧ Post res rows)) (h0 : nth eh r = some (.bx t k c)) (hc : c.all plain = true) (hpost : Post (.t (.c (.ptr 0 0 0))) [⟨t, k, [c]⟩]) : F [.c (.ptr r 0 0)] eh := by
  subst hF
  exact .inl ⟨.t (.c (.ptr 0 0 0)), toH [.bx t k c], [some r], wkG [some r] ⟨rfl, trivial⟩ ⟨⟨_, _, nth_bx h0, rfl, rfl, rfl, .inl ⟨rfl, by simpa [plainE] using hc⟩⟩, trivial⟩ (by simp) no_lt, _, rfl, hpost⟩
/-- What a function of the cursor comes to: 'Q' of its value; the cursor stands elsewhere. -/
abbrev CuCon (f : FuncId) (tc : Nat) (V : List (List AC)) (i h : Int) (args : List AT) (Q : AV → Prop) : Prop :=
  Con Try.prog f (toH [.bx tc 3 (Cur V i h)]) (.c (.ptr 0 0 0) :: args) fun res h' => ∃ eh, toH eh = h' ∧ ∃ i' k', 0 ≤ i' ∧ eh = [.bx tc 3 (Cur V i' k')] ∧ Q res
theorem callCu (hg : g = G0 Try.prog n0 N) {H : EH} (r : Nat) {f : FuncId} {tc : Nat} {V : List (List AC)} {i h : Int} {args : List AT} {Q : AV → Prop} {K : AV → EH → Prop} (hc : CuCon f tc V i h args Q) (hr : nth H r = some (.bx tc 3 (Cur V i h))) (ha : (args.all plainT) = true)
    (hK : ∀ (i' k' : Int) (res : AV), 0 ≤ i' → Q res → K (res.mv (plc [r] H.length)) (setL H r (.bx tc 3 (Cur V i' k')))) : g .C f H (.c (.ptr r 0 0) :: args) K := by
  have hrl : r < H.length := by rw [nth_eq] at hr; exact (List.getElem?_eq_some_iff.1 hr).1
  refine callH hg [r] hc (by simp) (by simpa using hrl) ⟨⟨_, _, rfl, by rw [hr]; rfl, rfl, rfl, .inl ⟨rfl, rfl⟩⟩, trivial⟩ ⟨rfl, rnTs_plain ha⟩ fun res eh ⟨i', k', h1, h2, h3⟩ => ?_
  subst h2
  have := hK i' k' res h1 h3
  rw [setL_eq] at this
  simpa [putBack, EE.mv, AC.mv] using this
end
set_option maxHeartbeats 1600000 in
theorem spec_l01New_a (bs : List Int) (hl : bs.length ≤ 1048576) : PCon Try.prog 36 [.c (.view (vw bytC bs))] fun res rows => ∃ hv : Int, res = .t (.c (.ptr 0 0 0)) ∧ rows = [⟨76, 3, [Cur (vw bytC bs) 0 hv]⟩] := by
  obtain ⟨V, hV⟩ : ∃ V, V = vw bytC bs := ⟨_, rfl⟩
  have hVl : V.length = bs.length := by rw [hV, vw_length]
  rw [← hV]
  refine pcon_run (c := body Try.f36) fits Try.func36 (by kernel_rfl) (by kernel_rfl) (by rfl) (by kernel_rfl) fun g F hg hF => ?_
  cbv
  refine loop_runW hg fits (by kernel_rfl) (fun s : Int × Int => [(0, .t (.c (.view V))), (3, .t (ai (s.2))), (4, .t (ai (s.1)))]) (fun s => []) (fun s => 0 ≤ s.1 ∧ s.1 ≤ lenI V) (fun s => (lenI V).toNat - s.1.toNat) (0, g .w .add .i64 94701 (g .ln V)) ⟨by simp, by simp only [lenI_eq]; omega⟩ (Wk.weak (wkG [] ⟨rfl, rfl, rfl, trivial⟩ trivial (by decide) no_lt)) (fun s B hs hB => ?_)
  obtain ⟨z, hv⟩ := s
  obtain ⟨h0, h1⟩ := hs
  simp only at h0 h1
  have hV20 : lenI V ≤ 1048576 := by rw [lenI_eq]; omega
  have t0 : g .q .lss z (g .ln V) = decide (z < lenI V) := by rw [goLss hg, goLn hg]
  by_cases hz : z < lenI V
  · have hzl : z.toNat < bs.length := by rw [lenI_eq] at hz; omega
    have hVz : V[z.toNat]? = some (lc (bytC bs[z.toNat])) := by rw [hV]; exact vw_at (List.getElem?_eq_getElem hzl)
    have ez : g .w .add .i64 z 1 = z + 1 := by rw [goAdd hg]; exact wr1 (by omega) (by omega)
    have hb : ∀ q : Int, B ([(0, .t (.c (.view V))), (3, .t (ai (q))), (4, .t (ai ((z + 1))))]) [] := fun q => by
      subst hB
      exact ⟨(z + 1, q), ⟨by simp only; omega, by simp only; omega⟩, by simp only; omega, Wk.weak (wkG [] ⟨rfl, rfl, rfl, trivial⟩ trivial (by decide) no_lt)⟩
    cbv
    rw [t0, decide_eq_true hz]
    cbv
    cases hq : g .q .lss z 4000
    · cbv
      exact finBx hF rfl rfl ⟨_, rfl, rfl⟩
    · cbv
      refine goX hg _ h0 hVz rfl ?_
      cbv
      rw [ez]
      subst hB
      exact ⟨(z + 1, _), ⟨by simp only; omega, by simp only; omega⟩, by simp only; omega, Wk.weak (wkG [] ⟨rfl, rfl, rfl, trivial⟩ trivial (by decide) no_lt)⟩
  · cbv
    rw [t0, decide_eq_false hz]
    cbv
    exact finBx hF rfl rfl ⟨_, rfl, rfl⟩
theorem spec_l01Byte_a (bs : List Int) (hl : bs.length ≤ 1048576) (i h : Int) (hi : 0 ≤ i) : CuCon 68 76 (vw bytC bs) i h [] fun res => ∃ x : Int, res = .t (ai x) ∧ 0 ≤ x ∧ x ≤ 255 := by
  obtain ⟨V, hV⟩ : ∃ V, V = vw bytC bs := ⟨_, rfl⟩
  have hVl : V.length = bs.length := by rw [hV, vw_length]
  have hV20 : lenI V ≤ 1048576 := by rw [lenI_eq]; omega
  rw [← hV]
  refine con_run (c := body Try.f68) fits Try.func68 (by kernel_rfl) (by kernel_rfl) (bl (by rfl)) (by kernel_rfl) fun g F hg hF => ?_
  replace hg : g = G0 Try.prog 1 Try.f68.ntmps := hg
  replace hF : F = FinP 1 _ := hF
  have t0 : g .q .lss i (g .ln V) = decide (i < lenI V) := by rw [goLss hg, goLn hg]
  have hx : ∀ a : Int, 0 ≤ g .w .and .i64 a 255 ∧ g .w .and .i64 a 255 ≤ 255 := fun a => goAnd hg a 255 (by decide)
  cbv
  refine goN hg (by decide) ?_
  cbv
  refine goN hg (by decide) ?_
  cbv
  rw [t0]
  by_cases hz : i < lenI V
  · have hzl : i.toNat < bs.length := by rw [lenI_eq] at hz; omega
    have hVz : V[i.toNat]? = some (lc (bytC bs[i.toNat])) := by rw [hV]; exact vw_at (List.getElem?_eq_getElem hzl)
    have ez : g .w .add .i64 i 1 = i + 1 := by rw [goAdd hg]; exact wr1 (by omega) (by omega)
    rw [decide_eq_true hz]
    cbv
    refine goX hg _ hi hVz rfl ?_
    cbv
    rw [ez]
    exact finCu hF rfl rfl rfl ⟨_, rfl, _, _, by omega, rfl, _, rfl, (hx _).1, (hx _).2⟩
  · rw [decide_eq_false hz]
    cbv
    exact finCu hF rfl rfl rfl ⟨_, rfl, _, _, hi, rfl, _, rfl, (hx _).1, (hx _).2⟩
theorem spec_l01Below_a (bs : List Int) (hl : bs.length ≤ 1048576) (i h n : Int) (hi : 0 ≤ i) : CuCon 53 76 (vw bytC bs) i h [ai n] fun res => ∃ x : Int, res = .t (ai x) ∧ 0 ≤ x ∧ (0 < n → x < n) ∧ (n ≤ 0 → x = 0) := by
  have cb := fun (i h : Int) (hi : 0 ≤ i) => spec_l01Byte_a bs hl i h hi
  obtain ⟨V, hV⟩ : ∃ V, V = vw bytC bs := ⟨_, rfl⟩
  simp only [← hV] at cb ⊢
  refine con_run (c := body Try.f53) fits Try.func53 (by kernel_rfl) (by kernel_rfl) (bl (by rfl)) (by kernel_rfl) fun g F hg hF => ?_
  replace hg : g = G0 Try.prog 1 Try.f53.ntmps := hg
  replace hF : F = FinP 1 _ := hF
  have t0 : g .q .leq n 0 = decide (n ≤ 0) := goLeq hg _ _
  have t1 : g .q .leq n 256 = decide (n ≤ 256) := goLeq hg _ _
  by_cases h0 : n ≤ 0
  · cbv
    rw [t0, decide_eq_true h0]
    cbv
    exact finCu hF rfl rfl rfl ⟨_, rfl, _, _, hi, rfl, 0, rfl, by omega, by omega, by omega⟩
  · have hmod : ∀ y : Int, 0 ≤ y → 0 ≤ y.tmod n ∧ y.tmod n < n := fun y hy => ⟨Int.tmod_nonneg n hy, Int.tmod_lt_of_pos y (by omega)⟩
    cbv
    rw [t0, decide_eq_false h0]
    cbv
    rw [t1]
    by_cases h1 : n ≤ 256
    · rw [decide_eq_true h1]
      cbv
      refine callCu hg 0 (cb _ _ hi) rfl rfl fun i1 k1 res hi1 hq => ?_
      obtain ⟨x, rfl, hx0, hx1⟩ := hq
      cbv
      refine goNZ hg (by omega) ?_
      cbv
      rw [goRem hg]
      exact finCu hF rfl rfl rfl ⟨_, rfl, _, _, hi1, rfl, _, rfl, (hmod x hx0).1, fun _ => (hmod x hx0).2, fun h => absurd h h0⟩
    · rw [decide_eq_false h1]
      cbv
      refine callCu hg 0 (cb _ _ hi) rfl rfl fun i1 k1 res hi1 hq => ?_
      obtain ⟨x, rfl, hx0, hx1⟩ := hq
      cbv
      refine callCu hg 0 (cb _ _ hi1) rfl rfl fun i2 k2 res hi2 hq => ?_
      obtain ⟨y, rfl, hy0, hy1⟩ := hq
      cbv
      refine callCu hg 0 (cb _ _ hi2) rfl rfl fun i3 k3 res hi3 hq => ?_
      obtain ⟨z, rfl, hz0, hz1⟩ := hq
      cbv
      refine callCu hg 0 (cb _ _ hi3) rfl rfl fun i4 k4 res hi4 hq => ?_
      obtain ⟨w, rfl, hw0, hw1⟩ := hq
      cbv
      refine goNZ hg (by omega) ?_
      cbv
      have e : g .w .add .i64 (g .w .add .i64 (g .w .add .i64 (g .w .mul .i64 x 16777216) (g .w .mul .i64 y 65536)) (g .w .mul .i64 z 256)) w = x * 16777216 + y * 65536 + z * 256 + w := by
        simp only [goAdd hg, goMul hg]
        unfold wrap64
        omega
      rw [goRem hg, e]
      have hm := hmod (x * 16777216 + y * 65536 + z * 256 + w) (by omega)
      exact finCu hF rfl rfl rfl ⟨_, rfl, _, _, hi4, rfl, _, rfl, hm.1, fun _ => hm.2, fun h => absurd h h0⟩
theorem spec_l01Once_a (bs : List Int) (hl : bs.length ≤ 1048576) (i h n : Int) (hi : 0 ≤ i) : CuCon 61 76 (vw bytC bs) i h [ai n] fun res => ∃ x : Bool, res = .t (abl x) := by
  have cb := fun (i h : Int) (hi : 0 ≤ i) => spec_l01Below_a bs hl i h n hi
  obtain ⟨V, hV⟩ : ∃ V, V = vw bytC bs := ⟨_, rfl⟩
  simp only [← hV] at cb ⊢
  refine con_run (c := body Try.f61) fits Try.func61 (by kernel_rfl) (by kernel_rfl) (bl (by rfl)) (by kernel_rfl) fun g F hg hF => ?_
  replace hg : g = G0 Try.prog 1 Try.f61.ntmps := hg
  replace hF : F = FinP 1 _ := hF
  cbv
  refine callCu hg 0 (cb _ _ hi) rfl rfl fun i1 k1 res hi1 hq => ?_
  obtain ⟨x, rfl, _⟩ := hq
  cbv
  exact finCu hF rfl rfl rfl ⟨_, rfl, _, _, hi1, rfl, _, rfl⟩

end Go.Proofs.Ytcohgnecmgcajaa
