/- A box's copy; marks on what is kept. -/
import Derived.Test.YtenbloaopcfdlaaM2
import Derived.Test.YtenbloaopcfdlaaM3
namespace Go.Proofs.Ytenbloaopcfdlaa
open Go.ChangeShapes Go.WideShapes Go.ChangeAt Go.RowKit Am
set_option linter.unusedVariables false
set_option linter.unusedSimpArgs false
set_option maxRecDepth 100000

set_option maxHeartbeats 4000000 in
theorem laws_markKept_m (k0 : Int) (b0 b1 : List Nat) (V0 V1 : List (List AC)) (ls0 : List Nat) (ls1 : List Unit) (hV0 : V0.length = ls0.length) (hl0 : V0.length ≤ 1048576) (hok0 : ∀ (i : Nat) (x : List AC) (l : Nat), V0[i]? = some x → ls0[i]? = some l → okMkMemo x l)
    (hV1 : V1.length = ls1.length) (hl1 : V1.length ≤ 1048576) (hok1 : ∀ (i : Nat) (x : List AC) (l : Unit), V1[i]? = some x → ls1[i]? = some l → okMkAsked x l) (hnd : (b0 ++ b1).Nodup) (hk0 : 0 ≤ k0) (hk1 : endMkAsked (endMkMemo k0 ls0) ls1 ≤ 1152921504606846976) :
    MCon Try.prog 13 [.agg [.fv b0 V0, .fv b1 V1], ai k0] [(b0, V0, mkRowsMemo k0 ls0), (b1, V1, mkRowsAsked (endMkMemo k0 ls0) ls1)] (.int .i64 (endMkAsked (endMkMemo k0 ls0) ls1)) := by
  have hle := endMkAsked_le ls1 (endMkMemo k0 ls0)
  have hle0 := endMkMemo_le ls0 k0
  obtain ⟨hn0, hn1, hdj⟩ := List.nodup_append.1 hnd
  have hm0 := laws_markMemoS_m k0 b0 V0 ls0 hV0 hl0 hok0 hn0 hk0 (Int.le_trans hle hk1)
  have hm1 := laws_markAskedS_m (endMkMemo k0 ls0) b1 V1 ls1 hV1 hl1 hok1 hn1 (Int.le_trans hk0 hle0) hk1
  have kk0 : ∃ k : Nat, (∀ x ∈ V0, x.length = k) ∧ ∀ x ∈ mkRowsMemo k0 ls0, x.length = k := ⟨10, fun x hx => by
    obtain ⟨i, hi, rfl⟩ := List.getElem_of_mem hx
    obtain ⟨u0, u1, u2, u3, u4, u5, u6, u7, u8, F0, he, -⟩ := hok0 i _ _ (List.getElem?_eq_getElem hi) (List.getElem?_eq_getElem (by omega))
    rw [he]; rfl, mkRowsMemo_k ls0 k0⟩
  have kk1 : ∃ k : Nat, (∀ x ∈ V1, x.length = k) ∧ ∀ x ∈ mkRowsAsked (endMkMemo k0 ls0) ls1, x.length = k := ⟨6, fun x hx => by
    obtain ⟨i, hi, rfl⟩ := List.getElem_of_mem hx
    obtain ⟨u0, u1, u2, u3, u4, u5, he⟩ := hok1 i _ _ (List.getElem?_eq_getElem hi) (List.getElem?_eq_getElem (by omega))
    rw [he]; rfl, mkRowsAsked_k ls1 _⟩
  have ln0 : (mkRowsMemo k0 ls0).length = V0.length := by rw [mkRowsMemo_len, hV0]
  have ln1 : (mkRowsAsked (endMkMemo k0 ls0) ls1).length = V1.length := by rw [mkRowsAsked_len, hV1]
  clear hok0 hok1 hle hle0
  obtain ⟨R0, hR0⟩ : ∃ R, R = mkRowsMemo k0 ls0 := ⟨_, rfl⟩
  obtain ⟨R1, hR1⟩ : ∃ R, R = mkRowsAsked (endMkMemo k0 ls0) ls1 := ⟨_, rfl⟩
  obtain ⟨K1, hK1⟩ : ∃ K, K = endMkMemo k0 ls0 := ⟨_, rfl⟩
  obtain ⟨K2, hK2⟩ : ∃ K, K = endMkAsked (endMkMemo k0 ls0) ls1 := ⟨_, rfl⟩
  rw [← hR1, ← hK2, ← hK1] at hm1
  rw [← hR0, ← hK1] at hm0
  rw [← hR0] at kk0 ln0
  rw [← hR1] at kk1 ln1
  rw [← hR0, ← hR1, ← hK2]
  clear hR0 hR1 hK1 hK2 hk1
  refine mcon_wrap (fun u hu => ?_) ?_
  · rcases List.mem_cons.1 hu with rfl | hu
    · exact ⟨kk0, ln0⟩
    · rw [List.mem_singleton.1 hu]; exact ⟨kk1, ln1⟩
  obtain ⟨β, hβ⟩ : ∃ β : BP, β = ⟨0, fun b => ∃ u ∈ [(b0, V0, R0), (b1, V1, R1)], b ∈ u.1⟩ := ⟨_, rfl⟩
  have hx0 : ∀ b ∈ b0, β.ex b := by rw [hβ]; exact fun b hb => ⟨_, List.mem_cons_self .., hb⟩
  have hx1 : ∀ b ∈ b1, β.ex b := by rw [hβ]; exact fun b hb => ⟨_, List.mem_cons_of_mem _ (List.mem_cons_self ..), hb⟩
  rw [← hβ]
  clear hβ
  refine conx_run4 (h := []) [(1, .hand), (2, .hand)] [] (c := body Try.f13) fits Try.func13 (by kernel_rfl) (by kernel_rfl) (bl (by rfl)) (by kernel_rfl) fun g eff hd F heff hhd hg hF => ?_
  cbv
  refine hand_mark hg hhd fits 3 (by kernel_rfl) (fun mk hmk => ?_)
  cbv
  subst hmk
  refine ⟨_, _, _, [(b0, V0, R0)], _, [(2, .t (.c (.ptr 0 0 0))), (4, .t (ai 0))], [.bx 37 2 [.fv b0 R0, .fv b1 V1]], rfl, rfl, rfl, rfl, rfl, hm0, fun u hu b hb => hx0 b (by rw [List.mem_singleton.1 hu] at hb; exact hb), fun u hu => ?_, ⟨.inr (.inl ⟨rfl, trivial⟩), .inr (.inl ⟨rfl, trivial⟩), trivial⟩, ⟨⟨rfl, rfl, .inr (.inr ⟨_, List.mem_singleton.2 rfl, rfl, rfl⟩), .inr (.inl ⟨rfl, fun b hb u hu hbu => ?_⟩), trivial⟩, trivial⟩, ?_⟩
  · rw [List.mem_singleton.1 hu]; exact ⟨_, List.mem_cons_self .., List.mem_singleton.2 rfl⟩
  · rw [List.mem_singleton.1 hu] at hbu; exact hdj b hbu b hb rfl
  cbv
  refine hand_mark hg hhd fits 3 (by kernel_rfl) (fun mk hmk => ?_)
  cbv
  subst hmk
  refine ⟨_, _, _, [(b1, V1, R1)], _, [(2, .t (.c (.ptr 0 0 0))), (4, .t (ai 0))], [.bx 37 2 [.fv b0 R0, .fv b1 R1]], rfl, rfl, rfl, rfl, rfl, hm1, fun u hu b hb => hx1 b (by rw [List.mem_singleton.1 hu] at hb; exact hb), fun u hu => ?_, ⟨.inr (.inl ⟨rfl, trivial⟩), .inr (.inl ⟨rfl, trivial⟩), trivial⟩, ⟨⟨rfl, rfl, .inr (.inl ⟨rfl, fun b hb u hu hbu => ?_⟩), .inr (.inr ⟨_, List.mem_singleton.2 rfl, rfl, rfl⟩), trivial⟩, trivial⟩, ?_⟩
  · rw [List.mem_singleton.1 hu]; exact ⟨_, List.mem_cons_self .., List.mem_singleton.2 rfl⟩
  · rw [List.mem_singleton.1 hu] at hbu; exact hdj b hb b hbu rfl
  cbv
  refine finW hF 0 _ _ [.fv b0 R0, .fv b1 R1] rfl rfl (fun u hu => ?_)
  rcases List.mem_cons.1 hu with rfl | hu
  · exact List.mem_cons_self ..
  · rw [List.mem_singleton.1 hu]; exact List.mem_cons_of_mem _ (List.mem_cons_self ..)

end Go.Proofs.Ytenbloaopcfdlaa
