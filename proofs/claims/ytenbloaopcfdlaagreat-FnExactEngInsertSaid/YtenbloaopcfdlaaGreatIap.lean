/- Valid trees, as the reference tells them. -/
import Derived.Test.YtenbloaopcfdlaaGreatIao
namespace Go.Proofs.YtenbloaopcfdlaaGreat
open Go.ChangeShapes Go.WideShapes Go.ChangeAt Go.RowKit Am
set_option linter.unusedVariables false
set_option linter.unusedSimpArgs false
set_option maxRecDepth 100000
def mkRowNode (k : Int) (l0 : Nat) (l1 : Nat) : List AC := (.imm (.int .i64 (k)) :: .view (vw intC (marksInt (k + 1) l0)) :: .imm (.int .i64 (k + 1 + 1 * ((l0 : Nat) : Int))) :: .imm (.int .i64 (k + 1 + 1 * ((l0 : Nat) : Int) + 1)) :: .imm (.int .i64 (k + 1 + 1 * ((l0 : Nat) : Int) + 2)) :: .imm (.int .i64 (k + 1 + 1 * ((l0 : Nat) : Int) + 3)) :: .imm (.int .i64 (k + 1 + 1 * ((l0 : Nat) : Int) + 4)) :: .imm (.int .i64 (k + 1 + 1 * ((l0 : Nat) : Int) + 5)) :: .imm (.bool (m3 (k + 1 + 1 * ((l0 : Nat) : Int) + 6))) :: .imm (.bool (m3 (k + 1 + 1 * ((l0 : Nat) : Int) + 7))) :: .imm (.int .i64 (k + 1 + 1 * ((l0 : Nat) : Int) + 8)) :: .imm (.int .i64 (k + 1 + 1 * ((l0 : Nat) : Int) + 9)) :: .imm (.int .i64 (k + 1 + 1 * ((l0 : Nat) : Int) + 10)) :: .imm (.int .i64 (k + 1 + 1 * ((l0 : Nat) : Int) + 11)) :: .imm (.int .i64 (k + 1 + 1 * ((l0 : Nat) : Int) + 12)) :: .imm (.int .i64 (k + 1 + 1 * ((l0 : Nat) : Int) + 13)) :: .imm (.int .i64 (k + 1 + 1 * ((l0 : Nat) : Int) + 14)) :: .imm (.int .i64 (k + 1 + 1 * ((l0 : Nat) : Int) + 15)) :: .imm (.int .i64 (k + 1 + 1 * ((l0 : Nat) : Int) + 16)) :: .imm (.int .i64 (k + 1 + 1 * ((l0 : Nat) : Int) + 17)) :: .imm (.int .i64 (k + 1 + 1 * ((l0 : Nat) : Int) + 18)) :: .imm (.int .i64 (k + 1 + 1 * ((l0 : Nat) : Int) + 19)) :: .imm (.int .i64 (k + 1 + 1 * ((l0 : Nat) : Int) + 20)) :: .imm (.int .i64 (k + 1 + 1 * ((l0 : Nat) : Int) + 21)) :: .imm (.int .i64 (k + 1 + 1 * ((l0 : Nat) : Int) + 22)) :: .imm (.int .i64 (k + 1 + 1 * ((l0 : Nat) : Int) + 23)) :: .imm (.int .i64 (k + 1 + 1 * ((l0 : Nat) : Int) + 24)) :: .imm (.int .i64 (k + 1 + 1 * ((l0 : Nat) : Int) + 25)) :: .imm (.int .i64 (k + 1 + 1 * ((l0 : Nat) : Int) + 26)) :: .imm (.int .i64 (k + 1 + 1 * ((l0 : Nat) : Int) + 27)) :: .imm (.int .i64 (k + 1 + 1 * ((l0 : Nat) : Int) + 28)) :: .imm (.int .i64 (k + 1 + 1 * ((l0 : Nat) : Int) + 29)) :: .imm (.int .i64 (k + 1 + 1 * ((l0 : Nat) : Int) + 30)) :: .imm (.int .i64 (k + 1 + 1 * ((l0 : Nat) : Int) + 31)) :: .imm (.int .i64 (k + 1 + 1 * ((l0 : Nat) : Int) + 32)) :: .imm (.int .i64 (k + 1 + 1 * ((l0 : Nat) : Int) + 33)) :: .imm (.int .i64 (k + 1 + 1 * ((l0 : Nat) : Int) + 34)) :: .imm (.int .i64 (k + 1 + 1 * ((l0 : Nat) : Int) + 35)) :: .imm (.int .i64 (k + 1 + 1 * ((l0 : Nat) : Int) + 36)) :: .imm (.int .i64 (k + 1 + 1 * ((l0 : Nat) : Int) + 37)) :: .imm (.int .i64 (k + 1 + 1 * ((l0 : Nat) : Int) + 38)) :: .imm (.int .i64 (k + 1 + 1 * ((l0 : Nat) : Int) + 39)) :: .imm (.int .i64 (k + 1 + 1 * ((l0 : Nat) : Int) + 40)) :: .imm (.int .i64 (k + 1 + 1 * ((l0 : Nat) : Int) + 41)) :: .imm (.int .i64 (k + 1 + 1 * ((l0 : Nat) : Int) + 42)) :: .imm (.int .i64 (k + 1 + 1 * ((l0 : Nat) : Int) + 43)) :: .imm (.int .i64 (k + 1 + 1 * ((l0 : Nat) : Int) + 44)) :: .imm (.int .i64 (k + 1 + 1 * ((l0 : Nat) : Int) + 45)) :: .imm (.int .i64 (k + 1 + 1 * ((l0 : Nat) : Int) + 46)) :: .imm (.int .i64 (k + 1 + 1 * ((l0 : Nat) : Int) + 47)) :: .imm (.int .i64 (k + 1 + 1 * ((l0 : Nat) : Int) + 48)) :: .imm (.int .i64 (k + 1 + 1 * ((l0 : Nat) : Int) + 49)) :: .imm (.int .i64 (k + 1 + 1 * ((l0 : Nat) : Int) + 50)) :: .imm (.int .i64 (k + 1 + 1 * ((l0 : Nat) : Int) + 51)) :: .imm (.int .i64 (k + 1 + 1 * ((l0 : Nat) : Int) + 52)) :: .imm (.int .i64 (k + 1 + 1 * ((l0 : Nat) : Int) + 53)) :: .imm (.int .i64 (k + 1 + 1 * ((l0 : Nat) : Int) + 54)) :: .imm (.int .i64 (k + 1 + 1 * ((l0 : Nat) : Int) + 55)) :: .imm (.int .i64 (k + 1 + 1 * ((l0 : Nat) : Int) + 56)) :: .imm (.int .i64 (k + 1 + 1 * ((l0 : Nat) : Int) + 57)) :: .imm (.int .i64 (k + 1 + 1 * ((l0 : Nat) : Int) + 58)) :: .imm (.int .i64 (k + 1 + 1 * ((l0 : Nat) : Int) + 59)) :: .imm (.bool (m3 (k + 1 + 1 * ((l0 : Nat) : Int) + 60))) :: .view (vw GRule.c (marksRule (k + 1 + 1 * ((l0 : Nat) : Int) + 61) l1)) :: [])
def nxMkNode (k : Int) (l0 : Nat) (l1 : Nat) : Int := k + 1 + 1 * ((l0 : Nat) : Int) + 61 + 3 * ((l1 : Nat) : Int)
theorem nxMkNode_eq (k : Int) (l0 : Nat) (l1 : Nat) : nxMkNode k l0 l1 = k + 62 + 1 * ((l0 : Nat) : Int) + 3 * ((l1 : Nat) : Int) := by unfold nxMkNode; omega
def mkRowsNode : Int → List (Nat × Nat) → List (List AC)
  | _, [] => []
  | k, ⟨l0, l1⟩ :: ls => mkRowNode k l0 l1 :: mkRowsNode (nxMkNode k l0 l1) ls
def endMkNode : Int → List (Nat × Nat) → Int
  | k, [] => k
  | k, ⟨l0, l1⟩ :: ls => endMkNode (nxMkNode k l0 l1) ls
theorem endMkNode_le : ∀ (ls : List (Nat × Nat)) (k : Int), k ≤ endMkNode k ls
  | [], k => Int.le_refl k
  | ⟨l0, l1⟩ :: ls, k => by have := endMkNode_le ls (nxMkNode k l0 l1); unfold nxMkNode at this; unfold endMkNode nxMkNode; omega
theorem mkRowsNode_len : ∀ (ls : List (Nat × Nat)) (k : Int), (mkRowsNode k ls).length = ls.length
  | [], k => rfl
  | ⟨l0, l1⟩ :: ls, k => by simp [mkRowsNode, mkRowsNode_len ls]
theorem mkRowsNode_k : ∀ (ls : List (Nat × Nat)) (k : Int), ∀ x ∈ mkRowsNode k ls, x.length = 64
  | [], k, x, hx => by simp [mkRowsNode] at hx
  | ⟨l0, l1⟩ :: ls, k, x, hx => by
    rcases List.mem_cons.1 hx with h | h
    · rw [h]; rfl
    · exact mkRowsNode_k ls _ x h
theorem numsNode {kc q0 q1 q62 q63 : Int} {l0 : Nat} {l1 : Nat} (hkc : 0 ≤ kc) (hkb : kc + 62 + 1 * ((l0 : Nat) : Int) + 3 * ((l1 : Nat) : Int) ≤ 1152921504606846976) (hq0 : q0 = kc + 1) (hq1 : q1 = q0 + 1 * ((l0 : Nat) : Int)) (hq62 : q62 = q1 + 61) (hq63 : q63 = q62 + 3 * ((l1 : Nat) : Int)) : q63 = nxMkNode kc l0 l1 ∧ (0 ≤ kc ∧ kc + 1 ≤ 1152921504606846976) ∧ (0 ≤ q1 ∧ q1 + 61 ≤ 1152921504606846976) ∧ (0 ≤ q63 ∧ q63 + 0 ≤ 1152921504606846976) := by
  unfold nxMkNode
  refine ⟨?_, ?_, ?_, ?_⟩ <;> omega
def okMkNode (x : List AC) (l : Nat × Nat) : Prop := ∃ u0 u2 u3 u4 u5 u6 u7 u8 u9 u10 u11 u12 u13 u14 u15 u16 u17 u18 u19 u20 u21 u22 u23 u24 u25 u26 u27 u28 u29 u30 u31 u32 u33 u34 u35 u36 u37 u38 u39 u40 u41 u42 u43 u44 u45 u46 u47 u48 u49 u50 u51 u52 u53 u54 u55 u56 u57 u58 u59 u60 u61 u62 F0 F1, x = (.imm u0 :: .view F0 :: .imm u2 :: .imm u3 :: .imm u4 :: .imm u5 :: .imm u6 :: .imm u7 :: .imm u8 :: .imm u9 :: .imm u10 :: .imm u11 :: .imm u12 :: .imm u13 :: .imm u14 :: .imm u15 :: .imm u16 :: .imm u17 :: .imm u18 :: .imm u19 :: .imm u20 :: .imm u21 :: .imm u22 :: .imm u23 :: .imm u24 :: .imm u25 :: .imm u26 :: .imm u27 :: .imm u28 :: .imm u29 :: .imm u30 :: .imm u31 :: .imm u32 :: .imm u33 :: .imm u34 :: .imm u35 :: .imm u36 :: .imm u37 :: .imm u38 :: .imm u39 :: .imm u40 :: .imm u41 :: .imm u42 :: .imm u43 :: .imm u44 :: .imm u45 :: .imm u46 :: .imm u47 :: .imm u48 :: .imm u49 :: .imm u50 :: .imm u51 :: .imm u52 :: .imm u53 :: .imm u54 :: .imm u55 :: .imm u56 :: .imm u57 :: .imm u58 :: .imm u59 :: .imm u60 :: .imm u61 :: .imm u62 :: .view F1 :: []) ∧ (F0.length = l.1 ∧ F0.length ≤ 1048576 ∧ immE F0 = true ∧ ∀ y ∈ F0, y.length = 1) ∧ (F1.length = l.2 ∧ F1.length ≤ 1048576 ∧ immE F1 = true ∧ ∀ y ∈ F1, y.length = 3)
theorem rowNode_eq {kc q0 q1 q2 q3 q4 q5 q6 q7 q8 q9 q10 q11 q12 q13 q14 q15 q16 q17 q18 q19 q20 q21 q22 q23 q24 q25 q26 q27 q28 q29 q30 q31 q32 q33 q34 q35 q36 q37 q38 q39 q40 q41 q42 q43 q44 q45 q46 q47 q48 q49 q50 q51 q52 q53 q54 q55 q56 q57 q58 q59 q60 q61 q62 q63 : Int} {l0 l1 : Nat} {B0 B1 : List Nat} {M0 M1 : List (List AC)} {t8 t9 t62 : Bool} (hM0 : M0 = (vw intC (marksInt q0 l0))) (hM1 : M1 = (vw GRule.c (marksRule q62 l1))) (ht8 : t8 = m3 q7) (ht9 : t9 = m3 q8) (ht62 : t62 = m3 q61) (hq0 : q0 = kc + 1) (hq1 : q1 = q0 + 1 * ((l0 : Nat) : Int)) (hq2 : q2 = q1 + 1) (hq3 : q3 = q1 + 2) (hq4 : q4 = q1 + 3) (hq5 : q5 = q1 + 4) (hq6 : q6 = q1 + 5) (hq7 : q7 = q1 + 6) (hq8 : q8 = q1 + 7) (hq9 : q9 = q1 + 8) (hq10 : q10 = q1 + 9) (hq11 : q11 = q1 + 10) (hq12 : q12 = q1 + 11) (hq13 : q13 = q1 + 12) (hq14 : q14 = q1 + 13) (hq15 : q15 = q1 + 14) (hq16 : q16 = q1 + 15) (hq17 : q17 = q1 + 16) (hq18 : q18 = q1 + 17) (hq19 : q19 = q1 + 18) (hq20 : q20 = q1 + 19) (hq21 : q21 = q1 + 20) (hq22 : q22 = q1 + 21) (hq23 : q23 = q1 + 22) (hq24 : q24 = q1 + 23) (hq25 : q25 = q1 + 24) (hq26 : q26 = q1 + 25) (hq27 : q27 = q1 + 26) (hq28 : q28 = q1 + 27) (hq29 : q29 = q1 + 28) (hq30 : q30 = q1 + 29) (hq31 : q31 = q1 + 30) (hq32 : q32 = q1 + 31) (hq33 : q33 = q1 + 32) (hq34 : q34 = q1 + 33) (hq35 : q35 = q1 + 34) (hq36 : q36 = q1 + 35) (hq37 : q37 = q1 + 36) (hq38 : q38 = q1 + 37) (hq39 : q39 = q1 + 38) (hq40 : q40 = q1 + 39) (hq41 : q41 = q1 + 40) (hq42 : q42 = q1 + 41) (hq43 : q43 = q1 + 42) (hq44 : q44 = q1 + 43) (hq45 : q45 = q1 + 44) (hq46 : q46 = q1 + 45) (hq47 : q47 = q1 + 46) (hq48 : q48 = q1 + 47) (hq49 : q49 = q1 + 48) (hq50 : q50 = q1 + 49) (hq51 : q51 = q1 + 50) (hq52 : q52 = q1 + 51) (hq53 : q53 = q1 + 52) (hq54 : q54 = q1 + 53) (hq55 : q55 = q1 + 54) (hq56 : q56 = q1 + 55) (hq57 : q57 = q1 + 56) (hq58 : q58 = q1 + 57) (hq59 : q59 = q1 + 58) (hq60 : q60 = q1 + 59) (hq61 : q61 = q1 + 60) (hq62 : q62 = q1 + 61) (hq63 : q63 = q62 + 3 * ((l1 : Nat) : Int)) :
    List.map vwC (.imm (.int .i64 kc) :: .fv B0 M0 :: .imm (.int .i64 q1) :: .imm (.int .i64 q2) :: .imm (.int .i64 q3) :: .imm (.int .i64 q4) :: .imm (.int .i64 q5) :: .imm (.int .i64 q6) :: .imm (.bool t8) :: .imm (.bool t9) :: .imm (.int .i64 q9) :: .imm (.int .i64 q10) :: .imm (.int .i64 q11) :: .imm (.int .i64 q12) :: .imm (.int .i64 q13) :: .imm (.int .i64 q14) :: .imm (.int .i64 q15) :: .imm (.int .i64 q16) :: .imm (.int .i64 q17) :: .imm (.int .i64 q18) :: .imm (.int .i64 q19) :: .imm (.int .i64 q20) :: .imm (.int .i64 q21) :: .imm (.int .i64 q22) :: .imm (.int .i64 q23) :: .imm (.int .i64 q24) :: .imm (.int .i64 q25) :: .imm (.int .i64 q26) :: .imm (.int .i64 q27) :: .imm (.int .i64 q28) :: .imm (.int .i64 q29) :: .imm (.int .i64 q30) :: .imm (.int .i64 q31) :: .imm (.int .i64 q32) :: .imm (.int .i64 q33) :: .imm (.int .i64 q34) :: .imm (.int .i64 q35) :: .imm (.int .i64 q36) :: .imm (.int .i64 q37) :: .imm (.int .i64 q38) :: .imm (.int .i64 q39) :: .imm (.int .i64 q40) :: .imm (.int .i64 q41) :: .imm (.int .i64 q42) :: .imm (.int .i64 q43) :: .imm (.int .i64 q44) :: .imm (.int .i64 q45) :: .imm (.int .i64 q46) :: .imm (.int .i64 q47) :: .imm (.int .i64 q48) :: .imm (.int .i64 q49) :: .imm (.int .i64 q50) :: .imm (.int .i64 q51) :: .imm (.int .i64 q52) :: .imm (.int .i64 q53) :: .imm (.int .i64 q54) :: .imm (.int .i64 q55) :: .imm (.int .i64 q56) :: .imm (.int .i64 q57) :: .imm (.int .i64 q58) :: .imm (.int .i64 q59) :: .imm (.int .i64 q60) :: .imm (.bool t62) :: .fv B1 M1 :: []) = mkRowNode kc l0 l1 := by
  subst hM0; subst hM1; subst ht8; subst ht9; subst ht62; subst hq63 hq62 hq61 hq60 hq59 hq58 hq57 hq56 hq55 hq54 hq53 hq52 hq51 hq50 hq49 hq48 hq47 hq46 hq45 hq44 hq43 hq42 hq41 hq40 hq39 hq38 hq37 hq36 hq35 hq34 hq33 hq32 hq31 hq30 hq29 hq28 hq27 hq26 hq25 hq24 hq23 hq22 hq21 hq20 hq19 hq18 hq17 hq16 hq15 hq14 hq13 hq12 hq11 hq10 hq9 hq8 hq7 hq6 hq5 hq4 hq3 hq2 hq1 hq0
  rfl
set_option maxHeartbeats 1600000 in
theorem laws_markNodeS_0 (k0 : Int) : PCon Tryz.prog 91 [.c (.view []), ai k0] fun res rows => res = .t (ai k0) ∧ rows = [] := by
  refine pcon_run4 ([(6, .hand), (129, .hand), (14, .hand), (26, .hand), (38, .hand), (50, .hand), (62, .hand), (74, .hand), (86, .hand), (98, .hand), (110, .hand), (122, .hand)]) ([]) (c := body Tryz.f91) fits Tryz.func91 (by kernel_rfl) (by kernel_rfl) (by rfl) (by kernel_rfl) fun g eff hd F heff hhd hg hF => ?_
  cbv
  refine loop_runW4 [(6, .hand), (129, .hand), (14, .hand), (26, .hand), (38, .hand), (50, .hand), (62, .hand), (74, .hand), (86, .hand), (98, .hand), (110, .hand), (122, .hand)] [] heff hhd hg fits (by kernel_rfl) (fun _ : Unit => [(0, .t (.c (.view []))), (1, .t (ai k0)), (5, .t (ai 0))]) (fun _ => []) (fun _ => True) (fun _ => 0) () trivial (Wk.weak (wk0 ⟨rfl, rfl, rfl, trivial⟩)) (fun s B _ hB => ?_)
  cbv
  have e : g .q .lss 0 (g .ln []) = false := by rw [goLss hg, goLn hg]; rfl
  rw [e]
  cbv
  exact fin0i hF rfl
set_option maxHeartbeats 8000000 in
theorem laws_markNodeS_m (k0 : Int) (bs : List Nat) (V : List (List AC)) (ls : List (Nat × Nat)) (hV : V.length = ls.length) (hl : V.length ≤ 1048576) (hok : ∀ (i : Nat) (x : List AC) (l : Nat × Nat), V[i]? = some x → ls[i]? = some l → okMkNode x l) (hnd : bs.Nodup) (hk0 : 0 ≤ k0) (hk1 : endMkNode k0 ls ≤ 1152921504606846976) :
    MCon Tryz.prog 91 [.c (.fv bs V), ai k0] [(bs, V, mkRowsNode k0 ls)] (.int .i64 (endMkNode k0 ls)) := by
  by_cases hne : V = []
  · subst hne
    obtain rfl : ls = [] := List.eq_nil_of_length_eq_zero (by simpa using hV.symm)
    exact mcon_nil (laws_markNodeS_0 k0)
  have dV : ∀ x ∈ V, x.all dat = true := fun x hx => by
    obtain ⟨i, hi, rfl⟩ := List.getElem_of_mem hx
    obtain ⟨u0, u2, u3, u4, u5, u6, u7, u8, u9, u10, u11, u12, u13, u14, u15, u16, u17, u18, u19, u20, u21, u22, u23, u24, u25, u26, u27, u28, u29, u30, u31, u32, u33, u34, u35, u36, u37, u38, u39, u40, u41, u42, u43, u44, u45, u46, u47, u48, u49, u50, u51, u52, u53, u54, u55, u56, u57, u58, u59, u60, u61, u62, F0, F1, he, -⟩ := hok i _ _ (List.getElem?_eq_getElem hi) (List.getElem?_eq_getElem (by omega))
    rw [he]; rfl
  have kV : ∀ x ∈ V, x.length = 64 := fun x hx => by
    obtain ⟨i, hi, rfl⟩ := List.getElem_of_mem hx
    obtain ⟨u0, u2, u3, u4, u5, u6, u7, u8, u9, u10, u11, u12, u13, u14, u15, u16, u17, u18, u19, u20, u21, u22, u23, u24, u25, u26, u27, u28, u29, u30, u31, u32, u33, u34, u35, u36, u37, u38, u39, u40, u41, u42, u43, u44, u45, u46, u47, u48, u49, u50, u51, u52, u53, u54, u55, u56, u57, u58, u59, u60, u61, u62, F0, F1, he, -⟩ := hok i _ _ (List.getElem?_eq_getElem hi) (List.getElem?_eq_getElem (by omega))
    rw [he]; rfl
  refine mcon_nest (by kernel_rfl) hne kV dV hnd (by rw [mkRowsNode_len, hV]) fun bs' ty es hsub hnd' e1 e2 e3 e4 => ?_
  clear hnd hsub
  obtain ⟨β, hβ⟩ : ∃ β : BP, β = ⟨0, fun b => b ∈ bs'⟩ := ⟨_, rfl⟩
  have hex : ∀ b ∈ bs', β.ex b := by rw [hβ]; exact fun _ h => h
  rw [← hβ]
  clear hβ
  have hV0 : 0 ≤ lenI V := by rw [lenI_eq]; omega
  have hV20 : lenI V ≤ 1048576 := by rw [lenI_eq]; omega
  refine conx_run4 (h := [.rw ⟨ty, 64, es⟩]) [(6, .hand), (129, .hand), (14, .hand), (26, .hand), (38, .hand), (50, .hand), (62, .hand), (74, .hand), (86, .hand), (98, .hand), (110, .hand), (122, .hand)] [] (c := body Tryz.f91) fits Tryz.func91 (by kernel_rfl) (by kernel_rfl) (bl (by rfl)) (by kernel_rfl) fun g eff hd F heff hhd hg hF => ?_
  cbv
  refine loop_runW4 [(6, .hand), (129, .hand), (14, .hand), (26, .hand), (38, .hand), (50, .hand), (62, .hand), (74, .hand), (86, .hand), (98, .hand), (110, .hand), (122, .hand)] [] heff hhd hg fits (by kernel_rfl) (fun s : Int × Int × List (List AC) => [(0, .t (.c (.own 0))), (1, .t (ai s.2.1)), (5, .t (ai s.1))]) (fun s => [.rw ⟨ty, 64, s.2.2⟩]) (fun s => ∃ R, MkSt 64 V R s.2.2 s.1 bs' ∧ mkRowsNode k0 ls = R ++ mkRowsNode s.2.1 (ls.drop s.1.toNat) ∧ endMkNode k0 ls = endMkNode s.2.1 (ls.drop s.1.toNat) ∧ 0 ≤ s.2.1) (fun s => (lenI V).toNat - s.1.toNat)
    (0, k0, es) ⟨[], MkSt.start e1 e2 e3 e4, rfl, rfl, hk0⟩ (Wk.weak (wk1 ⟨⟨_, rfl, rfl, bare_plainE e3⟩, trivial⟩ ⟨rfl, rfl, rfl, trivial⟩)) (fun s B hs hB => ?_)
  clear e1 e2 e3 e4
  obtain ⟨z, kc, E⟩ := s
  obtain ⟨R, hs, hR, hK, hkc⟩ := hs
  simp only at hs hR hK hkc
  have h0 := hs.z0
  have h1 := hs.z1
  have hEV : lenI E = lenI V := by rw [lenI_eq, lenI_eq, hs.len]
  cbv
  cases hc : g .q .lss z (g .ln E)
  · rw [goLss hg, goLn hg, hEV, decide_eq_false_iff_not] at hc
    cbv
    have hall := hs.all hc
    have hdr : ls.drop z.toNat = [] := by rw [lenI_eq] at hc; exact List.drop_eq_nil_of_le (by omega)
    rw [hdr] at hR hK
    have hR' : mkRowsNode k0 ls = R := by rw [hR]; exact List.append_nil R
    have hK' : endMkNode k0 ls = kc := hK
    rw [hR', hK'] at hF
    exact finH1 hF (bare_plainE hs.bare) ⟨rfl, E, rfl, hall, hs.fp, hs.bare⟩
  · rw [goLss hg, goLn hg, hEV, decide_eq_true_eq] at hc
    cbv
    obtain ⟨j, hj⟩ : ∃ j, j = z.toNat := ⟨_, rfl⟩
    have hjV : j < V.length := by rw [hj]; rw [lenI_eq] at hc; omega
    have hjl : j < E.length := by rw [hs.len]; exact hjV
    obtain ⟨e, v, he, hv, hev, heb, hel⟩ := hs.at_ hj hc
    obtain ⟨l, hl0⟩ : ∃ l, ls[j]? = some l := ⟨_, List.getElem?_eq_getElem (by omega)⟩
    have hdr : ls.drop z.toNat = l :: ls.drop (z + 1).toNat := by
      rw [← hj, show (z + 1).toNat = j + 1 by omega]
      have hjl' : j < ls.length := by omega
      rw [List.drop_eq_getElem_cons hjl', ← Option.some.inj ((List.getElem?_eq_getElem hjl').symm.trans hl0)]
    rw [hdr] at hR hK
    obtain ⟨u0, u2, u3, u4, u5, u6, u7, u8, u9, u10, u11, u12, u13, u14, u15, u16, u17, u18, u19, u20, u21, u22, u23, u24, u25, u26, u27, u28, u29, u30, u31, u32, u33, u34, u35, u36, u37, u38, u39, u40, u41, u42, u43, u44, u45, u46, u47, u48, u49, u50, u51, u52, u53, u54, u55, u56, u57, u58, u59, u60, u61, u62, F0, F1, hve, ⟨hF0l, hF0s, hF0i, hF0k⟩, ⟨hF1l, hF1s, hF1i, hF1k⟩⟩ := hok j v l hv hl0
    subst hve
    obtain ⟨l0, l1⟩ := l
    simp only at hF0l hF1l
    subst hF0l hF1l
    obtain ⟨l0, hl0'⟩ : ∃ l0, l0 = F0.length := ⟨_, rfl⟩
    obtain ⟨l1, hl1'⟩ : ∃ l1, l1 = F1.length := ⟨_, rfl⟩
    rw [← hl0', ← hl1'] at hR hK
    obtain ⟨b0, b1, b2, b3, b4, b5, b6, b7, b8, b9, b10, b11, b12, b13, b14, b15, b16, b17, b18, b19, b20, b21, b22, b23, b24, b25, b26, b27, b28, b29, b30, b31, b32, b33, b34, b35, b36, b37, b38, b39, b40, b41, b42, b43, b44, b45, b46, b47, b48, b49, b50, b51, b52, b53, b54, b55, b56, b57, b58, b59, b60, b61, b62, b63, rfl⟩ : ∃ b0 b1 b2 b3 b4 b5 b6 b7 b8 b9 b10 b11 b12 b13 b14 b15 b16 b17 b18 b19 b20 b21 b22 b23 b24 b25 b26 b27 b28 b29 b30 b31 b32 b33 b34 b35 b36 b37 b38 b39 b40 b41 b42 b43 b44 b45 b46 b47 b48 b49 b50 b51 b52 b53 b54 b55 b56 b57 b58 b59 b60 b61 b62 b63, e = (b0 :: b1 :: b2 :: b3 :: b4 :: b5 :: b6 :: b7 :: b8 :: b9 :: b10 :: b11 :: b12 :: b13 :: b14 :: b15 :: b16 :: b17 :: b18 :: b19 :: b20 :: b21 :: b22 :: b23 :: b24 :: b25 :: b26 :: b27 :: b28 :: b29 :: b30 :: b31 :: b32 :: b33 :: b34 :: b35 :: b36 :: b37 :: b38 :: b39 :: b40 :: b41 :: b42 :: b43 :: b44 :: b45 :: b46 :: b47 :: b48 :: b49 :: b50 :: b51 :: b52 :: b53 :: b54 :: b55 :: b56 :: b57 :: b58 :: b59 :: b60 :: b61 :: b62 :: b63 :: []) := by
      match e, hel with
      | b0 :: b1 :: b2 :: b3 :: b4 :: b5 :: b6 :: b7 :: b8 :: b9 :: b10 :: b11 :: b12 :: b13 :: b14 :: b15 :: b16 :: b17 :: b18 :: b19 :: b20 :: b21 :: b22 :: b23 :: b24 :: b25 :: b26 :: b27 :: b28 :: b29 :: b30 :: b31 :: b32 :: b33 :: b34 :: b35 :: b36 :: b37 :: b38 :: b39 :: b40 :: b41 :: b42 :: b43 :: b44 :: b45 :: b46 :: b47 :: b48 :: b49 :: b50 :: b51 :: b52 :: b53 :: b54 :: b55 :: b56 :: b57 :: b58 :: b59 :: b60 :: b61 :: b62 :: b63 :: [], _ => exact ⟨b0, b1, b2, b3, b4, b5, b6, b7, b8, b9, b10, b11, b12, b13, b14, b15, b16, b17, b18, b19, b20, b21, b22, b23, b24, b25, b26, b27, b28, b29, b30, b31, b32, b33, b34, b35, b36, b37, b38, b39, b40, b41, b42, b43, b44, b45, b46, b47, b48, b49, b50, b51, b52, b53, b54, b55, b56, b57, b58, b59, b60, b61, b62, b63, rfl⟩
    simp only [List.map_cons, List.map_nil, List.cons.injEq, and_true] at hev
    simp only [List.all_cons, List.all_nil, Bool.and_true, Bool.and_eq_true] at heb
    obtain ⟨v0, v1, v2, v3, v4, v5, v6, v7, v8, v9, v10, v11, v12, v13, v14, v15, v16, v17, v18, v19, v20, v21, v22, v23, v24, v25, v26, v27, v28, v29, v30, v31, v32, v33, v34, v35, v36, v37, v38, v39, v40, v41, v42, v43, v44, v45, v46, v47, v48, v49, v50, v51, v52, v53, v54, v55, v56, v57, v58, v59, v60, v61, v62, v63⟩ := hev
    obtain ⟨w0, w1, w2, w3, w4, w5, w6, w7, w8, w9, w10, w11, w12, w13, w14, w15, w16, w17, w18, w19, w20, w21, w22, w23, w24, w25, w26, w27, w28, w29, w30, w31, w32, w33, w34, w35, w36, w37, w38, w39, w40, w41, w42, w43, w44, w45, w46, w47, w48, w49, w50, w51, w52, w53, w54, w55, w56, w57, w58, w59, w60, w61, w62, w63⟩ := heb
    obtain rfl := bare_imm w0 v0
    obtain ⟨B0, rfl⟩ := bare_fv w1 v1
    obtain rfl := bare_imm w2 v2
    obtain rfl := bare_imm w3 v3
    obtain rfl := bare_imm w4 v4
    obtain rfl := bare_imm w5 v5
    obtain rfl := bare_imm w6 v6
    obtain rfl := bare_imm w7 v7
    obtain rfl := bare_imm w8 v8
    obtain rfl := bare_imm w9 v9
    obtain rfl := bare_imm w10 v10
    obtain rfl := bare_imm w11 v11
    obtain rfl := bare_imm w12 v12
    obtain rfl := bare_imm w13 v13
    obtain rfl := bare_imm w14 v14
    obtain rfl := bare_imm w15 v15
    obtain rfl := bare_imm w16 v16
    obtain rfl := bare_imm w17 v17
    obtain rfl := bare_imm w18 v18
    obtain rfl := bare_imm w19 v19
    obtain rfl := bare_imm w20 v20
    obtain rfl := bare_imm w21 v21
    obtain rfl := bare_imm w22 v22
    obtain rfl := bare_imm w23 v23
    obtain rfl := bare_imm w24 v24
    obtain rfl := bare_imm w25 v25
    obtain rfl := bare_imm w26 v26
    obtain rfl := bare_imm w27 v27
    obtain rfl := bare_imm w28 v28
    obtain rfl := bare_imm w29 v29
    obtain rfl := bare_imm w30 v30
    obtain rfl := bare_imm w31 v31
    obtain rfl := bare_imm w32 v32
    obtain rfl := bare_imm w33 v33
    obtain rfl := bare_imm w34 v34
    obtain rfl := bare_imm w35 v35
    obtain rfl := bare_imm w36 v36
    obtain rfl := bare_imm w37 v37
    obtain rfl := bare_imm w38 v38
    obtain rfl := bare_imm w39 v39
    obtain rfl := bare_imm w40 v40
    obtain rfl := bare_imm w41 v41
    obtain rfl := bare_imm w42 v42
    obtain rfl := bare_imm w43 v43
    obtain rfl := bare_imm w44 v44
    obtain rfl := bare_imm w45 v45
    obtain rfl := bare_imm w46 v46
    obtain rfl := bare_imm w47 v47
    obtain rfl := bare_imm w48 v48
    obtain rfl := bare_imm w49 v49
    obtain rfl := bare_imm w50 v50
    obtain rfl := bare_imm w51 v51
    obtain rfl := bare_imm w52 v52
    obtain rfl := bare_imm w53 v53
    obtain rfl := bare_imm w54 v54
    obtain rfl := bare_imm w55 v55
    obtain rfl := bare_imm w56 v56
    obtain rfl := bare_imm w57 v57
    obtain rfl := bare_imm w58 v58
    obtain rfl := bare_imm w59 v59
    obtain rfl := bare_imm w60 v60
    obtain rfl := bare_imm w61 v61
    obtain rfl := bare_imm w62 v62
    obtain ⟨B1, rfl⟩ := bare_fv w63 v63
    have hnd1 := fpE_nodupL (by rw [hs.fp]; exact hnd') he
    have hfpe : ∀ b ∈ fpL (.imm u0 :: .fv B0 F0 :: .imm u2 :: .imm u3 :: .imm u4 :: .imm u5 :: .imm u6 :: .imm u7 :: .imm u8 :: .imm u9 :: .imm u10 :: .imm u11 :: .imm u12 :: .imm u13 :: .imm u14 :: .imm u15 :: .imm u16 :: .imm u17 :: .imm u18 :: .imm u19 :: .imm u20 :: .imm u21 :: .imm u22 :: .imm u23 :: .imm u24 :: .imm u25 :: .imm u26 :: .imm u27 :: .imm u28 :: .imm u29 :: .imm u30 :: .imm u31 :: .imm u32 :: .imm u33 :: .imm u34 :: .imm u35 :: .imm u36 :: .imm u37 :: .imm u38 :: .imm u39 :: .imm u40 :: .imm u41 :: .imm u42 :: .imm u43 :: .imm u44 :: .imm u45 :: .imm u46 :: .imm u47 :: .imm u48 :: .imm u49 :: .imm u50 :: .imm u51 :: .imm u52 :: .imm u53 :: .imm u54 :: .imm u55 :: .imm u56 :: .imm u57 :: .imm u58 :: .imm u59 :: .imm u60 :: .imm u61 :: .imm u62 :: .fv B1 F1 :: []), b ∈ bs' := fun b hb => by rw [← hs.fp]; exact fp_mem he hb
    have hnd2 : (B0 ++ B1).Nodup := by simpa [fpL, fpC] using hnd1
    obtain ⟨hB0nd, hB1nd, hdj⟩ := List.nodup_append.1 hnd2
    obtain ⟨E0, hE0⟩ : ∃ E0, E0 = E := ⟨_, rfl⟩
    have l0_ : j < E0.length := by rw [hE0]; exact hjl
    have h0_ := he
    have s0_ : E0 = E.set j (.imm u0 :: .fv B0 F0 :: .imm u2 :: .imm u3 :: .imm u4 :: .imm u5 :: .imm u6 :: .imm u7 :: .imm u8 :: .imm u9 :: .imm u10 :: .imm u11 :: .imm u12 :: .imm u13 :: .imm u14 :: .imm u15 :: .imm u16 :: .imm u17 :: .imm u18 :: .imm u19 :: .imm u20 :: .imm u21 :: .imm u22 :: .imm u23 :: .imm u24 :: .imm u25 :: .imm u26 :: .imm u27 :: .imm u28 :: .imm u29 :: .imm u30 :: .imm u31 :: .imm u32 :: .imm u33 :: .imm u34 :: .imm u35 :: .imm u36 :: .imm u37 :: .imm u38 :: .imm u39 :: .imm u40 :: .imm u41 :: .imm u42 :: .imm u43 :: .imm u44 :: .imm u45 :: .imm u46 :: .imm u47 :: .imm u48 :: .imm u49 :: .imm u50 :: .imm u51 :: .imm u52 :: .imm u53 :: .imm u54 :: .imm u55 :: .imm u56 :: .imm u57 :: .imm u58 :: .imm u59 :: .imm u60 :: .imm u61 :: .imm u62 :: .fv B1 F1 :: []) := hE0.trans (set_same he).symm
    rw [← hE0] at h0_ ⊢
    have ez : g .w .add .i64 z 1 = z + 1 := by rw [goAdd hg, wrap_small _ (by omega)]
    have hmu : (lenI V).toNat - (z + 1).toNat < (lenI V).toNat - z.toNat := by omega
    have hend := endMkNode_le (ls.drop (z + 1).toNat) (nxMkNode kc l0 l1)
    have hK1 : endMkNode (nxMkNode kc l0 l1) (ls.drop (z + 1).toNat) ≤ 1152921504606846976 := by rw [show endMkNode (nxMkNode kc l0 l1) (ls.drop (z + 1).toNat) = endMkNode k0 ls from hK.symm]; exact hk1
    have hkb : kc + 62 + 1 * ((l0 : Nat) : Int) + 3 * ((l1 : Nat) : Int) ≤ 1152921504606846976 := by rw [← nxMkNode_eq]; exact Int.le_trans hend hK1
    obtain ⟨q0, hq0⟩ : ∃ q, q = kc + 1 := ⟨_, rfl⟩
    obtain ⟨q1, hq1⟩ : ∃ q, q = q0 + 1 * ((l0 : Nat) : Int) := ⟨_, rfl⟩
    obtain ⟨q2, hq2⟩ : ∃ q, q = q1 + 1 := ⟨_, rfl⟩
    obtain ⟨q3, hq3⟩ : ∃ q, q = q1 + 2 := ⟨_, rfl⟩
    obtain ⟨q4, hq4⟩ : ∃ q, q = q1 + 3 := ⟨_, rfl⟩
    obtain ⟨q5, hq5⟩ : ∃ q, q = q1 + 4 := ⟨_, rfl⟩
    obtain ⟨q6, hq6⟩ : ∃ q, q = q1 + 5 := ⟨_, rfl⟩
    obtain ⟨q7, hq7⟩ : ∃ q, q = q1 + 6 := ⟨_, rfl⟩
    obtain ⟨q8, hq8⟩ : ∃ q, q = q1 + 7 := ⟨_, rfl⟩
    obtain ⟨q9, hq9⟩ : ∃ q, q = q1 + 8 := ⟨_, rfl⟩
    obtain ⟨q10, hq10⟩ : ∃ q, q = q1 + 9 := ⟨_, rfl⟩
    obtain ⟨q11, hq11⟩ : ∃ q, q = q1 + 10 := ⟨_, rfl⟩
    obtain ⟨q12, hq12⟩ : ∃ q, q = q1 + 11 := ⟨_, rfl⟩
    obtain ⟨q13, hq13⟩ : ∃ q, q = q1 + 12 := ⟨_, rfl⟩
    obtain ⟨q14, hq14⟩ : ∃ q, q = q1 + 13 := ⟨_, rfl⟩
    obtain ⟨q15, hq15⟩ : ∃ q, q = q1 + 14 := ⟨_, rfl⟩
    obtain ⟨q16, hq16⟩ : ∃ q, q = q1 + 15 := ⟨_, rfl⟩
    obtain ⟨q17, hq17⟩ : ∃ q, q = q1 + 16 := ⟨_, rfl⟩
    obtain ⟨q18, hq18⟩ : ∃ q, q = q1 + 17 := ⟨_, rfl⟩
    obtain ⟨q19, hq19⟩ : ∃ q, q = q1 + 18 := ⟨_, rfl⟩
    obtain ⟨q20, hq20⟩ : ∃ q, q = q1 + 19 := ⟨_, rfl⟩
    obtain ⟨q21, hq21⟩ : ∃ q, q = q1 + 20 := ⟨_, rfl⟩
    obtain ⟨q22, hq22⟩ : ∃ q, q = q1 + 21 := ⟨_, rfl⟩
    obtain ⟨q23, hq23⟩ : ∃ q, q = q1 + 22 := ⟨_, rfl⟩
    obtain ⟨q24, hq24⟩ : ∃ q, q = q1 + 23 := ⟨_, rfl⟩
    obtain ⟨q25, hq25⟩ : ∃ q, q = q1 + 24 := ⟨_, rfl⟩
    obtain ⟨q26, hq26⟩ : ∃ q, q = q1 + 25 := ⟨_, rfl⟩
    obtain ⟨q27, hq27⟩ : ∃ q, q = q1 + 26 := ⟨_, rfl⟩
    obtain ⟨q28, hq28⟩ : ∃ q, q = q1 + 27 := ⟨_, rfl⟩
    obtain ⟨q29, hq29⟩ : ∃ q, q = q1 + 28 := ⟨_, rfl⟩
    obtain ⟨q30, hq30⟩ : ∃ q, q = q1 + 29 := ⟨_, rfl⟩
    obtain ⟨q31, hq31⟩ : ∃ q, q = q1 + 30 := ⟨_, rfl⟩
    obtain ⟨q32, hq32⟩ : ∃ q, q = q1 + 31 := ⟨_, rfl⟩
    obtain ⟨q33, hq33⟩ : ∃ q, q = q1 + 32 := ⟨_, rfl⟩
    obtain ⟨q34, hq34⟩ : ∃ q, q = q1 + 33 := ⟨_, rfl⟩
    obtain ⟨q35, hq35⟩ : ∃ q, q = q1 + 34 := ⟨_, rfl⟩
    obtain ⟨q36, hq36⟩ : ∃ q, q = q1 + 35 := ⟨_, rfl⟩
    obtain ⟨q37, hq37⟩ : ∃ q, q = q1 + 36 := ⟨_, rfl⟩
    obtain ⟨q38, hq38⟩ : ∃ q, q = q1 + 37 := ⟨_, rfl⟩
    obtain ⟨q39, hq39⟩ : ∃ q, q = q1 + 38 := ⟨_, rfl⟩
    obtain ⟨q40, hq40⟩ : ∃ q, q = q1 + 39 := ⟨_, rfl⟩
    obtain ⟨q41, hq41⟩ : ∃ q, q = q1 + 40 := ⟨_, rfl⟩
    obtain ⟨q42, hq42⟩ : ∃ q, q = q1 + 41 := ⟨_, rfl⟩
    obtain ⟨q43, hq43⟩ : ∃ q, q = q1 + 42 := ⟨_, rfl⟩
    obtain ⟨q44, hq44⟩ : ∃ q, q = q1 + 43 := ⟨_, rfl⟩
    obtain ⟨q45, hq45⟩ : ∃ q, q = q1 + 44 := ⟨_, rfl⟩
    obtain ⟨q46, hq46⟩ : ∃ q, q = q1 + 45 := ⟨_, rfl⟩
    obtain ⟨q47, hq47⟩ : ∃ q, q = q1 + 46 := ⟨_, rfl⟩
    obtain ⟨q48, hq48⟩ : ∃ q, q = q1 + 47 := ⟨_, rfl⟩
    obtain ⟨q49, hq49⟩ : ∃ q, q = q1 + 48 := ⟨_, rfl⟩
    obtain ⟨q50, hq50⟩ : ∃ q, q = q1 + 49 := ⟨_, rfl⟩
    obtain ⟨q51, hq51⟩ : ∃ q, q = q1 + 50 := ⟨_, rfl⟩
    obtain ⟨q52, hq52⟩ : ∃ q, q = q1 + 51 := ⟨_, rfl⟩
    obtain ⟨q53, hq53⟩ : ∃ q, q = q1 + 52 := ⟨_, rfl⟩
    obtain ⟨q54, hq54⟩ : ∃ q, q = q1 + 53 := ⟨_, rfl⟩
    obtain ⟨q55, hq55⟩ : ∃ q, q = q1 + 54 := ⟨_, rfl⟩
    obtain ⟨q56, hq56⟩ : ∃ q, q = q1 + 55 := ⟨_, rfl⟩
    obtain ⟨q57, hq57⟩ : ∃ q, q = q1 + 56 := ⟨_, rfl⟩
    obtain ⟨q58, hq58⟩ : ∃ q, q = q1 + 57 := ⟨_, rfl⟩
    obtain ⟨q59, hq59⟩ : ∃ q, q = q1 + 58 := ⟨_, rfl⟩
    obtain ⟨q60, hq60⟩ : ∃ q, q = q1 + 59 := ⟨_, rfl⟩
    obtain ⟨q61, hq61⟩ : ∃ q, q = q1 + 60 := ⟨_, rfl⟩
    obtain ⟨q62, hq62⟩ : ∃ q, q = q1 + 61 := ⟨_, rfl⟩
    obtain ⟨q63, hq63⟩ : ∃ q, q = q62 + 3 * ((l1 : Nat) : Int) := ⟨_, rfl⟩
    obtain ⟨hnx, g_kc, g_q1, g_q63⟩ := numsNode hkc hkb hq0 hq1 hq62 hq63
    clear hkb hend hK1
    have e0 := q_add hg g_kc.1 g_kc.2 (Int.add_zero _).symm hq0 rfl (by decide) (by decide)
    have r1 := q_bnd g_kc.1 g_kc.2 hq0 (by decide) (by decide)
    have e2 := q_add hg g_q1.1 g_q1.2 (Int.add_zero _).symm hq2 rfl (by decide) (by decide)
    have e3 := q_add hg g_q1.1 g_q1.2 hq2 hq3 rfl (by decide) (by decide)
    have e4 := q_add hg g_q1.1 g_q1.2 hq3 hq4 rfl (by decide) (by decide)
    have e5 := q_add hg g_q1.1 g_q1.2 hq4 hq5 rfl (by decide) (by decide)
    have e6 := q_add hg g_q1.1 g_q1.2 hq5 hq6 rfl (by decide) (by decide)
    have e7 := q_add hg g_q1.1 g_q1.2 hq6 hq7 rfl (by decide) (by decide)
    have e8 := q_add hg g_q1.1 g_q1.2 hq7 hq8 rfl (by decide) (by decide)
    obtain ⟨t8, ht8⟩ : ∃ t, t = m3 q7 := ⟨_, rfl⟩
    have m8 : g .q .eql (g .w .rem .i64 q7 3) 0 = t8 := by rw [ht8, goRem hg, goEql hg]; rfl
    have e9 := q_add hg g_q1.1 g_q1.2 hq8 hq9 rfl (by decide) (by decide)
    obtain ⟨t9, ht9⟩ : ∃ t, t = m3 q8 := ⟨_, rfl⟩
    have m9 : g .q .eql (g .w .rem .i64 q8 3) 0 = t9 := by rw [ht9, goRem hg, goEql hg]; rfl
    have e10 := q_add hg g_q1.1 g_q1.2 hq9 hq10 rfl (by decide) (by decide)
    have e11 := q_add hg g_q1.1 g_q1.2 hq10 hq11 rfl (by decide) (by decide)
    have e12 := q_add hg g_q1.1 g_q1.2 hq11 hq12 rfl (by decide) (by decide)
    have e13 := q_add hg g_q1.1 g_q1.2 hq12 hq13 rfl (by decide) (by decide)
    have e14 := q_add hg g_q1.1 g_q1.2 hq13 hq14 rfl (by decide) (by decide)
    have e15 := q_add hg g_q1.1 g_q1.2 hq14 hq15 rfl (by decide) (by decide)
    have e16 := q_add hg g_q1.1 g_q1.2 hq15 hq16 rfl (by decide) (by decide)
    have e17 := q_add hg g_q1.1 g_q1.2 hq16 hq17 rfl (by decide) (by decide)
    have e18 := q_add hg g_q1.1 g_q1.2 hq17 hq18 rfl (by decide) (by decide)
    have e19 := q_add hg g_q1.1 g_q1.2 hq18 hq19 rfl (by decide) (by decide)
    have e20 := q_add hg g_q1.1 g_q1.2 hq19 hq20 rfl (by decide) (by decide)
    have e21 := q_add hg g_q1.1 g_q1.2 hq20 hq21 rfl (by decide) (by decide)
    have e22 := q_add hg g_q1.1 g_q1.2 hq21 hq22 rfl (by decide) (by decide)
    have e23 := q_add hg g_q1.1 g_q1.2 hq22 hq23 rfl (by decide) (by decide)
    have e24 := q_add hg g_q1.1 g_q1.2 hq23 hq24 rfl (by decide) (by decide)
    have e25 := q_add hg g_q1.1 g_q1.2 hq24 hq25 rfl (by decide) (by decide)
    have e26 := q_add hg g_q1.1 g_q1.2 hq25 hq26 rfl (by decide) (by decide)
    have e27 := q_add hg g_q1.1 g_q1.2 hq26 hq27 rfl (by decide) (by decide)
    have e28 := q_add hg g_q1.1 g_q1.2 hq27 hq28 rfl (by decide) (by decide)
    have e29 := q_add hg g_q1.1 g_q1.2 hq28 hq29 rfl (by decide) (by decide)
    have e30 := q_add hg g_q1.1 g_q1.2 hq29 hq30 rfl (by decide) (by decide)
    have e31 := q_add hg g_q1.1 g_q1.2 hq30 hq31 rfl (by decide) (by decide)
    have e32 := q_add hg g_q1.1 g_q1.2 hq31 hq32 rfl (by decide) (by decide)
    have e33 := q_add hg g_q1.1 g_q1.2 hq32 hq33 rfl (by decide) (by decide)
    have e34 := q_add hg g_q1.1 g_q1.2 hq33 hq34 rfl (by decide) (by decide)
    have e35 := q_add hg g_q1.1 g_q1.2 hq34 hq35 rfl (by decide) (by decide)
    have e36 := q_add hg g_q1.1 g_q1.2 hq35 hq36 rfl (by decide) (by decide)
    have e37 := q_add hg g_q1.1 g_q1.2 hq36 hq37 rfl (by decide) (by decide)
    have e38 := q_add hg g_q1.1 g_q1.2 hq37 hq38 rfl (by decide) (by decide)
    have e39 := q_add hg g_q1.1 g_q1.2 hq38 hq39 rfl (by decide) (by decide)
    have e40 := q_add hg g_q1.1 g_q1.2 hq39 hq40 rfl (by decide) (by decide)
    have e41 := q_add hg g_q1.1 g_q1.2 hq40 hq41 rfl (by decide) (by decide)
    have e42 := q_add hg g_q1.1 g_q1.2 hq41 hq42 rfl (by decide) (by decide)
    have e43 := q_add hg g_q1.1 g_q1.2 hq42 hq43 rfl (by decide) (by decide)
    have e44 := q_add hg g_q1.1 g_q1.2 hq43 hq44 rfl (by decide) (by decide)
    have e45 := q_add hg g_q1.1 g_q1.2 hq44 hq45 rfl (by decide) (by decide)
    have e46 := q_add hg g_q1.1 g_q1.2 hq45 hq46 rfl (by decide) (by decide)
    have e47 := q_add hg g_q1.1 g_q1.2 hq46 hq47 rfl (by decide) (by decide)
    have e48 := q_add hg g_q1.1 g_q1.2 hq47 hq48 rfl (by decide) (by decide)
    have e49 := q_add hg g_q1.1 g_q1.2 hq48 hq49 rfl (by decide) (by decide)
    have e50 := q_add hg g_q1.1 g_q1.2 hq49 hq50 rfl (by decide) (by decide)
    have e51 := q_add hg g_q1.1 g_q1.2 hq50 hq51 rfl (by decide) (by decide)
    have e52 := q_add hg g_q1.1 g_q1.2 hq51 hq52 rfl (by decide) (by decide)
    have e53 := q_add hg g_q1.1 g_q1.2 hq52 hq53 rfl (by decide) (by decide)
    have e54 := q_add hg g_q1.1 g_q1.2 hq53 hq54 rfl (by decide) (by decide)
    have e55 := q_add hg g_q1.1 g_q1.2 hq54 hq55 rfl (by decide) (by decide)
    have e56 := q_add hg g_q1.1 g_q1.2 hq55 hq56 rfl (by decide) (by decide)
    have e57 := q_add hg g_q1.1 g_q1.2 hq56 hq57 rfl (by decide) (by decide)
    have e58 := q_add hg g_q1.1 g_q1.2 hq57 hq58 rfl (by decide) (by decide)
    have e59 := q_add hg g_q1.1 g_q1.2 hq58 hq59 rfl (by decide) (by decide)
    have e60 := q_add hg g_q1.1 g_q1.2 hq59 hq60 rfl (by decide) (by decide)
    have e61 := q_add hg g_q1.1 g_q1.2 hq60 hq61 rfl (by decide) (by decide)
    have e62 := q_add hg g_q1.1 g_q1.2 hq61 hq62 rfl (by decide) (by decide)
    obtain ⟨t62, ht62⟩ : ∃ t, t = m3 q61 := ⟨_, rfl⟩
    have m62 : g .q .eql (g .w .rem .i64 q61 3) 0 = t62 := by rw [ht62, goRem hg, goEql hg]; rfl
    have r63 := q_bnd g_q1.1 g_q1.2 hq62 (by decide) (by decide)
    generalize hC60 : Code.seq (Code.region 123 _ _) _ = C60
    generalize hC54 : Code.seq (Code.region 111 _ _) _ = C54
    generalize hC48 : Code.seq (Code.region 99 _ _) _ = C48
    generalize hC42 : Code.seq (Code.region 87 _ _) _ = C42
    generalize hC36 : Code.seq (Code.region 75 _ _) _ = C36
    generalize hC30 : Code.seq (Code.region 63 _ _) _ = C30
    generalize hC24 : Code.seq (Code.region 51 _ _) _ = C24
    generalize hC18 : Code.seq (Code.region 39 _ _) _ = C18
    generalize hC12 : Code.seq (Code.region 27 _ _) _ = C12
    generalize hC6 : Code.seq (Code.region 15 _ _) _ = C6
    refine goYt hg h0 hj l0_ ?_
    cbv
    refine ⟨_, h0_, ?_⟩
    cbv
    generalize hG1 : g .st _ _ _ = E1
    generalize hX : putC _ _ _ = x at hG1
    cbv at hX
    subst hX
    obtain ⟨s1_, h1_, l1_⟩ := st_step hg hG1 s0_ hjl
    clear hG1 s0_ h0_ l0_
    rw [e0]
    cbv
    have hbare0 : ∀ x ∈ E1, x.all bareF = true := fun x hx => by
      rw [s1_] at hx
      rcases List.mem_or_eq_of_mem_set hx with h | h
      · exact hs.bare x h
      · rw [h]; rfl
    have hfp0 : fpE E1 = bs' := by rw [s1_]; exact (fpE_same he (by rfl)).trans hs.fp
    have hm0 := laws_markIntS_n q0 B0 F0 hF0s hF0k hF0i hB0nd r1.1 r1.2
    rw [← hl0'] at hm0
    rw [← hq1] at hm0
    obtain ⟨M0, hM0⟩ : ∃ M, M = (vw intC (marksInt q0 l0)) := ⟨_, rfl⟩
    rw [← hM0] at hm0
    refine hand_mark hg hhd fits 6 (by kernel_rfl) (fun mk hmk => ?_)
    cbv
    refine goYt hg h0 hj l1_ ?_
    cbv
    refine ⟨_, h1_, ?_⟩
    cbv
    subst hmk
    obtain ⟨E2, hE2⟩ : ∃ E', E' = E1.set j (.imm (.int .i64 kc) :: .fv B0 M0 :: .imm u2 :: .imm u3 :: .imm u4 :: .imm u5 :: .imm u6 :: .imm u7 :: .imm u8 :: .imm u9 :: .imm u10 :: .imm u11 :: .imm u12 :: .imm u13 :: .imm u14 :: .imm u15 :: .imm u16 :: .imm u17 :: .imm u18 :: .imm u19 :: .imm u20 :: .imm u21 :: .imm u22 :: .imm u23 :: .imm u24 :: .imm u25 :: .imm u26 :: .imm u27 :: .imm u28 :: .imm u29 :: .imm u30 :: .imm u31 :: .imm u32 :: .imm u33 :: .imm u34 :: .imm u35 :: .imm u36 :: .imm u37 :: .imm u38 :: .imm u39 :: .imm u40 :: .imm u41 :: .imm u42 :: .imm u43 :: .imm u44 :: .imm u45 :: .imm u46 :: .imm u47 :: .imm u48 :: .imm u49 :: .imm u50 :: .imm u51 :: .imm u52 :: .imm u53 :: .imm u54 :: .imm u55 :: .imm u56 :: .imm u57 :: .imm u58 :: .imm u59 :: .imm u60 :: .imm u61 :: .imm u62 :: .fv B1 F1 :: []) := ⟨_, rfl⟩
    obtain ⟨s2_, h2_, l2_⟩ := set_step hE2 s1_ hjl
    refine ⟨_, _, _, [(B0, F0, M0)], _, [(0, .t (.c (.own 0))), (1, .t (ai q0)), (5, .t (ai z))], [.rw ⟨ty, 64, E2⟩], rfl, rfl, rfl, rfl, rfl, hm0, fun u hu b hb => ?_, fun u hu => ?_, ⟨.inr (.inl ⟨rfl, trivial⟩), .inr (.inl ⟨rfl, trivial⟩), .inr (.inl ⟨rfl, trivial⟩), trivial⟩, ⟨?_, trivial⟩, ?_⟩
    · rw [List.mem_singleton.1 hu] at hb
      exact hex b (hfpe b (by simp [fpL, fpC]; first | exact hb | exact .inl hb | exact .inr hb))
    · rw [List.mem_singleton.1 hu]
      exact ⟨_, List.mem_cons_self .., List.mem_singleton.2 rfl⟩
    · rw [hE2]
      refine sf_row h1_ hbare0 (by rw [hfp0]; exact hnd') (fun u hu b hb => ?_) ⟨.inr (.inl ⟨rfl, trivial⟩), .inr (.inr ⟨_, List.mem_singleton.2 rfl, rfl, rfl⟩), .inr (.inl ⟨rfl, trivial⟩), .inr (.inl ⟨rfl, trivial⟩), .inr (.inl ⟨rfl, trivial⟩), .inr (.inl ⟨rfl, trivial⟩), .inr (.inl ⟨rfl, trivial⟩), .inr (.inl ⟨rfl, trivial⟩), .inr (.inl ⟨rfl, trivial⟩), .inr (.inl ⟨rfl, trivial⟩), .inr (.inl ⟨rfl, trivial⟩), .inr (.inl ⟨rfl, trivial⟩), .inr (.inl ⟨rfl, trivial⟩), .inr (.inl ⟨rfl, trivial⟩), .inr (.inl ⟨rfl, trivial⟩), .inr (.inl ⟨rfl, trivial⟩), .inr (.inl ⟨rfl, trivial⟩), .inr (.inl ⟨rfl, trivial⟩), .inr (.inl ⟨rfl, trivial⟩), .inr (.inl ⟨rfl, trivial⟩), .inr (.inl ⟨rfl, trivial⟩), .inr (.inl ⟨rfl, trivial⟩), .inr (.inl ⟨rfl, trivial⟩), .inr (.inl ⟨rfl, trivial⟩), .inr (.inl ⟨rfl, trivial⟩), .inr (.inl ⟨rfl, trivial⟩), .inr (.inl ⟨rfl, trivial⟩), .inr (.inl ⟨rfl, trivial⟩), .inr (.inl ⟨rfl, trivial⟩), .inr (.inl ⟨rfl, trivial⟩), .inr (.inl ⟨rfl, trivial⟩), .inr (.inl ⟨rfl, trivial⟩), .inr (.inl ⟨rfl, trivial⟩), .inr (.inl ⟨rfl, trivial⟩), .inr (.inl ⟨rfl, trivial⟩), .inr (.inl ⟨rfl, trivial⟩), .inr (.inl ⟨rfl, trivial⟩), .inr (.inl ⟨rfl, trivial⟩), .inr (.inl ⟨rfl, trivial⟩), .inr (.inl ⟨rfl, trivial⟩), .inr (.inl ⟨rfl, trivial⟩), .inr (.inl ⟨rfl, trivial⟩), .inr (.inl ⟨rfl, trivial⟩), .inr (.inl ⟨rfl, trivial⟩), .inr (.inl ⟨rfl, trivial⟩), .inr (.inl ⟨rfl, trivial⟩), .inr (.inl ⟨rfl, trivial⟩), .inr (.inl ⟨rfl, trivial⟩), .inr (.inl ⟨rfl, trivial⟩), .inr (.inl ⟨rfl, trivial⟩), .inr (.inl ⟨rfl, trivial⟩), .inr (.inl ⟨rfl, trivial⟩), .inr (.inl ⟨rfl, trivial⟩), .inr (.inl ⟨rfl, trivial⟩), .inr (.inl ⟨rfl, trivial⟩), .inr (.inl ⟨rfl, trivial⟩), .inr (.inl ⟨rfl, trivial⟩), .inr (.inl ⟨rfl, trivial⟩), .inr (.inl ⟨rfl, trivial⟩), .inr (.inl ⟨rfl, trivial⟩), .inr (.inl ⟨rfl, trivial⟩), .inr (.inl ⟨rfl, trivial⟩), .inr (.inl ⟨rfl, trivial⟩), .inr (.inl ⟨rfl, fun b hb u hu hbu => (by rw [List.mem_singleton.1 hu] at hbu; first | exact hdj b hb b hbu rfl | exact hdj b hbu b hb rfl)⟩), trivial⟩
      rw [List.mem_singleton.1 hu] at hb
      simp [fpL, fpC]; first | exact hb | exact .inl hb | exact .inr hb
    cbv
    clear h1_ s1_ l1_
    refine goYt hg h0 hj l2_ ?_
    cbv
    refine ⟨_, h2_, ?_⟩
    cbv
    generalize hG3 : g .st _ _ _ = E3
    generalize hX : putC _ _ _ = x at hG3
    cbv at hX
    subst hX
    obtain ⟨s3_, h3_, l3_⟩ := st_step hg hG3 s2_ hjl
    clear hG3 s2_ h2_ l2_
    rw [e2]
    cbv
    refine goYt hg h0 hj l3_ ?_
    cbv
    refine ⟨_, h3_, ?_⟩
    cbv
    generalize hG4 : g .st _ _ _ = E4
    generalize hX : putC _ _ _ = x at hG4
    cbv at hX
    subst hX
    obtain ⟨s4_, h4_, l4_⟩ := st_step hg hG4 s3_ hjl
    clear hG4 s3_ h3_ l3_
    rw [e3]
    cbv
    refine goYt hg h0 hj l4_ ?_
    cbv
    refine ⟨_, h4_, ?_⟩
    cbv
    generalize hG5 : g .st _ _ _ = E5
    generalize hX : putC _ _ _ = x at hG5
    cbv at hX
    subst hX
    obtain ⟨s5_, h5_, l5_⟩ := st_step hg hG5 s4_ hjl
    clear hG5 s4_ h4_ l4_
    rw [e4]
    cbv
    refine goYt hg h0 hj l5_ ?_
    cbv
    refine ⟨_, h5_, ?_⟩
    cbv
    generalize hG6 : g .st _ _ _ = E6
    generalize hX : putC _ _ _ = x at hG6
    cbv at hX
    subst hX
    obtain ⟨s6_, h6_, l6_⟩ := st_step hg hG6 s5_ hjl
    clear hG6 s5_ h5_ l5_
    refine hand_cut [] [] heff hhd hg fits [(0, .t (.c (.own 0))), (1, .t (ai q5)), (5, .t (ai z))] [.rw ⟨ty, 64, E6⟩] (by kernel_rfl) (fun B' hB' => ?_) ?_
    · cbv
      rw [e5]
      exact hB' _ _ (Wk.weak (wk1 ⟨⟨_, rfl, rfl, by rw [s6_]; exact plain_set (bare_plainE hs.bare) rfl⟩, trivial⟩ ⟨rfl, rfl, rfl, trivial⟩))
    as_aux_lemma =>
      subst hC6
      cbv
      refine goYt hg h0 hj l6_ ?_
      cbv
      refine ⟨_, h6_, ?_⟩
      cbv
      generalize hG7 : g .st _ _ _ = E7
      generalize hX : putC _ _ _ = x at hG7
      cbv at hX
      subst hX
      obtain ⟨s7_, h7_, l7_⟩ := st_step hg hG7 s6_ hjl
      clear hG7 s6_ h6_ l6_
      rw [e6]
      cbv
      refine goYt hg h0 hj l7_ ?_
      cbv
      refine ⟨_, h7_, ?_⟩
      cbv
      generalize hG8 : g .st _ _ _ = E8
      generalize hX : putC _ _ _ = x at hG8
      cbv at hX
      subst hX
      obtain ⟨s8_, h8_, l8_⟩ := st_step hg hG8 s7_ hjl
      clear hG8 s7_ h7_ l7_
      rw [e7]
      cbv
      refine goNZ hg (by decide) ?_
      cbv
      rw [m8]
      cbv
      refine goYt hg h0 hj l8_ ?_
      cbv
      refine ⟨_, h8_, ?_⟩
      cbv
      generalize hG9 : g .st _ _ _ = E9
      generalize hX : putC _ _ _ = x at hG9
      cbv at hX
      subst hX
      obtain ⟨s9_, h9_, l9_⟩ := st_step hg hG9 s8_ hjl
      clear hG9 s8_ h8_ l8_
      rw [e8]
      cbv
      refine goNZ hg (by decide) ?_
      cbv
      rw [m9]
      cbv
      refine goYt hg h0 hj l9_ ?_
      cbv
      refine ⟨_, h9_, ?_⟩
      cbv
      generalize hG10 : g .st _ _ _ = E10
      generalize hX : putC _ _ _ = x at hG10
      cbv at hX
      subst hX
      obtain ⟨s10_, h10_, l10_⟩ := st_step hg hG10 s9_ hjl
      clear hG10 s9_ h9_ l9_
      rw [e9]
      cbv
      refine goYt hg h0 hj l10_ ?_
      cbv
      refine ⟨_, h10_, ?_⟩
      cbv
      generalize hG11 : g .st _ _ _ = E11
      generalize hX : putC _ _ _ = x at hG11
      cbv at hX
      subst hX
      obtain ⟨s11_, h11_, l11_⟩ := st_step hg hG11 s10_ hjl
      clear hG11 s10_ h10_ l10_
      rw [e10]
      cbv
      refine goYt hg h0 hj l11_ ?_
      cbv
      refine ⟨_, h11_, ?_⟩
      cbv
      generalize hG12 : g .st _ _ _ = E12
      generalize hX : putC _ _ _ = x at hG12
      cbv at hX
      subst hX
      obtain ⟨s12_, h12_, l12_⟩ := st_step hg hG12 s11_ hjl
      clear hG12 s11_ h11_ l11_
      refine hand_cut [] [] heff hhd hg fits [(0, .t (.c (.own 0))), (1, .t (ai q11)), (5, .t (ai z))] [.rw ⟨ty, 64, E12⟩] (by kernel_rfl) (fun B' hB' => ?_) ?_
      · cbv
        rw [e11]
        exact hB' _ _ (Wk.weak (wk1 ⟨⟨_, rfl, rfl, by rw [s12_]; exact plain_set (bare_plainE hs.bare) rfl⟩, trivial⟩ ⟨rfl, rfl, rfl, trivial⟩))
      as_aux_lemma =>
        subst hC12
        cbv
        refine goYt hg h0 hj l12_ ?_
        cbv
        refine ⟨_, h12_, ?_⟩
        cbv
        generalize hG13 : g .st _ _ _ = E13
        generalize hX : putC _ _ _ = x at hG13
        cbv at hX
        subst hX
        obtain ⟨s13_, h13_, l13_⟩ := st_step hg hG13 s12_ hjl
        clear hG13 s12_ h12_ l12_
        rw [e12]
        cbv
        refine goYt hg h0 hj l13_ ?_
        cbv
        refine ⟨_, h13_, ?_⟩
        cbv
        generalize hG14 : g .st _ _ _ = E14
        generalize hX : putC _ _ _ = x at hG14
        cbv at hX
        subst hX
        obtain ⟨s14_, h14_, l14_⟩ := st_step hg hG14 s13_ hjl
        clear hG14 s13_ h13_ l13_
        rw [e13]
        cbv
        refine goYt hg h0 hj l14_ ?_
        cbv
        refine ⟨_, h14_, ?_⟩
        cbv
        generalize hG15 : g .st _ _ _ = E15
        generalize hX : putC _ _ _ = x at hG15
        cbv at hX
        subst hX
        obtain ⟨s15_, h15_, l15_⟩ := st_step hg hG15 s14_ hjl
        clear hG15 s14_ h14_ l14_
        rw [e14]
        cbv
        refine goYt hg h0 hj l15_ ?_
        cbv
        refine ⟨_, h15_, ?_⟩
        cbv
        generalize hG16 : g .st _ _ _ = E16
        generalize hX : putC _ _ _ = x at hG16
        cbv at hX
        subst hX
        obtain ⟨s16_, h16_, l16_⟩ := st_step hg hG16 s15_ hjl
        clear hG16 s15_ h15_ l15_
        rw [e15]
        cbv
        refine goYt hg h0 hj l16_ ?_
        cbv
        refine ⟨_, h16_, ?_⟩
        cbv
        generalize hG17 : g .st _ _ _ = E17
        generalize hX : putC _ _ _ = x at hG17
        cbv at hX
        subst hX
        obtain ⟨s17_, h17_, l17_⟩ := st_step hg hG17 s16_ hjl
        clear hG17 s16_ h16_ l16_
        rw [e16]
        cbv
        refine goYt hg h0 hj l17_ ?_
        cbv
        refine ⟨_, h17_, ?_⟩
        cbv
        generalize hG18 : g .st _ _ _ = E18
        generalize hX : putC _ _ _ = x at hG18
        cbv at hX
        subst hX
        obtain ⟨s18_, h18_, l18_⟩ := st_step hg hG18 s17_ hjl
        clear hG18 s17_ h17_ l17_
        refine hand_cut [] [] heff hhd hg fits [(0, .t (.c (.own 0))), (1, .t (ai q17)), (5, .t (ai z))] [.rw ⟨ty, 64, E18⟩] (by kernel_rfl) (fun B' hB' => ?_) ?_
        · cbv
          rw [e17]
          exact hB' _ _ (Wk.weak (wk1 ⟨⟨_, rfl, rfl, by rw [s18_]; exact plain_set (bare_plainE hs.bare) rfl⟩, trivial⟩ ⟨rfl, rfl, rfl, trivial⟩))
        as_aux_lemma =>
          subst hC18
          cbv
          refine goYt hg h0 hj l18_ ?_
          cbv
          refine ⟨_, h18_, ?_⟩
          cbv
          generalize hG19 : g .st _ _ _ = E19
          generalize hX : putC _ _ _ = x at hG19
          cbv at hX
          subst hX
          obtain ⟨s19_, h19_, l19_⟩ := st_step hg hG19 s18_ hjl
          clear hG19 s18_ h18_ l18_
          rw [e18]
          cbv
          refine goYt hg h0 hj l19_ ?_
          cbv
          refine ⟨_, h19_, ?_⟩
          cbv
          generalize hG20 : g .st _ _ _ = E20
          generalize hX : putC _ _ _ = x at hG20
          cbv at hX
          subst hX
          obtain ⟨s20_, h20_, l20_⟩ := st_step hg hG20 s19_ hjl
          clear hG20 s19_ h19_ l19_
          rw [e19]
          cbv
          refine goYt hg h0 hj l20_ ?_
          cbv
          refine ⟨_, h20_, ?_⟩
          cbv
          generalize hG21 : g .st _ _ _ = E21
          generalize hX : putC _ _ _ = x at hG21
          cbv at hX
          subst hX
          obtain ⟨s21_, h21_, l21_⟩ := st_step hg hG21 s20_ hjl
          clear hG21 s20_ h20_ l20_
          rw [e20]
          cbv
          refine goYt hg h0 hj l21_ ?_
          cbv
          refine ⟨_, h21_, ?_⟩
          cbv
          generalize hG22 : g .st _ _ _ = E22
          generalize hX : putC _ _ _ = x at hG22
          cbv at hX
          subst hX
          obtain ⟨s22_, h22_, l22_⟩ := st_step hg hG22 s21_ hjl
          clear hG22 s21_ h21_ l21_
          rw [e21]
          cbv
          refine goYt hg h0 hj l22_ ?_
          cbv
          refine ⟨_, h22_, ?_⟩
          cbv
          generalize hG23 : g .st _ _ _ = E23
          generalize hX : putC _ _ _ = x at hG23
          cbv at hX
          subst hX
          obtain ⟨s23_, h23_, l23_⟩ := st_step hg hG23 s22_ hjl
          clear hG23 s22_ h22_ l22_
          rw [e22]
          cbv
          refine goYt hg h0 hj l23_ ?_
          cbv
          refine ⟨_, h23_, ?_⟩
          cbv
          generalize hG24 : g .st _ _ _ = E24
          generalize hX : putC _ _ _ = x at hG24
          cbv at hX
          subst hX
          obtain ⟨s24_, h24_, l24_⟩ := st_step hg hG24 s23_ hjl
          clear hG24 s23_ h23_ l23_
          refine hand_cut [] [] heff hhd hg fits [(0, .t (.c (.own 0))), (1, .t (ai q23)), (5, .t (ai z))] [.rw ⟨ty, 64, E24⟩] (by kernel_rfl) (fun B' hB' => ?_) ?_
          · cbv
            rw [e23]
            exact hB' _ _ (Wk.weak (wk1 ⟨⟨_, rfl, rfl, by rw [s24_]; exact plain_set (bare_plainE hs.bare) rfl⟩, trivial⟩ ⟨rfl, rfl, rfl, trivial⟩))
          as_aux_lemma =>
            subst hC24
            cbv
            refine goYt hg h0 hj l24_ ?_
            cbv
            refine ⟨_, h24_, ?_⟩
            cbv
            generalize hG25 : g .st _ _ _ = E25
            generalize hX : putC _ _ _ = x at hG25
            cbv at hX
            subst hX
            obtain ⟨s25_, h25_, l25_⟩ := st_step hg hG25 s24_ hjl
            clear hG25 s24_ h24_ l24_
            rw [e24]
            cbv
            refine goYt hg h0 hj l25_ ?_
            cbv
            refine ⟨_, h25_, ?_⟩
            cbv
            generalize hG26 : g .st _ _ _ = E26
            generalize hX : putC _ _ _ = x at hG26
            cbv at hX
            subst hX
            obtain ⟨s26_, h26_, l26_⟩ := st_step hg hG26 s25_ hjl
            clear hG26 s25_ h25_ l25_
            rw [e25]
            cbv
            refine goYt hg h0 hj l26_ ?_
            cbv
            refine ⟨_, h26_, ?_⟩
            cbv
            generalize hG27 : g .st _ _ _ = E27
            generalize hX : putC _ _ _ = x at hG27
            cbv at hX
            subst hX
            obtain ⟨s27_, h27_, l27_⟩ := st_step hg hG27 s26_ hjl
            clear hG27 s26_ h26_ l26_
            rw [e26]
            cbv
            refine goYt hg h0 hj l27_ ?_
            cbv
            refine ⟨_, h27_, ?_⟩
            cbv
            generalize hG28 : g .st _ _ _ = E28
            generalize hX : putC _ _ _ = x at hG28
            cbv at hX
            subst hX
            obtain ⟨s28_, h28_, l28_⟩ := st_step hg hG28 s27_ hjl
            clear hG28 s27_ h27_ l27_
            rw [e27]
            cbv
            refine goYt hg h0 hj l28_ ?_
            cbv
            refine ⟨_, h28_, ?_⟩
            cbv
            generalize hG29 : g .st _ _ _ = E29
            generalize hX : putC _ _ _ = x at hG29
            cbv at hX
            subst hX
            obtain ⟨s29_, h29_, l29_⟩ := st_step hg hG29 s28_ hjl
            clear hG29 s28_ h28_ l28_
            rw [e28]
            cbv
            refine goYt hg h0 hj l29_ ?_
            cbv
            refine ⟨_, h29_, ?_⟩
            cbv
            generalize hG30 : g .st _ _ _ = E30
            generalize hX : putC _ _ _ = x at hG30
            cbv at hX
            subst hX
            obtain ⟨s30_, h30_, l30_⟩ := st_step hg hG30 s29_ hjl
            clear hG30 s29_ h29_ l29_
            refine hand_cut [] [] heff hhd hg fits [(0, .t (.c (.own 0))), (1, .t (ai q29)), (5, .t (ai z))] [.rw ⟨ty, 64, E30⟩] (by kernel_rfl) (fun B' hB' => ?_) ?_
            · cbv
              rw [e29]
              exact hB' _ _ (Wk.weak (wk1 ⟨⟨_, rfl, rfl, by rw [s30_]; exact plain_set (bare_plainE hs.bare) rfl⟩, trivial⟩ ⟨rfl, rfl, rfl, trivial⟩))
            as_aux_lemma =>
              subst hC30
              cbv
              refine goYt hg h0 hj l30_ ?_
              cbv
              refine ⟨_, h30_, ?_⟩
              cbv
              generalize hG31 : g .st _ _ _ = E31
              generalize hX : putC _ _ _ = x at hG31
              cbv at hX
              subst hX
              obtain ⟨s31_, h31_, l31_⟩ := st_step hg hG31 s30_ hjl
              clear hG31 s30_ h30_ l30_
              rw [e30]
              cbv
              refine goYt hg h0 hj l31_ ?_
              cbv
              refine ⟨_, h31_, ?_⟩
              cbv
              generalize hG32 : g .st _ _ _ = E32
              generalize hX : putC _ _ _ = x at hG32
              cbv at hX
              subst hX
              obtain ⟨s32_, h32_, l32_⟩ := st_step hg hG32 s31_ hjl
              clear hG32 s31_ h31_ l31_
              rw [e31]
              cbv
              refine goYt hg h0 hj l32_ ?_
              cbv
              refine ⟨_, h32_, ?_⟩
              cbv
              generalize hG33 : g .st _ _ _ = E33
              generalize hX : putC _ _ _ = x at hG33
              cbv at hX
              subst hX
              obtain ⟨s33_, h33_, l33_⟩ := st_step hg hG33 s32_ hjl
              clear hG33 s32_ h32_ l32_
              rw [e32]
              cbv
              refine goYt hg h0 hj l33_ ?_
              cbv
              refine ⟨_, h33_, ?_⟩
              cbv
              generalize hG34 : g .st _ _ _ = E34
              generalize hX : putC _ _ _ = x at hG34
              cbv at hX
              subst hX
              obtain ⟨s34_, h34_, l34_⟩ := st_step hg hG34 s33_ hjl
              clear hG34 s33_ h33_ l33_
              rw [e33]
              cbv
              refine goYt hg h0 hj l34_ ?_
              cbv
              refine ⟨_, h34_, ?_⟩
              cbv
              generalize hG35 : g .st _ _ _ = E35
              generalize hX : putC _ _ _ = x at hG35
              cbv at hX
              subst hX
              obtain ⟨s35_, h35_, l35_⟩ := st_step hg hG35 s34_ hjl
              clear hG35 s34_ h34_ l34_
              rw [e34]
              cbv
              refine goYt hg h0 hj l35_ ?_
              cbv
              refine ⟨_, h35_, ?_⟩
              cbv
              generalize hG36 : g .st _ _ _ = E36
              generalize hX : putC _ _ _ = x at hG36
              cbv at hX
              subst hX
              obtain ⟨s36_, h36_, l36_⟩ := st_step hg hG36 s35_ hjl
              clear hG36 s35_ h35_ l35_
              refine hand_cut [] [] heff hhd hg fits [(0, .t (.c (.own 0))), (1, .t (ai q35)), (5, .t (ai z))] [.rw ⟨ty, 64, E36⟩] (by kernel_rfl) (fun B' hB' => ?_) ?_
              · cbv
                rw [e35]
                exact hB' _ _ (Wk.weak (wk1 ⟨⟨_, rfl, rfl, by rw [s36_]; exact plain_set (bare_plainE hs.bare) rfl⟩, trivial⟩ ⟨rfl, rfl, rfl, trivial⟩))
              as_aux_lemma =>
                subst hC36
                cbv
                refine goYt hg h0 hj l36_ ?_
                cbv
                refine ⟨_, h36_, ?_⟩
                cbv
                generalize hG37 : g .st _ _ _ = E37
                generalize hX : putC _ _ _ = x at hG37
                cbv at hX
                subst hX
                obtain ⟨s37_, h37_, l37_⟩ := st_step hg hG37 s36_ hjl
                clear hG37 s36_ h36_ l36_
                rw [e36]
                cbv
                refine goYt hg h0 hj l37_ ?_
                cbv
                refine ⟨_, h37_, ?_⟩
                cbv
                generalize hG38 : g .st _ _ _ = E38
                generalize hX : putC _ _ _ = x at hG38
                cbv at hX
                subst hX
                obtain ⟨s38_, h38_, l38_⟩ := st_step hg hG38 s37_ hjl
                clear hG38 s37_ h37_ l37_
                rw [e37]
                cbv
                refine goYt hg h0 hj l38_ ?_
                cbv
                refine ⟨_, h38_, ?_⟩
                cbv
                generalize hG39 : g .st _ _ _ = E39
                generalize hX : putC _ _ _ = x at hG39
                cbv at hX
                subst hX
                obtain ⟨s39_, h39_, l39_⟩ := st_step hg hG39 s38_ hjl
                clear hG39 s38_ h38_ l38_
                rw [e38]
                cbv
                refine goYt hg h0 hj l39_ ?_
                cbv
                refine ⟨_, h39_, ?_⟩
                cbv
                generalize hG40 : g .st _ _ _ = E40
                generalize hX : putC _ _ _ = x at hG40
                cbv at hX
                subst hX
                obtain ⟨s40_, h40_, l40_⟩ := st_step hg hG40 s39_ hjl
                clear hG40 s39_ h39_ l39_
                rw [e39]
                cbv
                refine goYt hg h0 hj l40_ ?_
                cbv
                refine ⟨_, h40_, ?_⟩
                cbv
                generalize hG41 : g .st _ _ _ = E41
                generalize hX : putC _ _ _ = x at hG41
                cbv at hX
                subst hX
                obtain ⟨s41_, h41_, l41_⟩ := st_step hg hG41 s40_ hjl
                clear hG41 s40_ h40_ l40_
                rw [e40]
                cbv
                refine goYt hg h0 hj l41_ ?_
                cbv
                refine ⟨_, h41_, ?_⟩
                cbv
                generalize hG42 : g .st _ _ _ = E42
                generalize hX : putC _ _ _ = x at hG42
                cbv at hX
                subst hX
                obtain ⟨s42_, h42_, l42_⟩ := st_step hg hG42 s41_ hjl
                clear hG42 s41_ h41_ l41_
                refine hand_cut [] [] heff hhd hg fits [(0, .t (.c (.own 0))), (1, .t (ai q41)), (5, .t (ai z))] [.rw ⟨ty, 64, E42⟩] (by kernel_rfl) (fun B' hB' => ?_) ?_
                · cbv
                  rw [e41]
                  exact hB' _ _ (Wk.weak (wk1 ⟨⟨_, rfl, rfl, by rw [s42_]; exact plain_set (bare_plainE hs.bare) rfl⟩, trivial⟩ ⟨rfl, rfl, rfl, trivial⟩))
                as_aux_lemma =>
                  subst hC42
                  cbv
                  refine goYt hg h0 hj l42_ ?_
                  cbv
                  refine ⟨_, h42_, ?_⟩
                  cbv
                  generalize hG43 : g .st _ _ _ = E43
                  generalize hX : putC _ _ _ = x at hG43
                  cbv at hX
                  subst hX
                  obtain ⟨s43_, h43_, l43_⟩ := st_step hg hG43 s42_ hjl
                  clear hG43 s42_ h42_ l42_
                  rw [e42]
                  cbv
                  refine goYt hg h0 hj l43_ ?_
                  cbv
                  refine ⟨_, h43_, ?_⟩
                  cbv
                  generalize hG44 : g .st _ _ _ = E44
                  generalize hX : putC _ _ _ = x at hG44
                  cbv at hX
                  subst hX
                  obtain ⟨s44_, h44_, l44_⟩ := st_step hg hG44 s43_ hjl
                  clear hG44 s43_ h43_ l43_
                  rw [e43]
                  cbv
                  refine goYt hg h0 hj l44_ ?_
                  cbv
                  refine ⟨_, h44_, ?_⟩
                  cbv
                  generalize hG45 : g .st _ _ _ = E45
                  generalize hX : putC _ _ _ = x at hG45
                  cbv at hX
                  subst hX
                  obtain ⟨s45_, h45_, l45_⟩ := st_step hg hG45 s44_ hjl
                  clear hG45 s44_ h44_ l44_
                  rw [e44]
                  cbv
                  refine goYt hg h0 hj l45_ ?_
                  cbv
                  refine ⟨_, h45_, ?_⟩
                  cbv
                  generalize hG46 : g .st _ _ _ = E46
                  generalize hX : putC _ _ _ = x at hG46
                  cbv at hX
                  subst hX
                  obtain ⟨s46_, h46_, l46_⟩ := st_step hg hG46 s45_ hjl
                  clear hG46 s45_ h45_ l45_
                  rw [e45]
                  cbv
                  refine goYt hg h0 hj l46_ ?_
                  cbv
                  refine ⟨_, h46_, ?_⟩
                  cbv
                  generalize hG47 : g .st _ _ _ = E47
                  generalize hX : putC _ _ _ = x at hG47
                  cbv at hX
                  subst hX
                  obtain ⟨s47_, h47_, l47_⟩ := st_step hg hG47 s46_ hjl
                  clear hG47 s46_ h46_ l46_
                  rw [e46]
                  cbv
                  refine goYt hg h0 hj l47_ ?_
                  cbv
                  refine ⟨_, h47_, ?_⟩
                  cbv
                  generalize hG48 : g .st _ _ _ = E48
                  generalize hX : putC _ _ _ = x at hG48
                  cbv at hX
                  subst hX
                  obtain ⟨s48_, h48_, l48_⟩ := st_step hg hG48 s47_ hjl
                  clear hG48 s47_ h47_ l47_
                  refine hand_cut [] [] heff hhd hg fits [(0, .t (.c (.own 0))), (1, .t (ai q47)), (5, .t (ai z))] [.rw ⟨ty, 64, E48⟩] (by kernel_rfl) (fun B' hB' => ?_) ?_
                  · cbv
                    rw [e47]
                    exact hB' _ _ (Wk.weak (wk1 ⟨⟨_, rfl, rfl, by rw [s48_]; exact plain_set (bare_plainE hs.bare) rfl⟩, trivial⟩ ⟨rfl, rfl, rfl, trivial⟩))
                  as_aux_lemma =>
                    subst hC48
                    cbv
                    refine goYt hg h0 hj l48_ ?_
                    cbv
                    refine ⟨_, h48_, ?_⟩
                    cbv
                    generalize hG49 : g .st _ _ _ = E49
                    generalize hX : putC _ _ _ = x at hG49
                    cbv at hX
                    subst hX
                    obtain ⟨s49_, h49_, l49_⟩ := st_step hg hG49 s48_ hjl
                    clear hG49 s48_ h48_ l48_
                    rw [e48]
                    cbv
                    refine goYt hg h0 hj l49_ ?_
                    cbv
                    refine ⟨_, h49_, ?_⟩
                    cbv
                    generalize hG50 : g .st _ _ _ = E50
                    generalize hX : putC _ _ _ = x at hG50
                    cbv at hX
                    subst hX
                    obtain ⟨s50_, h50_, l50_⟩ := st_step hg hG50 s49_ hjl
                    clear hG50 s49_ h49_ l49_
                    rw [e49]
                    cbv
                    refine goYt hg h0 hj l50_ ?_
                    cbv
                    refine ⟨_, h50_, ?_⟩
                    cbv
                    generalize hG51 : g .st _ _ _ = E51
                    generalize hX : putC _ _ _ = x at hG51
                    cbv at hX
                    subst hX
                    obtain ⟨s51_, h51_, l51_⟩ := st_step hg hG51 s50_ hjl
                    clear hG51 s50_ h50_ l50_
                    rw [e50]
                    cbv
                    refine goYt hg h0 hj l51_ ?_
                    cbv
                    refine ⟨_, h51_, ?_⟩
                    cbv
                    generalize hG52 : g .st _ _ _ = E52
                    generalize hX : putC _ _ _ = x at hG52
                    cbv at hX
                    subst hX
                    obtain ⟨s52_, h52_, l52_⟩ := st_step hg hG52 s51_ hjl
                    clear hG52 s51_ h51_ l51_
                    rw [e51]
                    cbv
                    refine goYt hg h0 hj l52_ ?_
                    cbv
                    refine ⟨_, h52_, ?_⟩
                    cbv
                    generalize hG53 : g .st _ _ _ = E53
                    generalize hX : putC _ _ _ = x at hG53
                    cbv at hX
                    subst hX
                    obtain ⟨s53_, h53_, l53_⟩ := st_step hg hG53 s52_ hjl
                    clear hG53 s52_ h52_ l52_
                    rw [e52]
                    cbv
                    refine goYt hg h0 hj l53_ ?_
                    cbv
                    refine ⟨_, h53_, ?_⟩
                    cbv
                    generalize hG54 : g .st _ _ _ = E54
                    generalize hX : putC _ _ _ = x at hG54
                    cbv at hX
                    subst hX
                    obtain ⟨s54_, h54_, l54_⟩ := st_step hg hG54 s53_ hjl
                    clear hG54 s53_ h53_ l53_
                    refine hand_cut [] [] heff hhd hg fits [(0, .t (.c (.own 0))), (1, .t (ai q53)), (5, .t (ai z))] [.rw ⟨ty, 64, E54⟩] (by kernel_rfl) (fun B' hB' => ?_) ?_
                    · cbv
                      rw [e53]
                      exact hB' _ _ (Wk.weak (wk1 ⟨⟨_, rfl, rfl, by rw [s54_]; exact plain_set (bare_plainE hs.bare) rfl⟩, trivial⟩ ⟨rfl, rfl, rfl, trivial⟩))
                    as_aux_lemma =>
                      subst hC54
                      cbv
                      refine goYt hg h0 hj l54_ ?_
                      cbv
                      refine ⟨_, h54_, ?_⟩
                      cbv
                      generalize hG55 : g .st _ _ _ = E55
                      generalize hX : putC _ _ _ = x at hG55
                      cbv at hX
                      subst hX
                      obtain ⟨s55_, h55_, l55_⟩ := st_step hg hG55 s54_ hjl
                      clear hG55 s54_ h54_ l54_
                      rw [e54]
                      cbv
                      refine goYt hg h0 hj l55_ ?_
                      cbv
                      refine ⟨_, h55_, ?_⟩
                      cbv
                      generalize hG56 : g .st _ _ _ = E56
                      generalize hX : putC _ _ _ = x at hG56
                      cbv at hX
                      subst hX
                      obtain ⟨s56_, h56_, l56_⟩ := st_step hg hG56 s55_ hjl
                      clear hG56 s55_ h55_ l55_
                      rw [e55]
                      cbv
                      refine goYt hg h0 hj l56_ ?_
                      cbv
                      refine ⟨_, h56_, ?_⟩
                      cbv
                      generalize hG57 : g .st _ _ _ = E57
                      generalize hX : putC _ _ _ = x at hG57
                      cbv at hX
                      subst hX
                      obtain ⟨s57_, h57_, l57_⟩ := st_step hg hG57 s56_ hjl
                      clear hG57 s56_ h56_ l56_
                      rw [e56]
                      cbv
                      refine goYt hg h0 hj l57_ ?_
                      cbv
                      refine ⟨_, h57_, ?_⟩
                      cbv
                      generalize hG58 : g .st _ _ _ = E58
                      generalize hX : putC _ _ _ = x at hG58
                      cbv at hX
                      subst hX
                      obtain ⟨s58_, h58_, l58_⟩ := st_step hg hG58 s57_ hjl
                      clear hG58 s57_ h57_ l57_
                      rw [e57]
                      cbv
                      refine goYt hg h0 hj l58_ ?_
                      cbv
                      refine ⟨_, h58_, ?_⟩
                      cbv
                      generalize hG59 : g .st _ _ _ = E59
                      generalize hX : putC _ _ _ = x at hG59
                      cbv at hX
                      subst hX
                      obtain ⟨s59_, h59_, l59_⟩ := st_step hg hG59 s58_ hjl
                      clear hG59 s58_ h58_ l58_
                      rw [e58]
                      cbv
                      refine goYt hg h0 hj l59_ ?_
                      cbv
                      refine ⟨_, h59_, ?_⟩
                      cbv
                      generalize hG60 : g .st _ _ _ = E60
                      generalize hX : putC _ _ _ = x at hG60
                      cbv at hX
                      subst hX
                      obtain ⟨s60_, h60_, l60_⟩ := st_step hg hG60 s59_ hjl
                      clear hG60 s59_ h59_ l59_
                      refine hand_cut [] [] heff hhd hg fits [(0, .t (.c (.own 0))), (1, .t (ai q59)), (5, .t (ai z))] [.rw ⟨ty, 64, E60⟩] (by kernel_rfl) (fun B' hB' => ?_) ?_
                      · cbv
                        rw [e59]
                        exact hB' _ _ (Wk.weak (wk1 ⟨⟨_, rfl, rfl, by rw [s60_]; exact plain_set (bare_plainE hs.bare) rfl⟩, trivial⟩ ⟨rfl, rfl, rfl, trivial⟩))
                      as_aux_lemma =>
                        subst hC60
                        cbv
                        refine goYt hg h0 hj l60_ ?_
                        cbv
                        refine ⟨_, h60_, ?_⟩
                        cbv
                        generalize hG61 : g .st _ _ _ = E61
                        generalize hX : putC _ _ _ = x at hG61
                        cbv at hX
                        subst hX
                        obtain ⟨s61_, h61_, l61_⟩ := st_step hg hG61 s60_ hjl
                        clear hG61 s60_ h60_ l60_
                        rw [e60]
                        cbv
                        refine goYt hg h0 hj l61_ ?_
                        cbv
                        refine ⟨_, h61_, ?_⟩
                        cbv
                        generalize hG62 : g .st _ _ _ = E62
                        generalize hX : putC _ _ _ = x at hG62
                        cbv at hX
                        subst hX
                        obtain ⟨s62_, h62_, l62_⟩ := st_step hg hG62 s61_ hjl
                        clear hG62 s61_ h61_ l61_
                        rw [e61]
                        cbv
                        refine goNZ hg (by decide) ?_
                        cbv
                        rw [m62]
                        cbv
                        refine goYt hg h0 hj l62_ ?_
                        cbv
                        refine ⟨_, h62_, ?_⟩
                        cbv
                        generalize hG63 : g .st _ _ _ = E63
                        generalize hX : putC _ _ _ = x at hG63
                        cbv at hX
                        subst hX
                        obtain ⟨s63_, h63_, l63_⟩ := st_step hg hG63 s62_ hjl
                        clear hG63 s62_ h62_ l62_
                        rw [e62]
                        cbv
                        have hbare1 : ∀ x ∈ E63, x.all bareF = true := fun x hx => by
                          rw [s63_] at hx
                          rcases List.mem_or_eq_of_mem_set hx with h | h
                          · exact hs.bare x h
                          · rw [h]; rfl
                        have hfp1 : fpE E63 = bs' := by rw [s63_]; exact (fpE_same he (by rfl)).trans hs.fp
                        have hm1 := laws_markRuleS_n q62 B1 F1 hF1s hF1k hF1i hB1nd r63.1 r63.2
                        rw [← hl1'] at hm1
                        rw [← hq63] at hm1
                        obtain ⟨M1, hM1⟩ : ∃ M, M = (vw GRule.c (marksRule q62 l1)) := ⟨_, rfl⟩
                        rw [← hM1] at hm1
                        refine hand_mark hg hhd fits 7 (by kernel_rfl) (fun mk hmk => ?_)
                        cbv
                        refine goYt hg h0 hj l63_ ?_
                        cbv
                        refine ⟨_, h63_, ?_⟩
                        cbv
                        subst hmk
                        obtain ⟨E64, hE64⟩ : ∃ E', E' = E63.set j (.imm (.int .i64 kc) :: .fv B0 M0 :: .imm (.int .i64 q1) :: .imm (.int .i64 q2) :: .imm (.int .i64 q3) :: .imm (.int .i64 q4) :: .imm (.int .i64 q5) :: .imm (.int .i64 q6) :: .imm (.bool t8) :: .imm (.bool t9) :: .imm (.int .i64 q9) :: .imm (.int .i64 q10) :: .imm (.int .i64 q11) :: .imm (.int .i64 q12) :: .imm (.int .i64 q13) :: .imm (.int .i64 q14) :: .imm (.int .i64 q15) :: .imm (.int .i64 q16) :: .imm (.int .i64 q17) :: .imm (.int .i64 q18) :: .imm (.int .i64 q19) :: .imm (.int .i64 q20) :: .imm (.int .i64 q21) :: .imm (.int .i64 q22) :: .imm (.int .i64 q23) :: .imm (.int .i64 q24) :: .imm (.int .i64 q25) :: .imm (.int .i64 q26) :: .imm (.int .i64 q27) :: .imm (.int .i64 q28) :: .imm (.int .i64 q29) :: .imm (.int .i64 q30) :: .imm (.int .i64 q31) :: .imm (.int .i64 q32) :: .imm (.int .i64 q33) :: .imm (.int .i64 q34) :: .imm (.int .i64 q35) :: .imm (.int .i64 q36) :: .imm (.int .i64 q37) :: .imm (.int .i64 q38) :: .imm (.int .i64 q39) :: .imm (.int .i64 q40) :: .imm (.int .i64 q41) :: .imm (.int .i64 q42) :: .imm (.int .i64 q43) :: .imm (.int .i64 q44) :: .imm (.int .i64 q45) :: .imm (.int .i64 q46) :: .imm (.int .i64 q47) :: .imm (.int .i64 q48) :: .imm (.int .i64 q49) :: .imm (.int .i64 q50) :: .imm (.int .i64 q51) :: .imm (.int .i64 q52) :: .imm (.int .i64 q53) :: .imm (.int .i64 q54) :: .imm (.int .i64 q55) :: .imm (.int .i64 q56) :: .imm (.int .i64 q57) :: .imm (.int .i64 q58) :: .imm (.int .i64 q59) :: .imm (.int .i64 q60) :: .imm (.bool t62) :: .fv B1 M1 :: []) := ⟨_, rfl⟩
                        obtain ⟨s64_, h64_, l64_⟩ := set_step hE64 s63_ hjl
                        refine ⟨_, _, _, [(B1, F1, M1)], _, [(0, .t (.c (.own 0))), (1, .t (ai q62)), (5, .t (ai z))], [.rw ⟨ty, 64, E64⟩], rfl, rfl, rfl, rfl, rfl, hm1, fun u hu b hb => ?_, fun u hu => ?_, ⟨.inr (.inl ⟨rfl, trivial⟩), .inr (.inl ⟨rfl, trivial⟩), .inr (.inl ⟨rfl, trivial⟩), trivial⟩, ⟨?_, trivial⟩, ?_⟩
                        · rw [List.mem_singleton.1 hu] at hb
                          exact hex b (hfpe b (by simp [fpL, fpC]; first | exact hb | exact .inl hb | exact .inr hb))
                        · rw [List.mem_singleton.1 hu]
                          exact ⟨_, List.mem_cons_self .., List.mem_singleton.2 rfl⟩
                        · rw [hE64]
                          refine sf_row h63_ hbare1 (by rw [hfp1]; exact hnd') (fun u hu b hb => ?_) ⟨.inr (.inl ⟨rfl, trivial⟩), .inr (.inl ⟨rfl, fun b hb u hu hbu => (by rw [List.mem_singleton.1 hu] at hbu; first | exact hdj b hb b hbu rfl | exact hdj b hbu b hb rfl)⟩), .inr (.inl ⟨rfl, trivial⟩), .inr (.inl ⟨rfl, trivial⟩), .inr (.inl ⟨rfl, trivial⟩), .inr (.inl ⟨rfl, trivial⟩), .inr (.inl ⟨rfl, trivial⟩), .inr (.inl ⟨rfl, trivial⟩), .inr (.inl ⟨rfl, trivial⟩), .inr (.inl ⟨rfl, trivial⟩), .inr (.inl ⟨rfl, trivial⟩), .inr (.inl ⟨rfl, trivial⟩), .inr (.inl ⟨rfl, trivial⟩), .inr (.inl ⟨rfl, trivial⟩), .inr (.inl ⟨rfl, trivial⟩), .inr (.inl ⟨rfl, trivial⟩), .inr (.inl ⟨rfl, trivial⟩), .inr (.inl ⟨rfl, trivial⟩), .inr (.inl ⟨rfl, trivial⟩), .inr (.inl ⟨rfl, trivial⟩), .inr (.inl ⟨rfl, trivial⟩), .inr (.inl ⟨rfl, trivial⟩), .inr (.inl ⟨rfl, trivial⟩), .inr (.inl ⟨rfl, trivial⟩), .inr (.inl ⟨rfl, trivial⟩), .inr (.inl ⟨rfl, trivial⟩), .inr (.inl ⟨rfl, trivial⟩), .inr (.inl ⟨rfl, trivial⟩), .inr (.inl ⟨rfl, trivial⟩), .inr (.inl ⟨rfl, trivial⟩), .inr (.inl ⟨rfl, trivial⟩), .inr (.inl ⟨rfl, trivial⟩), .inr (.inl ⟨rfl, trivial⟩), .inr (.inl ⟨rfl, trivial⟩), .inr (.inl ⟨rfl, trivial⟩), .inr (.inl ⟨rfl, trivial⟩), .inr (.inl ⟨rfl, trivial⟩), .inr (.inl ⟨rfl, trivial⟩), .inr (.inl ⟨rfl, trivial⟩), .inr (.inl ⟨rfl, trivial⟩), .inr (.inl ⟨rfl, trivial⟩), .inr (.inl ⟨rfl, trivial⟩), .inr (.inl ⟨rfl, trivial⟩), .inr (.inl ⟨rfl, trivial⟩), .inr (.inl ⟨rfl, trivial⟩), .inr (.inl ⟨rfl, trivial⟩), .inr (.inl ⟨rfl, trivial⟩), .inr (.inl ⟨rfl, trivial⟩), .inr (.inl ⟨rfl, trivial⟩), .inr (.inl ⟨rfl, trivial⟩), .inr (.inl ⟨rfl, trivial⟩), .inr (.inl ⟨rfl, trivial⟩), .inr (.inl ⟨rfl, trivial⟩), .inr (.inl ⟨rfl, trivial⟩), .inr (.inl ⟨rfl, trivial⟩), .inr (.inl ⟨rfl, trivial⟩), .inr (.inl ⟨rfl, trivial⟩), .inr (.inl ⟨rfl, trivial⟩), .inr (.inl ⟨rfl, trivial⟩), .inr (.inl ⟨rfl, trivial⟩), .inr (.inl ⟨rfl, trivial⟩), .inr (.inl ⟨rfl, trivial⟩), .inr (.inl ⟨rfl, trivial⟩), .inr (.inr ⟨_, List.mem_singleton.2 rfl, rfl, rfl⟩), trivial⟩
                          rw [List.mem_singleton.1 hu] at hb
                          simp [fpL, fpC]; first | exact hb | exact .inl hb | exact .inr hb
                        cbv
                        clear h63_ s63_ l63_
                        rw [ez]
                        rw [s64_]
                        have hs' := hs.step (r := mkRowNode kc l0 l1) hj hc he (e' := (.imm (.int .i64 kc) :: .fv B0 M0 :: .imm (.int .i64 q1) :: .imm (.int .i64 q2) :: .imm (.int .i64 q3) :: .imm (.int .i64 q4) :: .imm (.int .i64 q5) :: .imm (.int .i64 q6) :: .imm (.bool t8) :: .imm (.bool t9) :: .imm (.int .i64 q9) :: .imm (.int .i64 q10) :: .imm (.int .i64 q11) :: .imm (.int .i64 q12) :: .imm (.int .i64 q13) :: .imm (.int .i64 q14) :: .imm (.int .i64 q15) :: .imm (.int .i64 q16) :: .imm (.int .i64 q17) :: .imm (.int .i64 q18) :: .imm (.int .i64 q19) :: .imm (.int .i64 q20) :: .imm (.int .i64 q21) :: .imm (.int .i64 q22) :: .imm (.int .i64 q23) :: .imm (.int .i64 q24) :: .imm (.int .i64 q25) :: .imm (.int .i64 q26) :: .imm (.int .i64 q27) :: .imm (.int .i64 q28) :: .imm (.int .i64 q29) :: .imm (.int .i64 q30) :: .imm (.int .i64 q31) :: .imm (.int .i64 q32) :: .imm (.int .i64 q33) :: .imm (.int .i64 q34) :: .imm (.int .i64 q35) :: .imm (.int .i64 q36) :: .imm (.int .i64 q37) :: .imm (.int .i64 q38) :: .imm (.int .i64 q39) :: .imm (.int .i64 q40) :: .imm (.int .i64 q41) :: .imm (.int .i64 q42) :: .imm (.int .i64 q43) :: .imm (.int .i64 q44) :: .imm (.int .i64 q45) :: .imm (.int .i64 q46) :: .imm (.int .i64 q47) :: .imm (.int .i64 q48) :: .imm (.int .i64 q49) :: .imm (.int .i64 q50) :: .imm (.int .i64 q51) :: .imm (.int .i64 q52) :: .imm (.int .i64 q53) :: .imm (.int .i64 q54) :: .imm (.int .i64 q55) :: .imm (.int .i64 q56) :: .imm (.int .i64 q57) :: .imm (.int .i64 q58) :: .imm (.int .i64 q59) :: .imm (.int .i64 q60) :: .imm (.bool t62) :: .fv B1 M1 :: [])) (rowNode_eq hM0 hM1 ht8 ht9 ht62 hq0 hq1 hq2 hq3 hq4 hq5 hq6 hq7 hq8 hq9 hq10 hq11 hq12 hq13 hq14 hq15 hq16 hq17 hq18 hq19 hq20 hq21 hq22 hq23 hq24 hq25 hq26 hq27 hq28 hq29 hq30 hq31 hq32 hq33 hq34 hq35 hq36 hq37 hq38 hq39 hq40 hq41 hq42 hq43 hq44 hq45 hq46 hq47 hq48 hq49 hq50 hq51 hq52 hq53 hq54 hq55 hq56 hq57 hq58 hq59 hq60 hq61 hq62 hq63) rfl rfl rfl
                        rw [hB]
                        refine ⟨(z + 1, q63, _), ⟨_, hs', ?_, ?_, by simp only; rw [hnx]; exact Int.le_trans hkc (by have := endMkNode_le [⟨l0, l1⟩] kc; exact this)⟩, hmu, Wk.weak (wk1 ⟨⟨_, rfl, rfl, bare_plainE hs'.bare⟩, trivial⟩ ⟨rfl, rfl, rfl, trivial⟩)⟩
                        · simp only
                          rw [hnx, List.append_assoc]
                          exact hR
                        · simp only
                          rw [hnx]
                          exact hK
def rng (n l m : Int) : Bool := decide (l ≤ n) && decide (n ≤ m)
def vOk (v : GVal) : Bool := if v.kind = 0 ∨ v.kind = 3 then decide (v.n = 0) else if v.kind = 1 then rng v.n (-1048576) 1048576 else if v.kind = 2 then rng v.n (-1000) 1000 else false
def zOk (v : GVal) : Bool := vOk v && decide (0 ≤ v.n)
def sdOk (s : GSides) : Bool := vOk s.left && (vOk s.top && (vOk s.right && (vOk s.bottom && (vOk s.start && vOk s.fin))))
def edOk (e : GEdges) : Bool := rng e.left 0 1048576 && (rng e.top 0 1048576 && (rng e.right 0 1048576 && rng e.bottom 0 1048576))
def stV (s : GStyle) : List GVal := [s.basis, s.width, s.height, s.minWidth, s.minHeight, s.maxWidth, s.maxHeight]
def stN (s : GStyle) : Bool := rng s.dir 1 4 && (rng s.wrap 1 3 && (rng s.justify 1 6 && (rng s.items 1 5 && (rng s.self 0 5 && (rng s.content 1 6 && (rng s.order (-1000) 1000 && (rng s.grow 0 1000 && (rng s.shrink 0 1000 && (rng s.ratio 0 6400 && (rng s.rowGap 0 1048576 && rng s.colGap 0 1048576))))))))))
def stOk (s : GStyle) : Bool := stN s && ((stV s).all zOk && (sdOk s.margin && (sdOk s.inset && (edOk s.pad && edOk s.border))))
theorem spec_l01In_r (n l m : Int) : PCon Tryz.prog 97 [ai n, ai l, ai m] fun res rows => res = .t (abl (rng n l m)) ∧ rows = [] := spec_l01In_a n l m
theorem impl_in_r (n l m : Int) : PCon Tryz.prog 102 [ai n, ai l, ai m] fun res rows => res = .t (abl (rng n l m)) ∧ rows = [] := impl_in_a n l m
theorem spec_ValueOk_a (k n : Int) : PCon Tryz.prog 134 [.agg [.imm (.int .i64 k), .imm (.int .i64 n)]] fun res rows => res = .t (abl (vOk ⟨k, n⟩)) ∧ rows = [] := by
  refine pcon_run (c := body Tryz.f134) fits Tryz.func134 (by kernel_rfl) (by kernel_rfl) (by rfl) (by kernel_rfl) fun g F hg hF => ?_
  cbv
  repeat' (first | (refine callB hg (spec_l01In_r _ _ _) rfl (fun R0 hR0 => ?_); cases R0 <;> cbv) | (refine callBP hg (spec_l01In_r _ _ _) rfl (fun R0 hR0 => ?_); cases R0 <;> cbv) | (split <;> rename_i hh <;> (try rw [hh]) <;> (try simp only [goLss hg, goLeq hg, goGtr hg, goGeq hg, goEql hg, goNeq hg, goEqlB hg, goNeqB hg, goAdd hg, goSub hg, goMul hg, goQuo hg, goRem hg, goNg hg, goMn hg, goMx hg, beq_iff_eq, bne_iff_ne, beq_eq_false_iff_ne, bne_eq_false_iff_eq, decide_eq_true_eq, decide_eq_false_iff_not, ne_eq, Decidable.not_not] at hh) <;> cbv))
  all_goals exact fin0b hF (by (try simp only [goEql hg]); simp only [vOk]; grind)
theorem impl_ValueOk_a (k n : Int) : PCon Tryz.prog 138 [.agg [.imm (.int .i64 k), .imm (.int .i64 n)]] fun res rows => res = .t (abl (vOk ⟨k, n⟩)) ∧ rows = [] := by
  refine pcon_run (c := body Tryz.f138) fits Tryz.func138 (by kernel_rfl) (by kernel_rfl) (by rfl) (by kernel_rfl) fun g F hg hF => ?_
  cbv
  repeat' (first | (refine callB hg (impl_in_r _ _ _) rfl (fun R0 hR0 => ?_); cases R0 <;> cbv) | (refine callBP hg (impl_in_r _ _ _) rfl (fun R0 hR0 => ?_); cases R0 <;> cbv) | (split <;> rename_i hh <;> (try rw [hh]) <;> (try simp only [goLss hg, goLeq hg, goGtr hg, goGeq hg, goEql hg, goNeq hg, goEqlB hg, goNeqB hg, goAdd hg, goSub hg, goMul hg, goQuo hg, goRem hg, goNg hg, goMn hg, goMx hg, beq_iff_eq, bne_iff_ne, beq_eq_false_iff_ne, bne_eq_false_iff_eq, decide_eq_true_eq, decide_eq_false_iff_not, ne_eq, Decidable.not_not] at hh) <;> cbv))
  all_goals exact fin0b hF (by (try simp only [goEql hg]); simp only [vOk]; grind)
theorem spec_l06Size_a (k n : Int) : PCon Tryz.prog 116 [.agg [.imm (.int .i64 k), .imm (.int .i64 n)]] fun res rows => res = .t (abl (zOk ⟨k, n⟩)) ∧ rows = [] := by
  refine pcon_run (c := body Tryz.f116) fits Tryz.func116 (by kernel_rfl) (by kernel_rfl) (by rfl) (by kernel_rfl) fun g F hg hF => ?_
  cbv
  repeat' (first | (refine callB hg (spec_ValueOk_a _ _) rfl (fun R0 hR0 => ?_); cases R0 <;> cbv) | (refine callBP hg (spec_ValueOk_a _ _) rfl (fun R0 hR0 => ?_); cases R0 <;> cbv) | (split <;> rename_i hh <;> (try rw [hh]) <;> (try simp only [goLss hg, goLeq hg, goGtr hg, goGeq hg, goEql hg, goNeq hg, goEqlB hg, goNeqB hg, goAdd hg, goSub hg, goMul hg, goQuo hg, goRem hg, goNg hg, goMn hg, goMx hg, beq_iff_eq, bne_iff_ne, beq_eq_false_iff_ne, bne_eq_false_iff_eq, decide_eq_true_eq, decide_eq_false_iff_not, ne_eq, Decidable.not_not] at hh) <;> cbv))
  all_goals exact fin0b hF (by (try simp only [goGeq hg]); simp only [zOk]; grind)
theorem impl_sizeOk_a (k n : Int) : PCon Tryz.prog 123 [.agg [.imm (.int .i64 k), .imm (.int .i64 n)]] fun res rows => res = .t (abl (zOk ⟨k, n⟩)) ∧ rows = [] := by
  refine pcon_run (c := body Tryz.f123) fits Tryz.func123 (by kernel_rfl) (by kernel_rfl) (by rfl) (by kernel_rfl) fun g F hg hF => ?_
  cbv
  repeat' (first | (refine callB hg (impl_ValueOk_a _ _) rfl (fun R0 hR0 => ?_); cases R0 <;> cbv) | (refine callBP hg (impl_ValueOk_a _ _) rfl (fun R0 hR0 => ?_); cases R0 <;> cbv) | (split <;> rename_i hh <;> (try rw [hh]) <;> (try simp only [goLss hg, goLeq hg, goGtr hg, goGeq hg, goEql hg, goNeq hg, goEqlB hg, goNeqB hg, goAdd hg, goSub hg, goMul hg, goQuo hg, goRem hg, goNg hg, goMn hg, goMx hg, beq_iff_eq, bne_iff_ne, beq_eq_false_iff_ne, bne_eq_false_iff_eq, decide_eq_true_eq, decide_eq_false_iff_not, ne_eq, Decidable.not_not] at hh) <;> cbv))
  all_goals exact fin0b hF (by (try simp only [goGeq hg]); simp only [zOk]; grind)
theorem spec_SidesOk_a (s : GSides) : PCon Tryz.prog 117 [.agg (lc (GSides.c s))] fun res rows => res = .t (abl (sdOk s)) ∧ rows = [] := by
  obtain ⟨⟨a0, a1⟩, ⟨a2, a3⟩, ⟨a4, a5⟩, ⟨a6, a7⟩, ⟨a8, a9⟩, ⟨a10, a11⟩⟩ := s
  refine pcon_run (c := body Tryz.f117) fits Tryz.func117 (by kernel_rfl) (by kernel_rfl) (by rfl) (by kernel_rfl) fun g F hg hF => ?_
  cbv
  repeat' (first | (refine callB hg (spec_ValueOk_a _ _) rfl (fun R0 hR0 => ?_); cases R0 <;> cbv) | (refine callBP hg (spec_ValueOk_a _ _) rfl (fun R0 hR0 => ?_); cases R0 <;> cbv) | (split <;> rename_i hh <;> (try rw [hh]) <;> (try simp only [goLss hg, goLeq hg, goGtr hg, goGeq hg, goEql hg, goNeq hg, goEqlB hg, goNeqB hg, goAdd hg, goSub hg, goMul hg, goQuo hg, goRem hg, goNg hg, goMn hg, goMx hg, beq_iff_eq, bne_iff_ne, beq_eq_false_iff_ne, bne_eq_false_iff_eq, decide_eq_true_eq, decide_eq_false_iff_not, ne_eq, Decidable.not_not] at hh) <;> cbv))
  all_goals exact fin0b hF (by simp only [sdOk]; simp_all)
theorem impl_SidesOk_a (s : GSides) : PCon Tryz.prog 124 [.agg (lc (GSides.c s))] fun res rows => res = .t (abl (sdOk s)) ∧ rows = [] := by
  obtain ⟨⟨a0, a1⟩, ⟨a2, a3⟩, ⟨a4, a5⟩, ⟨a6, a7⟩, ⟨a8, a9⟩, ⟨a10, a11⟩⟩ := s
  refine pcon_run (c := body Tryz.f124) fits Tryz.func124 (by kernel_rfl) (by kernel_rfl) (by rfl) (by kernel_rfl) fun g F hg hF => ?_
  cbv
  repeat' (first | (refine callB hg (impl_ValueOk_a _ _) rfl (fun R0 hR0 => ?_); cases R0 <;> cbv) | (refine callBP hg (impl_ValueOk_a _ _) rfl (fun R0 hR0 => ?_); cases R0 <;> cbv) | (split <;> rename_i hh <;> (try rw [hh]) <;> (try simp only [goLss hg, goLeq hg, goGtr hg, goGeq hg, goEql hg, goNeq hg, goEqlB hg, goNeqB hg, goAdd hg, goSub hg, goMul hg, goQuo hg, goRem hg, goNg hg, goMn hg, goMx hg, beq_iff_eq, bne_iff_ne, beq_eq_false_iff_ne, bne_eq_false_iff_eq, decide_eq_true_eq, decide_eq_false_iff_not, ne_eq, Decidable.not_not] at hh) <;> cbv))
  all_goals exact fin0b hF (by simp only [sdOk]; simp_all)
theorem spec_EdgesOk_a (s : GEdges) : PCon Tryz.prog 118 [.agg (lc (GEdges.c s))] fun res rows => res = .t (abl (edOk s)) ∧ rows = [] := by
  obtain ⟨a0, a1, a2, a3⟩ := s
  refine pcon_run (c := body Tryz.f118) fits Tryz.func118 (by kernel_rfl) (by kernel_rfl) (by rfl) (by kernel_rfl) fun g F hg hF => ?_
  cbv
  repeat' (first | (refine callB hg (spec_l01In_r _ _ _) rfl (fun R0 hR0 => ?_); cases R0 <;> cbv) | (refine callBP hg (spec_l01In_r _ _ _) rfl (fun R0 hR0 => ?_); cases R0 <;> cbv) | (split <;> rename_i hh <;> (try rw [hh]) <;> (try simp only [goLss hg, goLeq hg, goGtr hg, goGeq hg, goEql hg, goNeq hg, goEqlB hg, goNeqB hg, goAdd hg, goSub hg, goMul hg, goQuo hg, goRem hg, goNg hg, goMn hg, goMx hg, beq_iff_eq, bne_iff_ne, beq_eq_false_iff_ne, bne_eq_false_iff_eq, decide_eq_true_eq, decide_eq_false_iff_not, ne_eq, Decidable.not_not] at hh) <;> cbv))
  all_goals exact fin0b hF (by simp only [edOk]; simp_all)
theorem impl_EdgesOk_a (s : GEdges) : PCon Tryz.prog 125 [.agg (lc (GEdges.c s))] fun res rows => res = .t (abl (edOk s)) ∧ rows = [] := by
  obtain ⟨a0, a1, a2, a3⟩ := s
  refine pcon_run (c := body Tryz.f125) fits Tryz.func125 (by kernel_rfl) (by kernel_rfl) (by rfl) (by kernel_rfl) fun g F hg hF => ?_
  cbv
  repeat' (first | (refine callB hg (impl_in_r _ _ _) rfl (fun R0 hR0 => ?_); cases R0 <;> cbv) | (refine callBP hg (impl_in_r _ _ _) rfl (fun R0 hR0 => ?_); cases R0 <;> cbv) | (split <;> rename_i hh <;> (try rw [hh]) <;> (try simp only [goLss hg, goLeq hg, goGtr hg, goGeq hg, goEql hg, goNeq hg, goEqlB hg, goNeqB hg, goAdd hg, goSub hg, goMul hg, goQuo hg, goRem hg, goNg hg, goMn hg, goMx hg, beq_iff_eq, bne_iff_ne, beq_eq_false_iff_ne, bne_eq_false_iff_eq, decide_eq_true_eq, decide_eq_false_iff_not, ne_eq, Decidable.not_not] at hh) <;> cbv))
  all_goals exact fin0b hF (by simp only [edOk]; simp_all)
set_option maxHeartbeats 8000000 in
theorem spec_StyleOk_a (s : GStyle) : PCon Tryz.prog 79 [.agg (lc (GStyle.c s))] fun res rows => res = .t (abl (stOk s)) ∧ rows = [] := by
  obtain ⟨a0, a1, a2, a3, a4, a5, a6, a7, a8, a9, a10, ⟨a11, a12⟩, ⟨a13, a14⟩, ⟨a15, a16⟩, ⟨a17, a18⟩, ⟨a19, a20⟩, ⟨a21, a22⟩, ⟨a23, a24⟩, a25, ⟨⟨a26, a27⟩, ⟨a28, a29⟩, ⟨a30, a31⟩, ⟨a32, a33⟩, ⟨a34, a35⟩, ⟨a36, a37⟩⟩, ⟨⟨a38, a39⟩, ⟨a40, a41⟩, ⟨a42, a43⟩, ⟨a44, a45⟩, ⟨a46, a47⟩, ⟨a48, a49⟩⟩, ⟨a50, a51, a52, a53⟩, ⟨a54, a55, a56, a57⟩, a58, a59⟩ := s
  refine pcon_run (c := body Tryz.f79) fits Tryz.func79 (by kernel_rfl) (by kernel_rfl) (by rfl) (by kernel_rfl) fun g F hg hF => ?_
  cbv
  repeat' (first | (refine callB hg (spec_l01In_r _ _ _) rfl (fun R0 hR0 => ?_); cases R0 <;> cbv) | (refine callBP hg (spec_l01In_r _ _ _) rfl (fun R0 hR0 => ?_); cases R0 <;> cbv) | (refine callB hg (spec_l06Size_a _ _) rfl (fun R0 hR0 => ?_); cases R0 <;> cbv) | (refine callBP hg (spec_l06Size_a _ _) rfl (fun R0 hR0 => ?_); cases R0 <;> cbv) | (refine callB hg (spec_SidesOk_a (⟨⟨a26, a27⟩, ⟨a28, a29⟩, ⟨a30, a31⟩, ⟨a32, a33⟩, ⟨a34, a35⟩, ⟨a36, a37⟩⟩ : GSides)) rfl (fun R0 hR0 => ?_); cases R0 <;> cbv) | (refine callBP hg (spec_SidesOk_a (⟨⟨a26, a27⟩, ⟨a28, a29⟩, ⟨a30, a31⟩, ⟨a32, a33⟩, ⟨a34, a35⟩, ⟨a36, a37⟩⟩ : GSides)) rfl (fun R0 hR0 => ?_); cases R0 <;> cbv) | (refine callB hg (spec_SidesOk_a (⟨⟨a38, a39⟩, ⟨a40, a41⟩, ⟨a42, a43⟩, ⟨a44, a45⟩, ⟨a46, a47⟩, ⟨a48, a49⟩⟩ : GSides)) rfl (fun R0 hR0 => ?_); cases R0 <;> cbv) | (refine callBP hg (spec_SidesOk_a (⟨⟨a38, a39⟩, ⟨a40, a41⟩, ⟨a42, a43⟩, ⟨a44, a45⟩, ⟨a46, a47⟩, ⟨a48, a49⟩⟩ : GSides)) rfl (fun R0 hR0 => ?_); cases R0 <;> cbv) | (refine callB hg (spec_EdgesOk_a (⟨a50, a51, a52, a53⟩ : GEdges)) rfl (fun R0 hR0 => ?_); cases R0 <;> cbv) | (refine callBP hg (spec_EdgesOk_a (⟨a50, a51, a52, a53⟩ : GEdges)) rfl (fun R0 hR0 => ?_); cases R0 <;> cbv) | (refine callB hg (spec_EdgesOk_a (⟨a54, a55, a56, a57⟩ : GEdges)) rfl (fun R0 hR0 => ?_); cases R0 <;> cbv) | (refine callBP hg (spec_EdgesOk_a (⟨a54, a55, a56, a57⟩ : GEdges)) rfl (fun R0 hR0 => ?_); cases R0 <;> cbv) | (split <;> rename_i hh <;> (try rw [hh]) <;> (try simp only [goLss hg, goLeq hg, goGtr hg, goGeq hg, goEql hg, goNeq hg, goEqlB hg, goNeqB hg, goAdd hg, goSub hg, goMul hg, goQuo hg, goRem hg, goNg hg, goMn hg, goMx hg, beq_iff_eq, bne_iff_ne, beq_eq_false_iff_ne, bne_eq_false_iff_eq, decide_eq_true_eq, decide_eq_false_iff_not, ne_eq, Decidable.not_not] at hh) <;> cbv))
  all_goals exact fin0b hF (by clear hF; simp only [stOk, stN, stV, List.all_cons, List.all_nil]; simp_all)
theorem lt_via7 {a b z : Int} (h : a = b) (hz : z < a) : z < b := h ▸ hz
theorem all_to {xs : List GVal} {z M : Int} (hM : M = (xs.length : Int)) (hz : M ≤ z) (h : ∀ (i : Nat) (v : GVal), i < z.toNat → xs[i]? = some v → zOk v = true) : xs.all zOk = true := by
  rw [List.all_eq_true]
  exact all_upto hM hz h
theorem all_no {xs : List GVal} {i : Nat} {v : GVal} (h : xs[i]? = some v) (hv : zOk v = false) : xs.all zOk = false := by
  rw [List.all_eq_false]
  exact ⟨v, List.mem_of_getElem? h, by rw [hv]; decide⟩
set_option maxHeartbeats 8000000 in
theorem impl_StyleOk_a (s : GStyle) : PCon Tryz.prog 86 [.agg (lc (GStyle.c s))] fun res rows => res = .t (abl (stOk s)) ∧ rows = [] := by
  obtain ⟨W, hW⟩ : ∃ W, W = stV s := ⟨_, rfl⟩
  have hWl : (7 : Int) = (W.length : Int) := by rw [hW]; rfl
  obtain ⟨V, hV⟩ : ∃ V, V = vw GVal.c W := ⟨_, rfl⟩
  have kV : ∀ y ∈ V, y.length = 2 := by rw [hV]; exact vw_k (c := GVal.c) (k := 2) fun _ => rfl
  have pV : plainE V = true := by rw [hV]; exact vw_plain _ _
  have hVl : lenI V = 7 := by rw [lenI_eq, hV, vw_length, ← hWl]
  obtain ⟨a0, a1, a2, a3, a4, a5, a6, a7, a8, a9, a10, ⟨a11, a12⟩, ⟨a13, a14⟩, ⟨a15, a16⟩, ⟨a17, a18⟩, ⟨a19, a20⟩, ⟨a21, a22⟩, ⟨a23, a24⟩, a25, ⟨⟨a26, a27⟩, ⟨a28, a29⟩, ⟨a30, a31⟩, ⟨a32, a33⟩, ⟨a34, a35⟩, ⟨a36, a37⟩⟩, ⟨⟨a38, a39⟩, ⟨a40, a41⟩, ⟨a42, a43⟩, ⟨a44, a45⟩, ⟨a46, a47⟩, ⟨a48, a49⟩⟩, ⟨a50, a51, a52, a53⟩, ⟨a54, a55, a56, a57⟩, a58, a59⟩ := s
  have hVL : V = [[.imm (.int .i64 a11), .imm (.int .i64 a12)], [.imm (.int .i64 a13), .imm (.int .i64 a14)], [.imm (.int .i64 a15), .imm (.int .i64 a16)], [.imm (.int .i64 a17), .imm (.int .i64 a18)], [.imm (.int .i64 a19), .imm (.int .i64 a20)], [.imm (.int .i64 a21), .imm (.int .i64 a22)], [.imm (.int .i64 a23), .imm (.int .i64 a24)]] := by rw [hV, hW]; rfl
  refine pcon_run (c := body Tryz.f86) fits Tryz.func86 (by kernel_rfl) (by kernel_rfl) (by rfl) (by kernel_rfl) fun g F hg hF => ?_
  cbv
  repeat' (first | (refine callB hg (impl_in_r _ _ _) rfl (fun R0 hR0 => ?_); cases R0 <;> cbv) | (refine callBP hg (impl_in_r _ _ _) rfl (fun R0 hR0 => ?_); cases R0 <;> cbv))
  all_goals (try exact fin0b hF (by clear hF; simp only [stOk, stN]; simp_all))
  have hN : stN ⟨a0, a1, a2, a3, a4, a5, a6, a7, a8, a9, a10, ⟨a11, a12⟩, ⟨a13, a14⟩, ⟨a15, a16⟩, ⟨a17, a18⟩, ⟨a19, a20⟩, ⟨a21, a22⟩, ⟨a23, a24⟩, a25, ⟨⟨a26, a27⟩, ⟨a28, a29⟩, ⟨a30, a31⟩, ⟨a32, a33⟩, ⟨a34, a35⟩, ⟨a36, a37⟩⟩, ⟨⟨a38, a39⟩, ⟨a40, a41⟩, ⟨a42, a43⟩, ⟨a44, a45⟩, ⟨a46, a47⟩, ⟨a48, a49⟩⟩, ⟨a50, a51, a52, a53⟩, ⟨a54, a55, a56, a57⟩, a58, a59⟩ = true := by clear hF; simp only [stN]; simp_all
  have hOk : stOk ⟨a0, a1, a2, a3, a4, a5, a6, a7, a8, a9, a10, ⟨a11, a12⟩, ⟨a13, a14⟩, ⟨a15, a16⟩, ⟨a17, a18⟩, ⟨a19, a20⟩, ⟨a21, a22⟩, ⟨a23, a24⟩, a25, ⟨⟨a26, a27⟩, ⟨a28, a29⟩, ⟨a30, a31⟩, ⟨a32, a33⟩, ⟨a34, a35⟩, ⟨a36, a37⟩⟩, ⟨⟨a38, a39⟩, ⟨a40, a41⟩, ⟨a42, a43⟩, ⟨a44, a45⟩, ⟨a46, a47⟩, ⟨a48, a49⟩⟩, ⟨a50, a51, a52, a53⟩, ⟨a54, a55, a56, a57⟩, a58, a59⟩ = (W.all zOk && (sdOk ⟨⟨a26, a27⟩, ⟨a28, a29⟩, ⟨a30, a31⟩, ⟨a32, a33⟩, ⟨a34, a35⟩, ⟨a36, a37⟩⟩ && (sdOk ⟨⟨a38, a39⟩, ⟨a40, a41⟩, ⟨a42, a43⟩, ⟨a44, a45⟩, ⟨a46, a47⟩, ⟨a48, a49⟩⟩ && (edOk ⟨a50, a51, a52, a53⟩ && edOk ⟨a54, a55, a56, a57⟩)))) := by rw [stOk, hN, hW]; rfl
  rw [hOk] at hF
  clear hN hOk
  rw [← hVL]
  refine loop_run hg fits (by kernel_rfl) (fun z : Int => [(1, .t (.c (.ptr 0 0 0))), (87, .t (.c (.own 1))), (88, .t (ai (g .ln V))), (89, .t (ai z))]) (fun _ => [.bx 59 60 (lc (GStyle.c ⟨a0, a1, a2, a3, a4, a5, a6, a7, a8, a9, a10, ⟨a11, a12⟩, ⟨a13, a14⟩, ⟨a15, a16⟩, ⟨a17, a18⟩, ⟨a19, a20⟩, ⟨a21, a22⟩, ⟨a23, a24⟩, a25, ⟨⟨a26, a27⟩, ⟨a28, a29⟩, ⟨a30, a31⟩, ⟨a32, a33⟩, ⟨a34, a35⟩, ⟨a36, a37⟩⟩, ⟨⟨a38, a39⟩, ⟨a40, a41⟩, ⟨a42, a43⟩, ⟨a44, a45⟩, ⟨a46, a47⟩, ⟨a48, a49⟩⟩, ⟨a50, a51, a52, a53⟩, ⟨a54, a55, a56, a57⟩, a58, a59⟩)), .rw ⟨54, 2, V⟩]) (fun z => 0 ≤ z ∧ z ≤ 7 ∧ ∀ (i : Nat) (v : GVal), i < z.toNat → W[i]? = some v → zOk v = true) (fun z => (7 : Int).toNat - z.toNat)
    0 [some 0, some 1] ⟨Int.le_refl 0, by omega, fun i v hi => by simp at hi⟩ (wkS [0, 1] (by decide) ⟨⟨_, rfl, rfl, rfl⟩, ⟨_, rfl, rfl, pV⟩, trivial⟩ ⟨rfl, rfl, rfl, rfl, trivial⟩) (fun z B hs hB => ?_)
  obtain ⟨h0, h1, h2⟩ := hs
  cbv
  cases hc : g .q .lss z (g .ln V)
  · rw [goLss hg, goLn hg, hVl, decide_eq_false_iff_not] at hc
    have hall := all_to hWl (by omega) h2
    cbv
    repeat' (first | (refine callB hg (impl_SidesOk_a (⟨⟨a26, a27⟩, ⟨a28, a29⟩, ⟨a30, a31⟩, ⟨a32, a33⟩, ⟨a34, a35⟩, ⟨a36, a37⟩⟩ : GSides)) rfl (fun R0 hR0 => ?_); cases R0 <;> cbv) | (refine callBP hg (impl_SidesOk_a (⟨⟨a26, a27⟩, ⟨a28, a29⟩, ⟨a30, a31⟩, ⟨a32, a33⟩, ⟨a34, a35⟩, ⟨a36, a37⟩⟩ : GSides)) rfl (fun R0 hR0 => ?_); cases R0 <;> cbv) | (refine callB hg (impl_SidesOk_a (⟨⟨a38, a39⟩, ⟨a40, a41⟩, ⟨a42, a43⟩, ⟨a44, a45⟩, ⟨a46, a47⟩, ⟨a48, a49⟩⟩ : GSides)) rfl (fun R0 hR0 => ?_); cases R0 <;> cbv) | (refine callBP hg (impl_SidesOk_a (⟨⟨a38, a39⟩, ⟨a40, a41⟩, ⟨a42, a43⟩, ⟨a44, a45⟩, ⟨a46, a47⟩, ⟨a48, a49⟩⟩ : GSides)) rfl (fun R0 hR0 => ?_); cases R0 <;> cbv) | (refine callB hg (impl_EdgesOk_a (⟨a50, a51, a52, a53⟩ : GEdges)) rfl (fun R0 hR0 => ?_); cases R0 <;> cbv) | (refine callBP hg (impl_EdgesOk_a (⟨a50, a51, a52, a53⟩ : GEdges)) rfl (fun R0 hR0 => ?_); cases R0 <;> cbv) | (refine callB hg (impl_EdgesOk_a (⟨a54, a55, a56, a57⟩ : GEdges)) rfl (fun R0 hR0 => ?_); cases R0 <;> cbv) | (refine callBP hg (impl_EdgesOk_a (⟨a54, a55, a56, a57⟩ : GEdges)) rfl (fun R0 hR0 => ?_); cases R0 <;> cbv))
    all_goals exact fin0b hF (by clear hF; simp_all)
  · rw [goLss hg, goLn hg, hVl, decide_eq_true_eq] at hc
    cbv
    obtain ⟨x, hx⟩ := at_z (xs := W) h0 (lt_via7 hWl hc)
    have hyy : V[z.toNat]? = some (lc (GVal.c x)) := by rw [hV]; exact vw_at hx
    obtain ⟨j, hj⟩ : ∃ j, j = z.toNat := ⟨_, rfl⟩
    obtain ⟨x0, x1⟩ := x
    refine goYk hg h0 hj (lt_lenJ h0 (by rw [hVl]; exact hc) hj) ?_
    cbv
    rw [← hj] at hyy
    refine ⟨_, hyy, ?_⟩
    cbv
    refine callB hg (impl_sizeOk_a x0 x1) rfl (fun R hR => ?_)
    cases R
    · cbv
      exact fin0b hF (by rw [all_no hx hR.symm]; rfl)
    · cbv
      have e1 : g .w .add .i64 z 1 = z + 1 := by rw [goAdd hg, wrap_small _ (by omega)]
      rw [e1]
      refine back hB (z + 1) [some 0, some 1] (wkS [0, 1] (by decide) ⟨⟨_, rfl, rfl, rfl⟩, ⟨_, rfl, rfl, pV⟩, trivial⟩ ⟨rfl, rfl, rfl, rfl, trivial⟩) ⟨by omega, by omega, fun i v hi hv => ?_⟩ (by omega)
      by_cases hi2 : i < z.toNat
      · exact h2 i v hi2 hv
      · rw [show i = z.toNat by omega, hx] at hv
        cases hv
        exact hR.symm
def ruOk (r : GRule) : Bool := rng r.room (-1) 1048576 && (rng r.wide 0 1048576 && rng r.high 0 1048576)
def taOk (rs : List GRule) : Bool := rng (rs.length : Int) 1 6 && rs.all ruOk
theorem ru_to {xs : List GRule} {z M : Int} (hM : M = (xs.length : Int)) (hz : M ≤ z) (h : ∀ (i : Nat) (v : GRule), i < z.toNat → xs[i]? = some v → ruOk v = true) : xs.all ruOk = true := by
  rw [List.all_eq_true]
  exact all_upto hM hz h
theorem ru_no {xs : List GRule} {i : Nat} {v : GRule} (h : xs[i]? = some v) (hv : ruOk v = false) : xs.all ruOk = false := by
  rw [List.all_eq_false]
  exact ⟨v, List.mem_of_getElem? h, by rw [hv]; decide⟩
def isN (ns : List NNode) (n : Int) : Bool := rng n 1 (ns.length : Int)
def upN (ns : List NNode) (n : Int) : Int := match ns[(n - 1).toNat]? with | some x => x.up | none => 0
def depF (ns : List NNode) : Nat → Int → Int → Int
  | 0, k, n => if n = 0 then k else 0
  | f + 1, k, n => if n = 0 then k else if isN ns n = true then depF ns f (k + 1) (upN ns n) else 0
def depN (ns : List NNode) (n : Int) : Int := depF ns ns.length 0 n
theorem dep_zero (ns : List NNode) (f : Nat) (k : Int) : depF ns f k 0 = k := by cases f <;> simp [depF]
theorem dep_out (ns : List NNode) (f : Nat) (k n : Int) (h0 : n ≠ 0) (h : isN ns n = false) : depF ns f k n = 0 := by cases f <;> simp [depF, h0, h]
theorem dep_step (ns : List NNode) {f : Nat} {k n : Int} (h0 : n ≠ 0) (h : isN ns n = true) : depF ns (f + 1) k n = depF ns f (k + 1) (upN ns n) := by simp [depF, h0, h]
theorem dep_end (ns : List NNode) {k n : Int} (h0 : n ≠ 0) : depF ns 0 k n = 0 := by simp [depF, h0]
theorem isN_at {ns : List NNode} {n : Int} (h : isN ns n = true) : 1 ≤ n ∧ n ≤ (ns.length : Int) ∧ ∃ x, ns[(n - 1).toNat]? = some x := by
  simp only [isN, rng, Bool.and_eq_true, decide_eq_true_eq] at h
  exact ⟨h.1, h.2, ns[(n - 1).toNat]'(by omega), List.getElem?_eq_getElem _⟩
theorem upN_at {ns : List NNode} {n : Int} {x : NNode} (h : ns[(n - 1).toNat]? = some x) : upN ns n = x.up := by unfold upN; rw [h]
theorem dep_fuel {M d : Int} {L : Nat} (hM : M = (L : Int)) (h0 : 0 ≤ d) (h1 : d < M) : L - d.toNat = (L - (d + 1).toNat) + 1 := by omega
theorem dep_fuel0 {M d : Int} {L : Nat} (hM : M = (L : Int)) (h : d = M) : L - d.toNat = 0 := by omega
def cnt (xs : List Int) (n : Int) : Int := (xs.map fun k => if k = n then 1 else 0).sum
theorem spec_l10Is_a (V : List (List AC)) (n : Int) : PCon Tryz.prog 54 [.agg [.view V], ai n] fun res rows => res = .t (abl (rng n 1 (lenI V))) ∧ rows = [] := by
  refine pcon_run (c := body Tryz.f54) fits Tryz.func54 (by kernel_rfl) (by kernel_rfl) (by rfl) (by kernel_rfl) fun g F hg hF => ?_
  cbv
  repeat' (first | (refine callB hg (spec_l01In_r _ _ _) rfl (fun R0 hR0 => ?_); cases R0 <;> cbv) | (refine callBP hg (spec_l01In_r _ _ _) rfl (fun R0 hR0 => ?_); cases R0 <;> cbv))
  all_goals exact fin0b hF (by rw [hR0, goLn hg])
theorem impl_isNode_a (V : List (List AC)) (n : Int) : PCon Tryz.prog 58 [.agg [.view V], ai n] fun res rows => res = .t (abl (rng n 1 (lenI V))) ∧ rows = [] := by
  refine pcon_run (c := body Tryz.f58) fits Tryz.func58 (by kernel_rfl) (by kernel_rfl) (by rfl) (by kernel_rfl) fun g F hg hF => ?_
  cbv
  repeat' (first | (refine callB hg (impl_in_r _ _ _) rfl (fun R0 hR0 => ?_); cases R0 <;> cbv) | (refine callBP hg (impl_in_r _ _ _) rfl (fun R0 hR0 => ?_); cases R0 <;> cbv))
  all_goals exact fin0b hF (by rw [hR0, goLn hg])
set_option maxHeartbeats 8000000 in
theorem spec_l10Node_a (V : List (List AC)) (n : Int) (h1 : 1 ≤ n) (h2 : n ≤ 1048576) {a0 : Int} {Va1 : List (List AC)} {a2 : Int} {a3 : Int} {a4 : Int} {a5 : Int} {a6 : Int} {a7 : Int} {a8 : Bool} {a9 : Bool} {a10 : Int} {a11 : Int} {a12 : Int} {a13 : Int} {a14 : Int} {a15 : Int} {a16 : Int} {a17 : Int} {a18 : Int} {a19 : Int} {a20 : Int} {a21 : Int} {a22 : Int} {a23 : Int} {a24 : Int} {a25 : Int} {a26 : Int} {a27 : Int} {a28 : Int} {a29 : Int} {a30 : Int} {a31 : Int} {a32 : Int} {a33 : Int} {a34 : Int} {a35 : Int} {a36 : Int} {a37 : Int} {a38 : Int} {a39 : Int} {a40 : Int} {a41 : Int} {a42 : Int} {a43 : Int} {a44 : Int} {a45 : Int} {a46 : Int} {a47 : Int} {a48 : Int} {a49 : Int} {a50 : Int} {a51 : Int} {a52 : Int} {a53 : Int} {a54 : Int} {a55 : Int} {a56 : Int} {a57 : Int} {a58 : Int} {a59 : Int} {a60 : Int} {a61 : Int} {a62 : Bool} {Va63 : List (List AC)} (hy : V[(n - 1).toNat]? = some [.imm (.int .i64 a0), .view Va1, .imm (.int .i64 a2), .imm (.int .i64 a3), .imm (.int .i64 a4), .imm (.int .i64 a5), .imm (.int .i64 a6), .imm (.int .i64 a7), .imm (.bool a8), .imm (.bool a9), .imm (.int .i64 a10), .imm (.int .i64 a11), .imm (.int .i64 a12), .imm (.int .i64 a13), .imm (.int .i64 a14), .imm (.int .i64 a15), .imm (.int .i64 a16), .imm (.int .i64 a17), .imm (.int .i64 a18), .imm (.int .i64 a19), .imm (.int .i64 a20), .imm (.int .i64 a21), .imm (.int .i64 a22), .imm (.int .i64 a23), .imm (.int .i64 a24), .imm (.int .i64 a25), .imm (.int .i64 a26), .imm (.int .i64 a27), .imm (.int .i64 a28), .imm (.int .i64 a29), .imm (.int .i64 a30), .imm (.int .i64 a31), .imm (.int .i64 a32), .imm (.int .i64 a33), .imm (.int .i64 a34), .imm (.int .i64 a35), .imm (.int .i64 a36), .imm (.int .i64 a37), .imm (.int .i64 a38), .imm (.int .i64 a39), .imm (.int .i64 a40), .imm (.int .i64 a41), .imm (.int .i64 a42), .imm (.int .i64 a43), .imm (.int .i64 a44), .imm (.int .i64 a45), .imm (.int .i64 a46), .imm (.int .i64 a47), .imm (.int .i64 a48), .imm (.int .i64 a49), .imm (.int .i64 a50), .imm (.int .i64 a51), .imm (.int .i64 a52), .imm (.int .i64 a53), .imm (.int .i64 a54), .imm (.int .i64 a55), .imm (.int .i64 a56), .imm (.int .i64 a57), .imm (.int .i64 a58), .imm (.int .i64 a59), .imm (.int .i64 a60), .imm (.int .i64 a61), .imm (.bool a62), .view Va63]) : PCon Tryz.prog 55 [.agg [.view V], ai n] fun res rows => res = .t (.agg [.imm (.int .i64 a0), .view Va1, .imm (.int .i64 a2), .imm (.int .i64 a3), .imm (.int .i64 a4), .imm (.int .i64 a5), .imm (.int .i64 a6), .imm (.int .i64 a7), .imm (.bool a8), .imm (.bool a9), .imm (.int .i64 a10), .imm (.int .i64 a11), .imm (.int .i64 a12), .imm (.int .i64 a13), .imm (.int .i64 a14), .imm (.int .i64 a15), .imm (.int .i64 a16), .imm (.int .i64 a17), .imm (.int .i64 a18), .imm (.int .i64 a19), .imm (.int .i64 a20), .imm (.int .i64 a21), .imm (.int .i64 a22), .imm (.int .i64 a23), .imm (.int .i64 a24), .imm (.int .i64 a25), .imm (.int .i64 a26), .imm (.int .i64 a27), .imm (.int .i64 a28), .imm (.int .i64 a29), .imm (.int .i64 a30), .imm (.int .i64 a31), .imm (.int .i64 a32), .imm (.int .i64 a33), .imm (.int .i64 a34), .imm (.int .i64 a35), .imm (.int .i64 a36), .imm (.int .i64 a37), .imm (.int .i64 a38), .imm (.int .i64 a39), .imm (.int .i64 a40), .imm (.int .i64 a41), .imm (.int .i64 a42), .imm (.int .i64 a43), .imm (.int .i64 a44), .imm (.int .i64 a45), .imm (.int .i64 a46), .imm (.int .i64 a47), .imm (.int .i64 a48), .imm (.int .i64 a49), .imm (.int .i64 a50), .imm (.int .i64 a51), .imm (.int .i64 a52), .imm (.int .i64 a53), .imm (.int .i64 a54), .imm (.int .i64 a55), .imm (.int .i64 a56), .imm (.int .i64 a57), .imm (.int .i64 a58), .imm (.int .i64 a59), .imm (.int .i64 a60), .imm (.int .i64 a61), .imm (.bool a62), .view Va63]) ∧ rows = [] := by
  obtain ⟨m, hm⟩ : ∃ m, m = n - 1 := ⟨_, rfl⟩
  rw [← hm] at hy
  refine pcon_run (c := body Tryz.f55) fits Tryz.func55 (by kernel_rfl) (by kernel_rfl) (by rfl) (by kernel_rfl) fun g F hg hF => ?_
  cbv
  have e1 : g .w .sub .i64 n 1 = m := by rw [goSub hg, wrap_small _ (by omega), hm]
  rw [e1]
  refine goX hg _ (by omega) hy rfl ?_
  cbv
  exact fin0 hF rfl ⟨rfl, rfl⟩
set_option maxHeartbeats 8000000 in
theorem impl_node_a (V : List (List AC)) (n : Int) (h1 : 1 ≤ n) (h2 : n ≤ 1048576) {a0 : Int} {Va1 : List (List AC)} {a2 : Int} {a3 : Int} {a4 : Int} {a5 : Int} {a6 : Int} {a7 : Int} {a8 : Bool} {a9 : Bool} {a10 : Int} {a11 : Int} {a12 : Int} {a13 : Int} {a14 : Int} {a15 : Int} {a16 : Int} {a17 : Int} {a18 : Int} {a19 : Int} {a20 : Int} {a21 : Int} {a22 : Int} {a23 : Int} {a24 : Int} {a25 : Int} {a26 : Int} {a27 : Int} {a28 : Int} {a29 : Int} {a30 : Int} {a31 : Int} {a32 : Int} {a33 : Int} {a34 : Int} {a35 : Int} {a36 : Int} {a37 : Int} {a38 : Int} {a39 : Int} {a40 : Int} {a41 : Int} {a42 : Int} {a43 : Int} {a44 : Int} {a45 : Int} {a46 : Int} {a47 : Int} {a48 : Int} {a49 : Int} {a50 : Int} {a51 : Int} {a52 : Int} {a53 : Int} {a54 : Int} {a55 : Int} {a56 : Int} {a57 : Int} {a58 : Int} {a59 : Int} {a60 : Int} {a61 : Int} {a62 : Bool} {Va63 : List (List AC)} (hy : V[(n - 1).toNat]? = some [.imm (.int .i64 a0), .view Va1, .imm (.int .i64 a2), .imm (.int .i64 a3), .imm (.int .i64 a4), .imm (.int .i64 a5), .imm (.int .i64 a6), .imm (.int .i64 a7), .imm (.bool a8), .imm (.bool a9), .imm (.int .i64 a10), .imm (.int .i64 a11), .imm (.int .i64 a12), .imm (.int .i64 a13), .imm (.int .i64 a14), .imm (.int .i64 a15), .imm (.int .i64 a16), .imm (.int .i64 a17), .imm (.int .i64 a18), .imm (.int .i64 a19), .imm (.int .i64 a20), .imm (.int .i64 a21), .imm (.int .i64 a22), .imm (.int .i64 a23), .imm (.int .i64 a24), .imm (.int .i64 a25), .imm (.int .i64 a26), .imm (.int .i64 a27), .imm (.int .i64 a28), .imm (.int .i64 a29), .imm (.int .i64 a30), .imm (.int .i64 a31), .imm (.int .i64 a32), .imm (.int .i64 a33), .imm (.int .i64 a34), .imm (.int .i64 a35), .imm (.int .i64 a36), .imm (.int .i64 a37), .imm (.int .i64 a38), .imm (.int .i64 a39), .imm (.int .i64 a40), .imm (.int .i64 a41), .imm (.int .i64 a42), .imm (.int .i64 a43), .imm (.int .i64 a44), .imm (.int .i64 a45), .imm (.int .i64 a46), .imm (.int .i64 a47), .imm (.int .i64 a48), .imm (.int .i64 a49), .imm (.int .i64 a50), .imm (.int .i64 a51), .imm (.int .i64 a52), .imm (.int .i64 a53), .imm (.int .i64 a54), .imm (.int .i64 a55), .imm (.int .i64 a56), .imm (.int .i64 a57), .imm (.int .i64 a58), .imm (.int .i64 a59), .imm (.int .i64 a60), .imm (.int .i64 a61), .imm (.bool a62), .view Va63]) : PCon Tryz.prog 59 [.agg [.view V], ai n] fun res rows => res = .t (.agg [.imm (.int .i64 a0), .view Va1, .imm (.int .i64 a2), .imm (.int .i64 a3), .imm (.int .i64 a4), .imm (.int .i64 a5), .imm (.int .i64 a6), .imm (.int .i64 a7), .imm (.bool a8), .imm (.bool a9), .imm (.int .i64 a10), .imm (.int .i64 a11), .imm (.int .i64 a12), .imm (.int .i64 a13), .imm (.int .i64 a14), .imm (.int .i64 a15), .imm (.int .i64 a16), .imm (.int .i64 a17), .imm (.int .i64 a18), .imm (.int .i64 a19), .imm (.int .i64 a20), .imm (.int .i64 a21), .imm (.int .i64 a22), .imm (.int .i64 a23), .imm (.int .i64 a24), .imm (.int .i64 a25), .imm (.int .i64 a26), .imm (.int .i64 a27), .imm (.int .i64 a28), .imm (.int .i64 a29), .imm (.int .i64 a30), .imm (.int .i64 a31), .imm (.int .i64 a32), .imm (.int .i64 a33), .imm (.int .i64 a34), .imm (.int .i64 a35), .imm (.int .i64 a36), .imm (.int .i64 a37), .imm (.int .i64 a38), .imm (.int .i64 a39), .imm (.int .i64 a40), .imm (.int .i64 a41), .imm (.int .i64 a42), .imm (.int .i64 a43), .imm (.int .i64 a44), .imm (.int .i64 a45), .imm (.int .i64 a46), .imm (.int .i64 a47), .imm (.int .i64 a48), .imm (.int .i64 a49), .imm (.int .i64 a50), .imm (.int .i64 a51), .imm (.int .i64 a52), .imm (.int .i64 a53), .imm (.int .i64 a54), .imm (.int .i64 a55), .imm (.int .i64 a56), .imm (.int .i64 a57), .imm (.int .i64 a58), .imm (.int .i64 a59), .imm (.int .i64 a60), .imm (.int .i64 a61), .imm (.bool a62), .view Va63]) ∧ rows = [] := by
  obtain ⟨m, hm⟩ : ∃ m, m = n - 1 := ⟨_, rfl⟩
  rw [← hm] at hy
  refine pcon_run (c := body Tryz.f59) fits Tryz.func59 (by kernel_rfl) (by kernel_rfl) (by rfl) (by kernel_rfl) fun g F hg hF => ?_
  cbv
  have e1 : g .w .sub .i64 n 1 = m := by rw [goSub hg, wrap_small _ (by omega), hm]
  rw [e1]
  refine goX hg _ (by omega) hy rfl ?_
  cbv
  exact fin0 hF rfl ⟨rfl, rfl⟩
theorem spec_TableOk_a (rs : List GRule) (hl : rs.length ≤ 1048576) : PCon Tryz.prog 100 [.agg [.view (vw GRule.c rs)]] fun res rows => res = .t (abl (taOk rs)) ∧ rows = [] := by
  obtain ⟨V, hV⟩ : ∃ V, V = vw GRule.c rs := ⟨_, rfl⟩
  have hVl : V.length = rs.length := by rw [hV, vw_length]
  have iV : immE V = true := by rw [hV]; exact vw_imm _ _
  have kV : ∀ y ∈ V, y.length = 3 := by rw [hV]; exact vw_k (c := GRule.c) (k := 3) fun _ => rfl
  have dV : ∀ y ∈ V, y.all dat = true := by rw [hV]; exact vw_dat
  have hVx : lenI V = (rs.length : Int) := by rw [lenI_eq]; omega
  have hV0 : 0 ≤ lenI V := by omega
  have hV1 : lenI V ≤ 1048576 := by omega
  have hta : taOk rs = (rng (lenI V) 1 6 && rs.all ruOk) := by rw [hVx]; rfl
  rw [← hV, hta]
  refine pcon_run (c := body Tryz.f100) fits Tryz.func100 (by kernel_rfl) (by kernel_rfl) (by rfl) (by kernel_rfl) fun g F hg hF => ?_
  cbv
  refine loop_run hg fits (by kernel_rfl) (fun z : Int => [(1, .t (.c (.ptr 0 0 0))), (3, .t (ai z))]) (fun _ => [.bx 75 1 [.view V]]) (fun z => 0 ≤ z ∧ z ≤ lenI V ∧ ∀ (i : Nat) (v : GRule), i < z.toNat → rs[i]? = some v → ruOk v = true) (fun z => (lenI V).toNat - z.toNat)
    0 [some 0] ⟨Int.le_refl 0, hV0, fun i v hi => by simp at hi⟩ (wkS [0] (by decide) ⟨⟨_, rfl, rfl, rfl⟩, trivial⟩ ⟨rfl, rfl, trivial⟩) (fun z B hs hB => ?_)
  obtain ⟨h0, h1, h2⟩ := hs
  cbv
  cases hc : g .q .lss z (g .ln V)
  · rw [goLss hg, goLn hg, decide_eq_false_iff_not] at hc
    have hall := ru_to hVx (by omega) h2
    cbv
    repeat' (first | (refine callB hg (spec_l01In_r _ _ _) rfl (fun R0 hR0 => ?_); cases R0 <;> cbv) | (refine callBP hg (spec_l01In_r _ _ _) rfl (fun R0 hR0 => ?_); cases R0 <;> cbv))
    all_goals exact fin0b hF (by rw [hR0, goLn hg, hall, Bool.and_true])
  · rw [goLss hg, goLn hg, decide_eq_true_eq] at hc
    cbv
    obtain ⟨x, hx⟩ := at_z (xs := rs) h0 (lt_viaN hVx hc)
    have hyy : V[z.toNat]? = some (lc (GRule.c x)) := by rw [hV]; exact vw_at hx
    obtain ⟨x0, x1, x2⟩ := x
    refine goX hg _ h0 hyy rfl ?_
    cbv
    have hfalse : ruOk ⟨x0, x1, x2⟩ = false → (rng (lenI V) 1 6 && rs.all ruOk) = false := fun h => by rw [ru_no hx h, Bool.and_false]
    have e1 : g .w .add .i64 z 1 = z + 1 := by rw [goAdd hg, wrap_small _ (by omega)]
    repeat' (first | (refine callB hg (spec_l01In_r _ _ _) rfl (fun R0 hR0 => ?_); cases R0 <;> cbv) | (refine callBP hg (spec_l01In_r _ _ _) rfl (fun R0 hR0 => ?_); cases R0 <;> cbv))
    all_goals first
      | exact fin0b hF (hfalse (by simp only [ruOk]; clear hF; simp_all)).symm
      | skip
    have hrx : ruOk ⟨x0, x1, x2⟩ = true := by simp only [ruOk]; clear hF hB; simp_all
    rw [e1]
    refine back hB (z + 1) [some 0] (wkS [0] (by decide) ⟨⟨_, rfl, rfl, rfl⟩, trivial⟩ ⟨rfl, rfl, trivial⟩) ⟨by omega, by omega, fun i v hi hv => ?_⟩ (by omega)
    by_cases hi2 : i < z.toNat
    · exact h2 i v hi2 hv
    · rw [show i = z.toNat by omega, hx] at hv
      cases hv
      exact hrx
theorem impl_TableOk_a (rs : List GRule) (hl : rs.length ≤ 1048576) : PCon Tryz.prog 104 [.agg [.view (vw GRule.c rs)]] fun res rows => res = .t (abl (taOk rs)) ∧ rows = [] := by
  obtain ⟨V, hV⟩ : ∃ V, V = vw GRule.c rs := ⟨_, rfl⟩
  have hVl : V.length = rs.length := by rw [hV, vw_length]
  have iV : immE V = true := by rw [hV]; exact vw_imm _ _
  have kV : ∀ y ∈ V, y.length = 3 := by rw [hV]; exact vw_k (c := GRule.c) (k := 3) fun _ => rfl
  have dV : ∀ y ∈ V, y.all dat = true := by rw [hV]; exact vw_dat
  have hVx : lenI V = (rs.length : Int) := by rw [lenI_eq]; omega
  have hV0 : 0 ≤ lenI V := by omega
  have hV1 : lenI V ≤ 1048576 := by omega
  have hta : taOk rs = (rng (lenI V) 1 6 && rs.all ruOk) := by rw [hVx]; rfl
  rw [← hV, hta]
  refine pcon_run (c := body Tryz.f104) fits Tryz.func104 (by kernel_rfl) (by kernel_rfl) (by rfl) (by kernel_rfl) fun g F hg hF => ?_
  cbv
  have cr := impl_in_r (g .ln V) 1 6
  rw [goLn hg] at cr
  obtain ⟨Q, hQ⟩ : ∃ Q, Q = rng (lenI V) 1 6 := ⟨_, rfl⟩
  rw [← hQ] at cr hF
  rw [goLn hg]
  (first | refine call0 hg cr rfl rfl ?_ | refine call0P hg cr rfl rfl ?_)
  cases Q
  case false =>
    cbv
    exact fin0b hF rfl
  cbv
  refine loop_run hg fits (by kernel_rfl) (fun z : Int => [(1, .t (.c (.ptr 0 0 0))), (11, .t (.c (.view V))), (12, .t (ai (g .ln V))), (13, .t (ai z))]) (fun _ => [.bx 75 1 [.view V]]) (fun z => 0 ≤ z ∧ z ≤ lenI V ∧ ∀ (i : Nat) (v : GRule), i < z.toNat → rs[i]? = some v → ruOk v = true) (fun z => (lenI V).toNat - z.toNat)
    0 [some 0] ⟨Int.le_refl 0, hV0, fun i v hi => by simp at hi⟩ (wkS [0] (by decide) ⟨⟨_, rfl, rfl, rfl⟩, trivial⟩ ⟨rfl, rfl, rfl, rfl, trivial⟩) (fun z B hs hB => ?_)
  obtain ⟨h0, h1, h2⟩ := hs
  cbv
  cases hc : g .q .lss z (g .ln V)
  · rw [goLss hg, goLn hg, decide_eq_false_iff_not] at hc
    have hall := ru_to hVx (by omega) h2
    cbv
    exact fin0b hF (by rw [hall]; rfl)
  · rw [goLss hg, goLn hg, decide_eq_true_eq] at hc
    cbv
    obtain ⟨x, hx⟩ := at_z (xs := rs) h0 (lt_viaN hVx hc)
    have hyy : V[z.toNat]? = some (lc (GRule.c x)) := by rw [hV]; exact vw_at hx
    obtain ⟨x0, x1, x2⟩ := x
    refine goX hg _ h0 hyy rfl ?_
    cbv
    have hfalse : ruOk ⟨x0, x1, x2⟩ = false → (true && rs.all ruOk) = false := fun h => by rw [ru_no hx h, Bool.and_false]
    have e1 : g .w .add .i64 z 1 = z + 1 := by rw [goAdd hg, wrap_small _ (by omega)]
    repeat' (first | (refine callB hg (impl_in_r _ _ _) rfl (fun R0 hR0 => ?_); cases R0 <;> cbv) | (refine callBP hg (impl_in_r _ _ _) rfl (fun R0 hR0 => ?_); cases R0 <;> cbv))
    all_goals first
      | exact fin0b hF (hfalse (by simp only [ruOk]; clear hF; simp_all)).symm
      | skip
    have hrx : ruOk ⟨x0, x1, x2⟩ = true := by simp only [ruOk]; clear hF hB; simp_all
    rw [e1]
    refine back hB (z + 1) [some 0] (wkS [0] (by decide) ⟨⟨_, rfl, rfl, rfl⟩, trivial⟩ ⟨rfl, rfl, rfl, rfl, trivial⟩) ⟨by omega, by omega, fun i v hi hv => ?_⟩ (by omega)
    by_cases hi2 : i < z.toNat
    · exact h2 i v hi2 hv
    · rw [show i = z.toNat by omega, hx] at hv
      cases hv
      exact hrx
theorem spec_l10Has_a (xs : List Int) (n : Int) (hl : xs.length ≤ 1048576) : PCon Tryz.prog 99 [.c (.view (vw intC xs)), ai n] fun res rows => res = .t (ai (cnt xs n)) ∧ rows = [] := by
  obtain ⟨V, hV⟩ : ∃ V, V = vw intC xs := ⟨_, rfl⟩
  have hVl : V.length = xs.length := by rw [hV, vw_length]
  have iV : immE V = true := by rw [hV]; exact vw_imm _ _
  have kV : ∀ y ∈ V, y.length = 1 := by rw [hV]; exact vw_k (c := intC) (k := 1) fun _ => rfl
  have dV : ∀ y ∈ V, y.all dat = true := by rw [hV]; exact vw_dat
  have hVx : lenI V = (xs.length : Int) := by rw [lenI_eq]; omega
  have hV0 : 0 ≤ lenI V := by omega
  have hV1 : lenI V ≤ 1048576 := by omega
  have hall : ∀ z : Int, lenI V ≤ z → psum (fun k => if k = n then 1 else 0) xs z.toNat = cnt xs n := fun z hz => psum_all _ (by omega)
  rw [← hV]
  refine pcon_run (c := body Tryz.f99) fits Tryz.func99 (by kernel_rfl) (by kernel_rfl) (by rfl) (by kernel_rfl) fun g F hg hF => ?_
  cbv
  refine loop_run hg fits (by kernel_rfl) (fun s : Int × Int => [(0, .t (.c (.view V))), (1, .t (ai n)), (5, .t (ai s.2)), (6, .t (ai s.1))]) (fun _ => []) (fun s => 0 ≤ s.1 ∧ s.1 ≤ lenI V ∧ 0 ≤ s.2 ∧ s.2 ≤ s.1 ∧ s.2 = psum (fun k => if k = n then 1 else 0) xs s.1.toNat) (fun s => (lenI V).toNat - s.1.toNat)
    (0, 0) [] ⟨Int.le_refl 0, hV0, Int.le_refl 0, Int.le_refl 0, (psum_zero _ _).symm⟩ (wk0 ⟨rfl, rfl, rfl, rfl, trivial⟩) (fun s B hs hB => ?_)
  obtain ⟨z, d⟩ := s
  obtain ⟨h0, h1, h2, h3, h4⟩ := hs
  simp only at h0 h1 h2 h3 h4
  cbv
  cases hc : g .q .lss z (g .ln V)
  · rw [goLss hg, goLn hg, decide_eq_false_iff_not] at hc
    cbv
    exact fin0i hF (by rw [h4, hall z (by omega)])
  · rw [goLss hg, goLn hg, decide_eq_true_eq] at hc
    cbv
    obtain ⟨x, hx⟩ := at_z (xs := xs) h0 (lt_viaN hVx hc)
    have hyy : V[z.toNat]? = some (lc (intC x)) := by rw [hV]; exact vw_at hx
    have hs := psum_succ (fun k : Int => if k = n then (1 : Int) else 0) hx
    refine goX hg _ h0 hyy rfl ?_
    cbv
    have e1 : g .w .add .i64 z 1 = z + 1 := by rw [goAdd hg, wrap_small _ (by omega)]
    cases he : g .q .eql x n
    · have he' : x ≠ n := by rw [goEql hg] at he; simpa using he
      simp only [if_neg he'] at hs
      cbv
      rw [e1]
      exact back hB (z + 1, d) [] (wk0 ⟨rfl, rfl, rfl, rfl, trivial⟩) ⟨by simp only; omega, by simp only; omega, h2, by simp only; omega, by simp only; rw [show (z + 1).toNat = z.toNat + 1 by omega, hs]; omega⟩ (by show (lenI V).toNat - (z + 1).toNat < (lenI V).toNat - z.toNat; omega)
    · have he' : x = n := by rw [goEql hg] at he; simpa using he
      simp only [if_pos he'] at hs
      cbv
      have e2 : g .w .add .i64 d 1 = d + 1 := by rw [goAdd hg, wrap_small _ (by omega)]
      rw [e1, e2]
      exact back hB (z + 1, d + 1) [] (wk0 ⟨rfl, rfl, rfl, rfl, trivial⟩) ⟨by simp only; omega, by simp only; omega, by simp only; omega, by simp only; omega, by simp only; rw [show (z + 1).toNat = z.toNat + 1 by omega, hs]; omega⟩ (by show (lenI V).toNat - (z + 1).toNat < (lenI V).toNat - z.toNat; omega)
set_option maxHeartbeats 8000000 in
theorem impl_DepthOf_a (ns : List NNode) (n0 : Int) (hl : ns.length ≤ 1048576) : PCon Tryz.prog 103 [.agg [.view (vwA NNode.ac ns)], ai n0] fun res rows => res = .t (ai (depN ns n0)) ∧ rows = [] := by
  obtain ⟨V, hV⟩ : ∃ V, V = vwA NNode.ac ns := ⟨_, rfl⟩
  have hVx : lenI V = (ns.length : Int) := by rw [lenI_eq, hV, vwA_length]
  have hV0 : 0 ≤ lenI V := by omega
  have hV1 : lenI V ≤ 1048576 := by omega
  have hisN : ∀ n, isN ns n = rng n 1 (lenI V) := fun n => by rw [hVx]; rfl
  have hfu : ∀ d : Int, 0 ≤ d → d < lenI V → ns.length - d.toNat = (ns.length - (d + 1).toNat) + 1 := fun d h0 h1 => dep_fuel hVx h0 h1
  have hfe : ∀ d : Int, d = lenI V → ns.length - d.toNat = 0 := fun d h => dep_fuel0 hVx h
  have hst : depF ns (ns.length - (0 : Int).toNat) 0 n0 = depN ns n0 := rfl
  obtain ⟨R, hR⟩ : ∃ R, R = depN ns n0 := ⟨_, rfl⟩
  rw [← hR] at hst ⊢
  rw [← hV]
  refine pcon_run (c := body Tryz.f103) fits Tryz.func103 (by kernel_rfl) (by kernel_rfl) (by rfl) (by kernel_rfl) fun g F hg hF => ?_
  cbv
  refine loop_run hg fits (by kernel_rfl) (fun s : Int × Int => [(1, .t (ai s.1)), (2, .t (.c (.ptr 0 0 0))), (5, .t (ai s.2))]) (fun _ => [.bx 43 1 [.view V]]) (fun s => 0 ≤ s.2 ∧ s.2 ≤ lenI V ∧ depF ns (ns.length - s.2.toNat) s.2 s.1 = R) (fun s => (lenI V).toNat - s.2.toNat)
    (n0, 0) [some 0] ⟨Int.le_refl 0, hV0, hst⟩ (wkS [0] (by decide) ⟨⟨_, rfl, rfl, rfl⟩, trivial⟩ ⟨rfl, rfl, rfl, trivial⟩) (fun s B hs hB => ?_)
  obtain ⟨n, d⟩ := s
  obtain ⟨h0, h1, h2⟩ := hs
  simp only at h0 h1 h2
  cbv
  cases hn : g .q .neq n 0
  · have hn' : n = 0 := by rw [goNeq hg] at hn; simpa using hn
    cbv
    exact fin0i hF (by rw [← h2, hn', dep_zero])
  have hn' : n ≠ 0 := by rw [goNeq hg] at hn; simpa using hn
  cbv
  have e1 : g .w .add .i64 d 1 = d + 1 := by rw [goAdd hg, wrap_small _ (by omega)]
  obtain ⟨D, hD⟩ : ∃ D, D = d + 1 := ⟨_, rfl⟩
  rw [← hD] at e1
  rw [e1]
  have ci := impl_isNode_a V n
  rw [← hisN n] at ci
  cases hi : isN ns n
  · rw [hi] at ci
    refine call0 hg ci rfl rfl ?_
    cbv
    exact fin0i hF (by rw [← h2, dep_out ns _ _ _ hn' hi])
  rw [hi] at ci
  refine call0 hg ci rfl rfl ?_
  cbv
  cases hd : g .q .gtr D (g .ln V)
  case true =>
    rw [goGtr hg, goLn hg, decide_eq_true_eq] at hd
    cbv
    exact fin0i hF (by rw [← h2, hfe d (by omega), dep_end ns hn'])
  rw [goGtr hg, goLn hg, decide_eq_false_iff_not] at hd
  have hlt : d < lenI V := by omega
  have hf2 := hfu d h0 hlt
  obtain ⟨i1, i2, x, hx⟩ := isN_at hi
  have hi2 : n ≤ 1048576 := Int.le_trans (hVx ▸ i2) hV1
  have hyy : V[(n - 1).toNat]? = some x.ac := by rw [hV]; exact vwA_at hx
  have hup := upN_at hx
  have hst2 : depF ns (ns.length - D.toNat) D x.up = R := by rw [← h2, hf2, dep_step ns hn' hi, hup, hD]
  obtain ⟨a0, a1, ⟨a2, a3, a4, a5, a6, a7, a8, a9, a10, a11, a12, ⟨a13, a14⟩, ⟨a15, a16⟩, ⟨a17, a18⟩, ⟨a19, a20⟩, ⟨a21, a22⟩, ⟨a23, a24⟩, ⟨a25, a26⟩, a27, ⟨⟨a28, a29⟩, ⟨a30, a31⟩, ⟨a32, a33⟩, ⟨a34, a35⟩, ⟨a36, a37⟩, ⟨a38, a39⟩⟩, ⟨⟨a40, a41⟩, ⟨a42, a43⟩, ⟨a44, a45⟩, ⟨a46, a47⟩, ⟨a48, a49⟩, ⟨a50, a51⟩⟩, ⟨a52, a53, a54, a55⟩, ⟨a56, a57, a58, a59⟩, a60, a61⟩, a62, ⟨a63⟩⟩ := x
  replace hyy : V[(n - 1).toNat]? = some [.imm (.int .i64 a0), .view (vw intC a1), .imm (.int .i64 a2), .imm (.int .i64 a3), .imm (.int .i64 a4), .imm (.int .i64 a5), .imm (.int .i64 a6), .imm (.int .i64 a7), .imm (.bool a8), .imm (.bool a9), .imm (.int .i64 a10), .imm (.int .i64 a11), .imm (.int .i64 a12), .imm (.int .i64 a13), .imm (.int .i64 a14), .imm (.int .i64 a15), .imm (.int .i64 a16), .imm (.int .i64 a17), .imm (.int .i64 a18), .imm (.int .i64 a19), .imm (.int .i64 a20), .imm (.int .i64 a21), .imm (.int .i64 a22), .imm (.int .i64 a23), .imm (.int .i64 a24), .imm (.int .i64 a25), .imm (.int .i64 a26), .imm (.int .i64 a27), .imm (.int .i64 a28), .imm (.int .i64 a29), .imm (.int .i64 a30), .imm (.int .i64 a31), .imm (.int .i64 a32), .imm (.int .i64 a33), .imm (.int .i64 a34), .imm (.int .i64 a35), .imm (.int .i64 a36), .imm (.int .i64 a37), .imm (.int .i64 a38), .imm (.int .i64 a39), .imm (.int .i64 a40), .imm (.int .i64 a41), .imm (.int .i64 a42), .imm (.int .i64 a43), .imm (.int .i64 a44), .imm (.int .i64 a45), .imm (.int .i64 a46), .imm (.int .i64 a47), .imm (.int .i64 a48), .imm (.int .i64 a49), .imm (.int .i64 a50), .imm (.int .i64 a51), .imm (.int .i64 a52), .imm (.int .i64 a53), .imm (.int .i64 a54), .imm (.int .i64 a55), .imm (.int .i64 a56), .imm (.int .i64 a57), .imm (.int .i64 a58), .imm (.int .i64 a59), .imm (.int .i64 a60), .imm (.int .i64 a61), .imm (.bool a62), .view (vw GRule.c a63)] := hyy
  obtain ⟨Va1, hVa1⟩ : ∃ V, V = vw intC a1 := ⟨_, rfl⟩
  obtain ⟨Va63, hVa63⟩ : ∃ V, V = vw GRule.c a63 := ⟨_, rfl⟩
  rw [← hVa1, ← hVa63] at hyy
  cbv
  refine call0 hg (impl_node_a V n i1 hi2 hyy) rfl rfl ?_
  cbv
  exact back hB (a0, D) [some 0] (wkS [0] (by decide) ⟨⟨_, rfl, rfl, rfl⟩, trivial⟩ ⟨rfl, rfl, rfl, trivial⟩) ⟨by simp only; omega, by simp only; omega, hst2⟩ (by show (lenI V).toNat - D.toNat < (lenI V).toNat - d.toNat; omega)
set_option maxHeartbeats 8000000 in
theorem spec_DepthOf_a (ns : List NNode) (n0 : Int) (hl : ns.length ≤ 1048576) : PCon Tryz.prog 98 [.agg [.view (vwA NNode.ac ns)], ai n0] fun res rows => res = .t (ai (depN ns n0)) ∧ rows = [] := by
  obtain ⟨V, hV⟩ : ∃ V, V = vwA NNode.ac ns := ⟨_, rfl⟩
  have hVx : lenI V = (ns.length : Int) := by rw [lenI_eq, hV, vwA_length]
  have hV0 : 0 ≤ lenI V := by omega
  have hV1 : lenI V ≤ 1048576 := by omega
  have hisN : ∀ n, isN ns n = rng n 1 (lenI V) := fun n => by rw [hVx]; rfl
  have hfu : ∀ d : Int, 0 ≤ d → d < lenI V → ns.length - d.toNat = (ns.length - (d + 1).toNat) + 1 := fun d h0 h1 => dep_fuel hVx h0 h1
  have hfe : ∀ d : Int, d = lenI V → ns.length - d.toNat = 0 := fun d h => dep_fuel0 hVx h
  have hst : depF ns (ns.length - (0 : Int).toNat) 0 n0 = depN ns n0 := rfl
  obtain ⟨R, hR⟩ : ∃ R, R = depN ns n0 := ⟨_, rfl⟩
  rw [← hR] at hst ⊢
  rw [← hV]
  refine pcon_run (c := body Tryz.f98) fits Tryz.func98 (by kernel_rfl) (by kernel_rfl) (by rfl) (by kernel_rfl) fun g F hg hF => ?_
  cbv
  refine loop_run hg fits (by kernel_rfl) (fun s : Int × Int => [(1, .t (ai s.1)), (2, .t (.c (.ptr 0 0 0))), (5, .t (ai s.2))]) (fun _ => [.bx 43 1 [.view V]]) (fun s => 0 ≤ s.2 ∧ s.2 ≤ lenI V + 1 ∧ (s.2 ≤ lenI V → depF ns (ns.length - s.2.toNat) s.2 s.1 = R) ∧ (s.2 = lenI V + 1 → R = 0)) (fun s => (lenI V + 1).toNat - s.2.toNat)
    (n0, 0) [some 0] ⟨Int.le_refl 0, by simp only; omega, fun _ => hst, fun h => by simp only at h; omega⟩ (wkS [0] (by decide) ⟨⟨_, rfl, rfl, rfl⟩, trivial⟩ ⟨rfl, rfl, rfl, trivial⟩) (fun s B hs hB => ?_)
  obtain ⟨n, d⟩ := s
  obtain ⟨h0, h1, h2, h2'⟩ := hs
  simp only at h0 h1 h2 h2'
  cbv
  cases hd : g .q .leq d (g .ln V)
  case false =>
    rw [goLeq hg, goLn hg, decide_eq_false_iff_not] at hd
    cbv
    exact fin0i hF (h2' (by omega)).symm
  rw [goLeq hg, goLn hg, decide_eq_true_eq] at hd
  replace h2 := h2 hd
  clear h2'
  cbv
  cases hn : g .q .eql n 0
  case true =>
    have hn' : n = 0 := by rw [goEql hg] at hn; simpa using hn
    cbv
    exact fin0i hF (by rw [← h2, hn', dep_zero])
  have hn' : n ≠ 0 := by rw [goEql hg] at hn; simpa using hn
  cbv
  have e1 : g .w .add .i64 d 1 = d + 1 := by rw [goAdd hg, wrap_small _ (by omega)]
  have ci := spec_l10Is_a V n
  rw [← hisN n] at ci
  cases hi : isN ns n
  · rw [hi] at ci
    refine call0 hg ci rfl rfl ?_
    cbv
    exact fin0i hF (by rw [← h2, dep_out ns _ _ _ hn' hi])
  rw [hi] at ci
  refine call0 hg ci rfl rfl ?_
  obtain ⟨i1, i2, x, hx⟩ := isN_at hi
  have hi2 : n ≤ 1048576 := Int.le_trans (hVx ▸ i2) hV1
  have hyy : V[(n - 1).toNat]? = some x.ac := by rw [hV]; exact vwA_at hx
  have hup := upN_at hx
  have hst2 : d < lenI V → depF ns (ns.length - (d + 1).toNat) (d + 1) x.up = R := fun hlt => by rw [← h2, hfu d h0 hlt, dep_step ns hn' hi, hup]
  have hst3 : d = lenI V → R = 0 := fun he => by rw [← h2, hfe d he, dep_end ns hn']
  obtain ⟨a0, a1, ⟨a2, a3, a4, a5, a6, a7, a8, a9, a10, a11, a12, ⟨a13, a14⟩, ⟨a15, a16⟩, ⟨a17, a18⟩, ⟨a19, a20⟩, ⟨a21, a22⟩, ⟨a23, a24⟩, ⟨a25, a26⟩, a27, ⟨⟨a28, a29⟩, ⟨a30, a31⟩, ⟨a32, a33⟩, ⟨a34, a35⟩, ⟨a36, a37⟩, ⟨a38, a39⟩⟩, ⟨⟨a40, a41⟩, ⟨a42, a43⟩, ⟨a44, a45⟩, ⟨a46, a47⟩, ⟨a48, a49⟩, ⟨a50, a51⟩⟩, ⟨a52, a53, a54, a55⟩, ⟨a56, a57, a58, a59⟩, a60, a61⟩, a62, ⟨a63⟩⟩ := x
  replace hyy : V[(n - 1).toNat]? = some [.imm (.int .i64 a0), .view (vw intC a1), .imm (.int .i64 a2), .imm (.int .i64 a3), .imm (.int .i64 a4), .imm (.int .i64 a5), .imm (.int .i64 a6), .imm (.int .i64 a7), .imm (.bool a8), .imm (.bool a9), .imm (.int .i64 a10), .imm (.int .i64 a11), .imm (.int .i64 a12), .imm (.int .i64 a13), .imm (.int .i64 a14), .imm (.int .i64 a15), .imm (.int .i64 a16), .imm (.int .i64 a17), .imm (.int .i64 a18), .imm (.int .i64 a19), .imm (.int .i64 a20), .imm (.int .i64 a21), .imm (.int .i64 a22), .imm (.int .i64 a23), .imm (.int .i64 a24), .imm (.int .i64 a25), .imm (.int .i64 a26), .imm (.int .i64 a27), .imm (.int .i64 a28), .imm (.int .i64 a29), .imm (.int .i64 a30), .imm (.int .i64 a31), .imm (.int .i64 a32), .imm (.int .i64 a33), .imm (.int .i64 a34), .imm (.int .i64 a35), .imm (.int .i64 a36), .imm (.int .i64 a37), .imm (.int .i64 a38), .imm (.int .i64 a39), .imm (.int .i64 a40), .imm (.int .i64 a41), .imm (.int .i64 a42), .imm (.int .i64 a43), .imm (.int .i64 a44), .imm (.int .i64 a45), .imm (.int .i64 a46), .imm (.int .i64 a47), .imm (.int .i64 a48), .imm (.int .i64 a49), .imm (.int .i64 a50), .imm (.int .i64 a51), .imm (.int .i64 a52), .imm (.int .i64 a53), .imm (.int .i64 a54), .imm (.int .i64 a55), .imm (.int .i64 a56), .imm (.int .i64 a57), .imm (.int .i64 a58), .imm (.int .i64 a59), .imm (.int .i64 a60), .imm (.int .i64 a61), .imm (.bool a62), .view (vw GRule.c a63)] := hyy
  obtain ⟨Va1, hVa1⟩ : ∃ V, V = vw intC a1 := ⟨_, rfl⟩
  obtain ⟨Va63, hVa63⟩ : ∃ V, V = vw GRule.c a63 := ⟨_, rfl⟩
  rw [← hVa1, ← hVa63] at hyy
  cbv
  refine call0 hg (spec_l10Node_a V n i1 hi2 hyy) rfl rfl ?_
  cbv
  rw [e1]
  exact back hB (a0, d + 1) [some 0] (wkS [0] (by decide) ⟨⟨_, rfl, rfl, rfl⟩, trivial⟩ ⟨rfl, rfl, rfl, trivial⟩) ⟨by simp only; omega, by simp only; omega, fun h => hst2 (by simp only at h; omega), fun h => hst3 (by simp only at h; omega)⟩ (by show (lenI V + 1).toNat - (d + 1).toNat < (lenI V + 1).toNat - d.toNat; omega)
theorem okMkNode_len {x : List AC} {l : Nat × Nat} (h : okMkNode x l) : x.length = 64 := by
  obtain ⟨u0, u2, u3, u4, u5, u6, u7, u8, u9, u10, u11, u12, u13, u14, u15, u16, u17, u18, u19, u20, u21, u22, u23, u24, u25, u26, u27, u28, u29, u30, u31, u32, u33, u34, u35, u36, u37, u38, u39, u40, u41, u42, u43, u44, u45, u46, u47, u48, u49, u50, u51, u52, u53, u54, u55, u56, u57, u58, u59, u60, u61, u62, F0, F1, he, -⟩ := h
  rw [he]; rfl
theorem okMkNode_of (x : NNode) (hs : x.small) : okMkNode x.ac (x.kids.length, x.table.rules.length) := by
  obtain ⟨a0, a1, ⟨a2, a3, a4, a5, a6, a7, a8, a9, a10, a11, a12, ⟨a13, a14⟩, ⟨a15, a16⟩, ⟨a17, a18⟩, ⟨a19, a20⟩, ⟨a21, a22⟩, ⟨a23, a24⟩, ⟨a25, a26⟩, a27, ⟨⟨a28, a29⟩, ⟨a30, a31⟩, ⟨a32, a33⟩, ⟨a34, a35⟩, ⟨a36, a37⟩, ⟨a38, a39⟩⟩, ⟨⟨a40, a41⟩, ⟨a42, a43⟩, ⟨a44, a45⟩, ⟨a46, a47⟩, ⟨a48, a49⟩, ⟨a50, a51⟩⟩, ⟨a52, a53, a54, a55⟩, ⟨a56, a57, a58, a59⟩, a60, a61⟩, a62, ⟨a63⟩⟩ := x
  obtain ⟨sa1, sa63, -⟩ := hs
  exact ⟨_, _, _, _, _, _, _, _, _, _, _, _, _, _, _, _, _, _, _, _, _, _, _, _, _, _, _, _, _, _, _, _, _, _, _, _, _, _, _, _, _, _, _, _, _, _, _, _, _, _, _, _, _, _, _, _, _, _, _, _, _, _, _, _, rfl, ⟨by simp [vw], by simpa [vw] using sa1, vw_imm _ _, vw_k (c := intC) (k := 1) fun _ => rfl⟩, ⟨by simp [vw], by simpa [vw] using sa63, vw_imm _ _, vw_k (c := GRule.c) (k := 3) fun _ => rfl⟩⟩
set_option maxHeartbeats 4000000 in
theorem laws_markTree_m (k0 : Int) (b0 : List Nat) (V0 : List (List AC)) (ls0 : List (Nat × Nat)) (hV0 : V0.length = ls0.length) (hl0 : V0.length ≤ 1048576) (hok0 : ∀ (i : Nat) (x : List AC) (l : Nat × Nat), V0[i]? = some x → ls0[i]? = some l → okMkNode x l)
    (hnd : b0.Nodup) (hk0 : 0 ≤ k0) (hk1 : endMkNode k0 ls0 ≤ 1152921504606846976) :
    MCon Tryz.prog 47 [.agg [.fv b0 V0], ai k0] [(b0, V0, mkRowsNode k0 ls0)] (.int .i64 (endMkNode k0 ls0)) := by
  have hm0 := laws_markNodeS_m k0 b0 V0 ls0 hV0 hl0 hok0 hnd hk0 hk1
  have kk0 : ∃ k : Nat, (∀ x ∈ V0, x.length = k) ∧ ∀ x ∈ mkRowsNode k0 ls0, x.length = k := ⟨64, fun x hx => by
    obtain ⟨i, hi, rfl⟩ := List.getElem_of_mem hx
    exact okMkNode_len (hok0 i _ _ (List.getElem?_eq_getElem hi) (List.getElem?_eq_getElem (by omega))), mkRowsNode_k ls0 k0⟩
  have ln0 : (mkRowsNode k0 ls0).length = V0.length := by rw [mkRowsNode_len, hV0]
  clear hok0
  obtain ⟨R0, hR0⟩ : ∃ R, R = mkRowsNode k0 ls0 := ⟨_, rfl⟩
  obtain ⟨K1, hK1⟩ : ∃ K, K = endMkNode k0 ls0 := ⟨_, rfl⟩
  rw [← hR0, ← hK1] at hm0
  rw [← hR0] at kk0 ln0
  rw [← hR0, ← hK1]
  clear hR0 hK1 hk1
  refine mcon_wrap (fun u hu => ?_) ?_
  · rw [List.mem_singleton.1 hu]; exact ⟨kk0, ln0⟩
  obtain ⟨β, hβ⟩ : ∃ β : BP, β = ⟨0, fun b => ∃ u ∈ [(b0, V0, R0)], b ∈ u.1⟩ := ⟨_, rfl⟩
  have hx0 : ∀ b ∈ b0, β.ex b := by rw [hβ]; exact fun b hb => ⟨_, List.mem_cons_self .., hb⟩
  rw [← hβ]
  clear hβ
  refine conx_run4 (h := []) [(1, .hand)] [] (c := body Tryz.f47) fits Tryz.func47 (by kernel_rfl) (by kernel_rfl) (bl (by rfl)) (by kernel_rfl) fun g eff hd F heff hhd hg hF => ?_
  cbv
  refine hand_mark hg hhd fits 3 (by kernel_rfl) (fun mk hmk => ?_)
  cbv
  subst hmk
  refine ⟨_, _, _, [(b0, V0, R0)], _, [(2, .t (.c (.ptr 0 0 0))), (4, .t (ai 0))], [.bx 43 1 [.fv b0 R0]], rfl, rfl, rfl, rfl, rfl, hm0, fun u hu b hb => hx0 b (by rw [List.mem_singleton.1 hu] at hb; exact hb), fun u hu => ?_, ⟨.inr (.inl ⟨rfl, trivial⟩), .inr (.inl ⟨rfl, trivial⟩), trivial⟩, ⟨⟨rfl, rfl, .inr (.inr ⟨_, List.mem_singleton.2 rfl, rfl, rfl⟩), trivial⟩, trivial⟩, ?_⟩
  · rw [List.mem_singleton.1 hu]; exact ⟨_, List.mem_cons_self .., List.mem_singleton.2 rfl⟩
  cbv
  refine finW hF 0 _ _ [.fv b0 R0] rfl rfl (fun u hu => ?_)
  rw [List.mem_singleton.1 hu]; exact List.mem_cons_self ..
theorem endMkNode_bound : ∀ (ls : List (Nat × Nat)) (k : Int), (∀ l ∈ ls, l.1 ≤ 1048576 ∧ l.2 ≤ 1048576) → endMkNode k ls ≤ k + 4194366 * (ls.length : Int)
  | [], k, _ => by simp [endMkNode]
  | l :: ls, k, h => by
    have h1 := endMkNode_bound ls (nxMkNode k l.1 l.2) fun l' hl => h l' (List.mem_cons_of_mem _ hl)
    obtain ⟨h2, h3⟩ := h l (List.mem_cons_self ..)
    unfold endMkNode
    unfold nxMkNode at h1 ⊢
    simp only [List.length_cons]
    omega
def kidsN (ns : List NNode) (n : Int) : List Int := match ns[(n - 1).toNat]? with | some x => x.kids | none => []
def kidOk (ns : List NNode) (n : Int) (k : Int) : Bool := isN ns k && decide (upN ns k = n)
def tabE (x : NNode) : Bool := !((x.measured && (!taOk x.table.rules || decide ((0 : Int) < (x.kids.length : Int)))) || (!x.measured && decide ((0 : Int) < (x.table.rules.length : Int))))
def upOk (ns : List NNode) (n up : Int) : Bool := decide (up = 0) || decide (cnt (kidsN ns up) n = 1)
def nodeOk (ns : List NNode) (n : Int) (x : NNode) : Bool := stOk x.style && (rng (depN ns n) 1 4 && (upOk ns n x.up && (x.kids.all (kidOk ns n) && tabE x)))
def goT (ns : List NNode) : List NNode → Int → Bool
  | [], _ => true
  | x :: xs, i => nodeOk ns (i + 1) x && goT ns xs (i + 1)
def treeB (ns : List NNode) : Bool := decide ((ns.length : Int) ≤ 12) && goT ns ns 0
theorem goT_iff (ns : List NNode) : ∀ (xs : List NNode) (k : Int), goT ns xs k = true ↔ ∀ (i : Nat) (x : NNode), xs[i]? = some x → nodeOk ns (k + (i : Int) + 1) x = true
  | [], k => by simp [goT]
  | x :: xs, k => by
    simp only [goT, Bool.and_eq_true]
    rw [goT_iff ns xs (k + 1)]
    constructor
    · rintro ⟨h1, h2⟩ i y hy
      cases i with
      | zero => simp at hy; subst hy; simpa using h1
      | succ i => have := h2 i y (by simpa using hy); rw [show k + ((i + 1 : Nat) : Int) + 1 = k + 1 + (i : Int) + 1 by omega]; exact this
    · intro h
      refine ⟨by simpa using h 0 x rfl, fun i y hy => ?_⟩
      have := h (i + 1) y (by simpa using hy)
      rw [show k + ((i + 1 : Nat) : Int) + 1 = k + 1 + (i : Int) + 1 by omega] at this
      exact this
theorem tree_no {ns : List NNode} {z : Int} {x : NNode} (h0 : 0 ≤ z) (hx : ns[z.toNat]? = some x) (h : nodeOk ns (z + 1) x = false) : treeB ns = false := by
  cases hg : goT ns ns 0
  · simp [treeB, hg]
  · have := (goT_iff ns ns 0).1 hg z.toNat x hx
    rw [show (0 : Int) + ((z.toNat : Nat) : Int) + 1 = z + 1 by omega, h] at this
    cases this
theorem tree_yes {ns : List NNode} {z M : Int} (hM : M = (ns.length : Int)) (h12 : M ≤ 12) (hz : M ≤ z) (h : ∀ (i : Nat) (x : NNode), i < z.toNat → ns[i]? = some x → nodeOk ns ((i : Int) + 1) x = true) : treeB ns = true := by
  have hg : goT ns ns 0 = true := (goT_iff ns ns 0).2 fun i x hx => by
    have hi := (List.getElem?_eq_some_iff.1 hx).1
    have := h i x (by omega) hx
    rwa [show (0 : Int) + (i : Int) + 1 = (i : Int) + 1 by omega]
  simp only [treeB, hg, Bool.and_true, decide_eq_true_eq]
  omega
theorem tree_big {ns : List NNode} {M : Int} (hM : M = (ns.length : Int)) (h : ¬ M ≤ 12) : treeB ns = false := by
  simp only [treeB, Bool.and_eq_false_iff, decide_eq_false_iff_not]
  left; omega
theorem dep_up {ns : List NNode} {n : Int} {x : NNode} (h0 : n ≠ 0) (hn : isN ns n = true) (hx : ns[(n - 1).toNat]? = some x) (hd : rng (depN ns n) 1 4 = true) (hu : x.up ≠ 0) : isN ns x.up = true := by
  cases hi : isN ns x.up
  · exfalso
    have hl : ns.length ≠ 0 := fun h => by
      have := (isN_at hn).2.1
      have := (isN_at hn).1
      omega
    obtain ⟨L, hL⟩ : ∃ L, ns.length = L + 1 := ⟨ns.length - 1, by omega⟩
    rw [depN, hL, dep_step ns h0 hn, upN_at hx, dep_out ns _ _ _ hu hi] at hd
    simp [rng] at hd
  · rfl
theorem kids_no {ns : List NNode} {n : Int} {xs : List Int} {i : Nat} {k : Int} (h : xs[i]? = some k) (hk : kidOk ns n k = false) : xs.all (kidOk ns n) = false := by
  rw [List.all_eq_false]
  exact ⟨k, List.mem_of_getElem? h, by rw [hk]; decide⟩
theorem kids_to {ns : List NNode} {n : Int} {xs : List Int} {z M : Int} (hM : M = (xs.length : Int)) (hz : M ≤ z) (h : ∀ (i : Nat) (v : Int), i < z.toNat → xs[i]? = some v → kidOk ns n v = true) : xs.all (kidOk ns n) = true := by
  rw [List.all_eq_true]
  exact all_upto hM hz h
theorem le_viaN {n : Nat} {a z : Int} (h : a = (n : Int)) (hz : z ≤ (n : Int)) : z ≤ a := h ▸ hz
theorem isN_of {ns : List NNode} {z M : Int} (hM : M = (ns.length : Int)) (h0 : 0 ≤ z) (h1 : z < M) : isN ns (z + 1) = true := by
  simp only [isN, rng, Bool.and_eq_true, decide_eq_true_eq]; omega
theorem at_of {ns : List NNode} {z : Int} {x : NNode} (h : ns[z.toNat]? = some x) : ns[(z + 1 - 1).toNat]? = some x := by rw [show z + 1 - 1 = z by omega]; exact h
theorem len_pos {α : Type} {c : α → Array Value} {xs : List α} {V : List (List AC)} (hV : V = vw c xs) : lenI V = (xs.length : Int) := by rw [hV, lenI_eq, vw_length]
set_option maxHeartbeats 16000000 in
theorem impl_TreeOk_a (ns : List NNode) (hl : ns.length ≤ 1048576) (hs : ∀ y ∈ ns, y.small) : PCon Tryz.prog 57 [.agg [.view (vwA NNode.ac ns)]] fun res rows => res = .t (abl (treeB ns)) ∧ rows = [] := by
  obtain ⟨V, hV⟩ : ∃ V, V = vwA NNode.ac ns := ⟨_, rfl⟩
  have hVx : lenI V = (ns.length : Int) := by rw [lenI_eq, hV, vwA_length]
  have hV0 : 0 ≤ lenI V := by omega
  have hV1 : lenI V ≤ 1048576 := by omega
  have hisN : ∀ n, isN ns n = rng n 1 (lenI V) := fun n => by rw [hVx]; rfl
  have cD := fun n => impl_DepthOf_a ns n hl
  obtain ⟨R, hR⟩ : ∃ R, R = treeB ns := ⟨_, rfl⟩
  rw [← hR]
  rw [← hV] at cD ⊢
  refine pcon_run (c := body Tryz.f57) fits Tryz.func57 (by kernel_rfl) (by kernel_rfl) (by rfl) (by kernel_rfl) fun g F hg hF => ?_
  cbv
  cases h12 : g .q .gtr (g .ln V) 12
  case true =>
    rw [goGtr hg, goLn hg, decide_eq_true_eq] at h12
    cbv
    exact fin0b hF (by rw [hR, tree_big hVx (by omega)])
  rw [goGtr hg, goLn hg, decide_eq_false_iff_not] at h12
  cbv
  refine loop_run hg fits (by kernel_rfl) (fun z : Int => [(1, .t (.c (.ptr 0 0 0))), (16, .t (.c (.view V))), (17, .t (ai (g .ln V))), (18, .t (ai z))]) (fun _ => [.bx 43 1 [.view V]]) (fun z => 0 ≤ z ∧ z ≤ lenI V ∧ ∀ (i : Nat) (x : NNode), i < z.toNat → ns[i]? = some x → nodeOk ns ((i : Int) + 1) x = true) (fun z => (lenI V).toNat - z.toNat)
    0 [some 0] ⟨Int.le_refl 0, hV0, fun i x hi => by simp at hi⟩ (wkS [0] (by decide) ⟨⟨_, rfl, rfl, rfl⟩, trivial⟩ ⟨rfl, rfl, rfl, rfl, trivial⟩) (fun z B hst hB => ?_)
  obtain ⟨h0, h1, h2⟩ := hst
  cbv
  cases hc : g .q .lss z (g .ln V)
  · rw [goLss hg, goLn hg, decide_eq_false_iff_not] at hc
    cbv
    exact fin0b hF (by rw [hR, tree_yes hVx (by omega) (by omega) h2])
  rw [goLss hg, goLn hg, decide_eq_true_eq] at hc
  cbv
  obtain ⟨x, hx⟩ := at_z (xs := ns) h0 (lt_viaN hVx hc)
  have hyy : V[z.toNat]? = some x.ac := by rw [hV]; exact vwA_at hx
  have hsx := hs x (List.mem_of_getElem? hx)
  have hno : nodeOk ns (z + 1) x = false → R = false := fun h => by rw [hR]; exact tree_no h0 hx h
  have hin := isN_of hVx h0 hc
  have hat := at_of hx
  obtain ⟨n, hn⟩ : ∃ n, n = z + 1 := ⟨_, rfl⟩
  rw [← hn] at hno hin hat
  obtain ⟨OK, hOK⟩ : ∃ OK, OK = nodeOk ns n x := ⟨_, rfl⟩
  have hnode := hOK
  rw [nodeOk] at hnode
  rw [← hOK] at hno
  obtain ⟨A, hA⟩ : ∃ A, A = stOk x.style := ⟨_, rfl⟩
  obtain ⟨Dp, hDp⟩ : ∃ D, D = depN ns n := ⟨_, rfl⟩
  obtain ⟨Bd, hBd⟩ : ∃ B, B = rng Dp 1 4 := ⟨_, rfl⟩
  obtain ⟨C, hC⟩ : ∃ C, C = upOk ns n x.up := ⟨_, rfl⟩
  obtain ⟨D, hD⟩ : ∃ D, D = x.kids.all (kidOk ns n) := ⟨_, rfl⟩
  obtain ⟨E, hE⟩ : ∃ E, E = tabE x := ⟨_, rfl⟩
  have hup : Bd = true → x.up ≠ 0 → isN ns x.up = true := fun hb hu => dep_up (by omega) hin hat (by rw [← hDp, ← hBd]; exact hb) hu
  rw [← hA, ← hDp, ← hBd, ← hC, ← hD, ← hE] at hnode
  have cA := impl_StyleOk_a x.style
  have cDn := cD n
  have cB := impl_in_r Dp 1 4
  have cT := impl_TableOk_a x.table.rules
  rw [← hA] at cA
  rw [← hDp] at cDn
  rw [← hBd] at cB
  have h1' : ∀ (i : Nat) (y : NNode), i < (z + 1).toNat → ns[i]? = some y → OK = true → nodeOk ns ((i : Int) + 1) y = true := fun i y hi hy hk => by
    by_cases hi2 : i < z.toNat
    · exact h2 i y hi2 hy
    · obtain rfl : i = z.toNat := by omega
      rw [hx] at hy
      cases hy
      rw [show ((z.toNat : Nat) : Int) + 1 = n by omega, ← hOK]; exact hk
  obtain ⟨a0, a1, ⟨a2, a3, a4, a5, a6, a7, a8, a9, a10, a11, a12, ⟨a13, a14⟩, ⟨a15, a16⟩, ⟨a17, a18⟩, ⟨a19, a20⟩, ⟨a21, a22⟩, ⟨a23, a24⟩, ⟨a25, a26⟩, a27, ⟨⟨a28, a29⟩, ⟨a30, a31⟩, ⟨a32, a33⟩, ⟨a34, a35⟩, ⟨a36, a37⟩, ⟨a38, a39⟩⟩, ⟨⟨a40, a41⟩, ⟨a42, a43⟩, ⟨a44, a45⟩, ⟨a46, a47⟩, ⟨a48, a49⟩, ⟨a50, a51⟩⟩, ⟨a52, a53, a54, a55⟩, ⟨a56, a57, a58, a59⟩, a60, a61⟩, a62, ⟨a63⟩⟩ := x
  obtain ⟨sa1, sa63, -⟩ := hsx
  replace cT := cT sa63
  simp only at hup hC hD hE cA cT
  replace hyy : V[z.toNat]? = some [.imm (.int .i64 a0), .view (vw intC a1), .imm (.int .i64 a2), .imm (.int .i64 a3), .imm (.int .i64 a4), .imm (.int .i64 a5), .imm (.int .i64 a6), .imm (.int .i64 a7), .imm (.bool a8), .imm (.bool a9), .imm (.int .i64 a10), .imm (.int .i64 a11), .imm (.int .i64 a12), .imm (.int .i64 a13), .imm (.int .i64 a14), .imm (.int .i64 a15), .imm (.int .i64 a16), .imm (.int .i64 a17), .imm (.int .i64 a18), .imm (.int .i64 a19), .imm (.int .i64 a20), .imm (.int .i64 a21), .imm (.int .i64 a22), .imm (.int .i64 a23), .imm (.int .i64 a24), .imm (.int .i64 a25), .imm (.int .i64 a26), .imm (.int .i64 a27), .imm (.int .i64 a28), .imm (.int .i64 a29), .imm (.int .i64 a30), .imm (.int .i64 a31), .imm (.int .i64 a32), .imm (.int .i64 a33), .imm (.int .i64 a34), .imm (.int .i64 a35), .imm (.int .i64 a36), .imm (.int .i64 a37), .imm (.int .i64 a38), .imm (.int .i64 a39), .imm (.int .i64 a40), .imm (.int .i64 a41), .imm (.int .i64 a42), .imm (.int .i64 a43), .imm (.int .i64 a44), .imm (.int .i64 a45), .imm (.int .i64 a46), .imm (.int .i64 a47), .imm (.int .i64 a48), .imm (.int .i64 a49), .imm (.int .i64 a50), .imm (.int .i64 a51), .imm (.int .i64 a52), .imm (.int .i64 a53), .imm (.int .i64 a54), .imm (.int .i64 a55), .imm (.int .i64 a56), .imm (.int .i64 a57), .imm (.int .i64 a58), .imm (.int .i64 a59), .imm (.int .i64 a60), .imm (.int .i64 a61), .imm (.bool a62), .view (vw GRule.c a63)] := hyy
  obtain ⟨TK, hTK⟩ : ∃ T, T = taOk a63 := ⟨_, rfl⟩
  rw [← hTK] at cT
  obtain ⟨Va1, hVa1⟩ : ∃ V, V = vw intC a1 := ⟨_, rfl⟩
  obtain ⟨Va63, hVa63⟩ : ∃ V, V = vw GRule.c a63 := ⟨_, rfl⟩
  have la1 := len_pos hVa1
  have la63 := len_pos hVa63
  have pa1 : 0 ≤ lenI Va1 := by omega
  have qa1 : lenI Va1 ≤ 1048576 := by omega
  rw [← hVa1, ← hVa63] at hyy
  rw [← hVa63] at cT
  have e1 : g .w .add .i64 z 1 = n := by rw [goAdd hg, wrap_small _ (by omega), hn]
  refine goX hg _ h0 hyy rfl ?_
  cbv
  rw [e1]
  (first | refine call0 hg cA rfl rfl ?_ | refine call0P hg cA rfl rfl ?_)
  cases A
  case false =>
    cbv
    exact fin0b hF (hno hnode).symm
  cbv
  (first | refine call0 hg cDn rfl rfl ?_ | refine call0P hg cDn rfl rfl ?_)
  cbv
  (first | refine call0 hg cB rfl rfl ?_ | refine call0P hg cB rfl rfl ?_)
  cases Bd
  case false =>
    cbv
    exact fin0b hF (hno (by rw [hnode]; rfl)).symm
  replace hup := hup rfl
  have hE2 : E = !((a62 && (!TK || decide (0 < lenI Va1))) || (!a62 && decide (0 < lenI Va63))) := by rw [hE, hTK, la1, la63]; rfl
  clear hE hTK
  cbv
  refine loop_run hg fits (by kernel_rfl) (fun j : Int => [(1, .t (.c (.ptr 0 0 0))), (4, .t (.c (.ptr 1 0 0))), (5, .t (ai n)), (16, .t (.c (.view V))), (17, .t (ai (g .ln V))), (18, .t (ai z)), (37, .t (.c (.view Va1))), (38, .t (ai (g .ln Va1))), (39, .t (ai j))]) (fun _ => [.bx 43 1 [.view V], .bx 106 64 [.imm (.int .i64 a0), .view Va1, .imm (.int .i64 a2), .imm (.int .i64 a3), .imm (.int .i64 a4), .imm (.int .i64 a5), .imm (.int .i64 a6), .imm (.int .i64 a7), .imm (.bool a8), .imm (.bool a9), .imm (.int .i64 a10), .imm (.int .i64 a11), .imm (.int .i64 a12), .imm (.int .i64 a13), .imm (.int .i64 a14), .imm (.int .i64 a15), .imm (.int .i64 a16), .imm (.int .i64 a17), .imm (.int .i64 a18), .imm (.int .i64 a19), .imm (.int .i64 a20), .imm (.int .i64 a21), .imm (.int .i64 a22), .imm (.int .i64 a23), .imm (.int .i64 a24), .imm (.int .i64 a25), .imm (.int .i64 a26), .imm (.int .i64 a27), .imm (.int .i64 a28), .imm (.int .i64 a29), .imm (.int .i64 a30), .imm (.int .i64 a31), .imm (.int .i64 a32), .imm (.int .i64 a33), .imm (.int .i64 a34), .imm (.int .i64 a35), .imm (.int .i64 a36), .imm (.int .i64 a37), .imm (.int .i64 a38), .imm (.int .i64 a39), .imm (.int .i64 a40), .imm (.int .i64 a41), .imm (.int .i64 a42), .imm (.int .i64 a43), .imm (.int .i64 a44), .imm (.int .i64 a45), .imm (.int .i64 a46), .imm (.int .i64 a47), .imm (.int .i64 a48), .imm (.int .i64 a49), .imm (.int .i64 a50), .imm (.int .i64 a51), .imm (.int .i64 a52), .imm (.int .i64 a53), .imm (.int .i64 a54), .imm (.int .i64 a55), .imm (.int .i64 a56), .imm (.int .i64 a57), .imm (.int .i64 a58), .imm (.int .i64 a59), .imm (.int .i64 a60), .imm (.int .i64 a61), .imm (.bool a62), .view Va63]]) (fun j : Int => 0 ≤ j ∧ j ≤ lenI Va1 ∧ ∀ (i : Nat) (v : Int), i < j.toNat → a1[i]? = some v → kidOk ns n v = true) (fun j => (lenI Va1).toNat - j.toNat)
    0 [some 0, some 1] ⟨Int.le_refl 0, pa1, fun i v hi => by simp at hi⟩ (wkS [0, 1] (by decide) ⟨⟨_, rfl, rfl, rfl⟩, ⟨_, rfl, rfl, rfl⟩, trivial⟩ ⟨rfl, rfl, rfl, rfl, rfl, rfl, rfl, rfl, rfl, trivial⟩) (fun j B2 hst2 hB2 => ?_)
  obtain ⟨k0, k1, k2⟩ := hst2
  cbv
  cases hk : g .q .lss j (g .ln Va1)
  case true =>
    rw [goLss hg, goLn hg, decide_eq_true_eq] at hk
    cbv
    obtain ⟨y, hy⟩ := at_z (xs := a1) k0 (lt_viaN la1 hk)
    have hyk : Va1[j.toNat]? = some (lc (intC y)) := by rw [hVa1]; exact vw_at hy
    have ci := impl_isNode_a V y
    rw [← hisN y] at ci
    refine goX hg _ k0 hyk rfl ?_
    cbv
    cases hik : isN ns y
    · rw [hik] at ci
      have hDf : D = false := by rw [hD]; exact kids_no hy (by rw [kidOk, hik]; rfl)
      (first | refine call0 hg ci rfl rfl ?_ | refine call0P hg ci rfl rfl ?_)
      cbv
      exact fin0b hF (hno (by rw [hnode, hDf]; simp)).symm
    rw [hik] at ci
    (first | refine call0 hg ci rfl rfl ?_ | refine call0P hg ci rfl rfl ?_)
    obtain ⟨i1, i2, x, hxc⟩ := isN_at hik
    have hi2 : y ≤ 1048576 := Int.le_trans (le_viaN hVx i2) hV1
    have hyc : V[(y - 1).toNat]? = some x.ac := by rw [hV]; exact vwA_at hxc
    have hupc := upN_at hxc
    obtain ⟨c0, c1, ⟨c2, c3, c4, c5, c6, c7, c8, c9, c10, c11, c12, ⟨c13, c14⟩, ⟨c15, c16⟩, ⟨c17, c18⟩, ⟨c19, c20⟩, ⟨c21, c22⟩, ⟨c23, c24⟩, ⟨c25, c26⟩, c27, ⟨⟨c28, c29⟩, ⟨c30, c31⟩, ⟨c32, c33⟩, ⟨c34, c35⟩, ⟨c36, c37⟩, ⟨c38, c39⟩⟩, ⟨⟨c40, c41⟩, ⟨c42, c43⟩, ⟨c44, c45⟩, ⟨c46, c47⟩, ⟨c48, c49⟩, ⟨c50, c51⟩⟩, ⟨c52, c53, c54, c55⟩, ⟨c56, c57, c58, c59⟩, c60, c61⟩, c62, ⟨c63⟩⟩ := x
    simp only at hupc
    replace hyc : V[(y - 1).toNat]? = some [.imm (.int .i64 c0), .view (vw intC c1), .imm (.int .i64 c2), .imm (.int .i64 c3), .imm (.int .i64 c4), .imm (.int .i64 c5), .imm (.int .i64 c6), .imm (.int .i64 c7), .imm (.bool c8), .imm (.bool c9), .imm (.int .i64 c10), .imm (.int .i64 c11), .imm (.int .i64 c12), .imm (.int .i64 c13), .imm (.int .i64 c14), .imm (.int .i64 c15), .imm (.int .i64 c16), .imm (.int .i64 c17), .imm (.int .i64 c18), .imm (.int .i64 c19), .imm (.int .i64 c20), .imm (.int .i64 c21), .imm (.int .i64 c22), .imm (.int .i64 c23), .imm (.int .i64 c24), .imm (.int .i64 c25), .imm (.int .i64 c26), .imm (.int .i64 c27), .imm (.int .i64 c28), .imm (.int .i64 c29), .imm (.int .i64 c30), .imm (.int .i64 c31), .imm (.int .i64 c32), .imm (.int .i64 c33), .imm (.int .i64 c34), .imm (.int .i64 c35), .imm (.int .i64 c36), .imm (.int .i64 c37), .imm (.int .i64 c38), .imm (.int .i64 c39), .imm (.int .i64 c40), .imm (.int .i64 c41), .imm (.int .i64 c42), .imm (.int .i64 c43), .imm (.int .i64 c44), .imm (.int .i64 c45), .imm (.int .i64 c46), .imm (.int .i64 c47), .imm (.int .i64 c48), .imm (.int .i64 c49), .imm (.int .i64 c50), .imm (.int .i64 c51), .imm (.int .i64 c52), .imm (.int .i64 c53), .imm (.int .i64 c54), .imm (.int .i64 c55), .imm (.int .i64 c56), .imm (.int .i64 c57), .imm (.int .i64 c58), .imm (.int .i64 c59), .imm (.int .i64 c60), .imm (.int .i64 c61), .imm (.bool c62), .view (vw GRule.c c63)] := hyc
    obtain ⟨Vc1, hVc1⟩ : ∃ V, V = vw intC c1 := ⟨_, rfl⟩
    obtain ⟨Vc63, hVc63⟩ : ∃ V, V = vw GRule.c c63 := ⟨_, rfl⟩
    rw [← hVc1, ← hVc63] at hyc
    cbv


    (first | refine call0 hg (impl_node_a V y i1 hi2 hyc) rfl rfl ?_ | refine call0P hg (impl_node_a V y i1 hi2 hyc) rfl rfl ?_)
    cbv

    cases hq : g .q .neq c0 n
    case true =>
      rw [goNeq hg, bne_iff_ne] at hq
      have hDf : D = false := by rw [hD]; exact kids_no hy (by rw [kidOk, hik, hupc]; simpa using hq)
      cbv
      exact fin0b hF (hno (by rw [hnode, hDf]; simp)).symm
    rw [goNeq hg, bne_eq_false_iff_eq] at hq
    have hkok : kidOk ns n y = true := by rw [kidOk, hik, hupc]; simpa using hq
    cbv
    have e3 : g .w .add .i64 j 1 = j + 1 := by rw [goAdd hg, wrap_small _ (by omega)]
    rw [e3]
    exact back hB2 (j + 1) [some 0, some 1] (wkS [0, 1] (by decide) ⟨⟨_, rfl, rfl, rfl⟩, ⟨_, rfl, rfl, rfl⟩, trivial⟩ ⟨rfl, rfl, rfl, rfl, rfl, rfl, rfl, rfl, rfl, trivial⟩) ⟨by omega, by omega, fun i v hi hv => by
      by_cases hi2 : i < j.toNat
      · exact k2 i v hi2 hv
      · obtain rfl : i = j.toNat := by omega
        rw [hy] at hv
        cases hv
        exact hkok⟩ (by omega)
  rw [goLss hg, goLn hg, decide_eq_false_iff_not] at hk
  have hDt : D = true := by rw [hD]; exact kids_to la1 (by omega) k2
  by_cases hu : a0 = 0
  · have hCt : C = true := by rw [hC, upOk, hu]; rfl
    have eu : g .q .neq a0 0 = false := by rw [goNeq hg]; simpa using hu
    cbv
    rw [eu]
    cbv
    replace hnode : OK = E := by rw [hnode, hCt, hDt]; simp
    cases a62
    · replace hE2 : E = !(decide (0 < lenI Va63)) := by rw [hE2]; simp
      cbv
      cases ht : g .q .gtr (g .ln Va63) 0
      case true =>
        rw [goGtr hg, goLn hg, decide_eq_true_eq] at ht
        cbv
        exact fin0b hF (hno (by rw [hnode, hE2]; simpa using ht)).symm
      rw [goGtr hg, goLn hg, decide_eq_false_iff_not] at ht
      have hOKt : OK = true := by rw [hnode, hE2]; simpa using ht
      cbv
      rw [e1, hn]
      exact back hB (z + 1) [some 0] (wkS [0] (by decide) ⟨⟨_, rfl, rfl, rfl⟩, trivial⟩ ⟨rfl, rfl, rfl, rfl, trivial⟩) ⟨by omega, by omega, fun i y hi hy => h1' i y hi hy hOKt⟩ (by omega)
    · replace hE2 : E = !(!TK || decide (0 < lenI Va1)) := by rw [hE2]; simp
      cbv
      (first | refine call0 hg cT rfl rfl ?_ | refine call0P hg cT rfl rfl ?_)
      cases TK
      case false =>
        cbv
        exact fin0b hF (hno (by rw [hnode, hE2]; rfl)).symm
      cbv
      cases ht : g .q .gtr (g .ln Va1) 0
      case true =>
        rw [goGtr hg, goLn hg, decide_eq_true_eq] at ht
        cbv
        exact fin0b hF (hno (by rw [hnode, hE2]; simpa using ht)).symm
      rw [goGtr hg, goLn hg, decide_eq_false_iff_not] at ht
      have hOKt : OK = true := by rw [hnode, hE2]; simpa using ht
      cbv
      rw [e1, hn]
      exact back hB (z + 1) [some 0] (wkS [0] (by decide) ⟨⟨_, rfl, rfl, rfl⟩, trivial⟩ ⟨rfl, rfl, rfl, rfl, trivial⟩) ⟨by omega, by omega, fun i y hi hy => h1' i y hi hy hOKt⟩ (by omega)
  · have eu : g .q .neq a0 0 = true := by rw [goNeq hg]; simpa using hu
    have hiu := hup hu
    obtain ⟨u1, u2, xb, hxb⟩ := isN_at hiu
    have hu2 : a0 ≤ 1048576 := Int.le_trans (le_viaN hVx u2) hV1
    have hyb : V[(a0 - 1).toNat]? = some xb.ac := by rw [hV]; exact vwA_at hxb
    have hkb : kidsN ns a0 = xb.kids := by unfold kidsN; rw [hxb]
    have hsb := (hs xb (List.mem_of_getElem? hxb))
    obtain ⟨b0, b1, ⟨b2, b3, b4, b5, b6, b7, b8, b9, b10, b11, b12, ⟨b13, b14⟩, ⟨b15, b16⟩, ⟨b17, b18⟩, ⟨b19, b20⟩, ⟨b21, b22⟩, ⟨b23, b24⟩, ⟨b25, b26⟩, b27, ⟨⟨b28, b29⟩, ⟨b30, b31⟩, ⟨b32, b33⟩, ⟨b34, b35⟩, ⟨b36, b37⟩, ⟨b38, b39⟩⟩, ⟨⟨b40, b41⟩, ⟨b42, b43⟩, ⟨b44, b45⟩, ⟨b46, b47⟩, ⟨b48, b49⟩, ⟨b50, b51⟩⟩, ⟨b52, b53, b54, b55⟩, ⟨b56, b57, b58, b59⟩, b60, b61⟩, b62, ⟨b63⟩⟩ := xb
    obtain ⟨sb1, sb63, -⟩ := hsb
    simp only at hkb
    replace hyb : V[(a0 - 1).toNat]? = some [.imm (.int .i64 b0), .view (vw intC b1), .imm (.int .i64 b2), .imm (.int .i64 b3), .imm (.int .i64 b4), .imm (.int .i64 b5), .imm (.int .i64 b6), .imm (.int .i64 b7), .imm (.bool b8), .imm (.bool b9), .imm (.int .i64 b10), .imm (.int .i64 b11), .imm (.int .i64 b12), .imm (.int .i64 b13), .imm (.int .i64 b14), .imm (.int .i64 b15), .imm (.int .i64 b16), .imm (.int .i64 b17), .imm (.int .i64 b18), .imm (.int .i64 b19), .imm (.int .i64 b20), .imm (.int .i64 b21), .imm (.int .i64 b22), .imm (.int .i64 b23), .imm (.int .i64 b24), .imm (.int .i64 b25), .imm (.int .i64 b26), .imm (.int .i64 b27), .imm (.int .i64 b28), .imm (.int .i64 b29), .imm (.int .i64 b30), .imm (.int .i64 b31), .imm (.int .i64 b32), .imm (.int .i64 b33), .imm (.int .i64 b34), .imm (.int .i64 b35), .imm (.int .i64 b36), .imm (.int .i64 b37), .imm (.int .i64 b38), .imm (.int .i64 b39), .imm (.int .i64 b40), .imm (.int .i64 b41), .imm (.int .i64 b42), .imm (.int .i64 b43), .imm (.int .i64 b44), .imm (.int .i64 b45), .imm (.int .i64 b46), .imm (.int .i64 b47), .imm (.int .i64 b48), .imm (.int .i64 b49), .imm (.int .i64 b50), .imm (.int .i64 b51), .imm (.int .i64 b52), .imm (.int .i64 b53), .imm (.int .i64 b54), .imm (.int .i64 b55), .imm (.int .i64 b56), .imm (.int .i64 b57), .imm (.int .i64 b58), .imm (.int .i64 b59), .imm (.int .i64 b60), .imm (.int .i64 b61), .imm (.bool b62), .view (vw GRule.c b63)] := hyb
    obtain ⟨Cn, hCn⟩ : ∃ C, C = cnt b1 n := ⟨_, rfl⟩
    have hC2 : C = decide (Cn = 1) := by rw [hC, upOk, hkb, hCn]; simp [hu]
    obtain ⟨Vb1, hVb1⟩ : ∃ V, V = vw intC b1 := ⟨_, rfl⟩
    obtain ⟨Vb63, hVb63⟩ : ∃ V, V = vw GRule.c b63 := ⟨_, rfl⟩
    have lb1 := len_pos hVb1
    have pb1 : 0 ≤ lenI Vb1 := by omega
    have qb1 : lenI Vb1 ≤ 1048576 := by omega
    have hall : ∀ z : Int, lenI Vb1 ≤ z → psum (fun k => if k = n then 1 else 0) b1 z.toNat = Cn := fun z hz => by rw [hCn]; exact psum_all _ (by omega)
    rw [← hVb1, ← hVb63] at hyb
    cbv
    rw [eu]
    cbv
    (first | refine call0 hg (impl_node_a V a0 u1 hu2 hyb) rfl rfl ?_ | refine call0P hg (impl_node_a V a0 u1 hu2 hyb) rfl rfl ?_)
    cbv
    refine loop_run hg fits (by kernel_rfl) (fun s : Int × Int => [(1, .t (.c (.ptr 0 0 0))), (4, .t (.c (.ptr 1 0 0))), (5, .t (ai n)), (8, .t (ai s.2)), (16, .t (.c (.view V))), (17, .t (ai (g .ln V))), (18, .t (ai z)), (63, .t (.c (.view Vb1))), (64, .t (ai (g .ln Vb1))), (65, .t (ai s.1))]) (fun _ => [.bx 43 1 [.view V], .bx 106 64 [.imm (.int .i64 a0), .view Va1, .imm (.int .i64 a2), .imm (.int .i64 a3), .imm (.int .i64 a4), .imm (.int .i64 a5), .imm (.int .i64 a6), .imm (.int .i64 a7), .imm (.bool a8), .imm (.bool a9), .imm (.int .i64 a10), .imm (.int .i64 a11), .imm (.int .i64 a12), .imm (.int .i64 a13), .imm (.int .i64 a14), .imm (.int .i64 a15), .imm (.int .i64 a16), .imm (.int .i64 a17), .imm (.int .i64 a18), .imm (.int .i64 a19), .imm (.int .i64 a20), .imm (.int .i64 a21), .imm (.int .i64 a22), .imm (.int .i64 a23), .imm (.int .i64 a24), .imm (.int .i64 a25), .imm (.int .i64 a26), .imm (.int .i64 a27), .imm (.int .i64 a28), .imm (.int .i64 a29), .imm (.int .i64 a30), .imm (.int .i64 a31), .imm (.int .i64 a32), .imm (.int .i64 a33), .imm (.int .i64 a34), .imm (.int .i64 a35), .imm (.int .i64 a36), .imm (.int .i64 a37), .imm (.int .i64 a38), .imm (.int .i64 a39), .imm (.int .i64 a40), .imm (.int .i64 a41), .imm (.int .i64 a42), .imm (.int .i64 a43), .imm (.int .i64 a44), .imm (.int .i64 a45), .imm (.int .i64 a46), .imm (.int .i64 a47), .imm (.int .i64 a48), .imm (.int .i64 a49), .imm (.int .i64 a50), .imm (.int .i64 a51), .imm (.int .i64 a52), .imm (.int .i64 a53), .imm (.int .i64 a54), .imm (.int .i64 a55), .imm (.int .i64 a56), .imm (.int .i64 a57), .imm (.int .i64 a58), .imm (.int .i64 a59), .imm (.int .i64 a60), .imm (.int .i64 a61), .imm (.bool a62), .view Va63]]) (fun s => 0 ≤ s.1 ∧ s.1 ≤ lenI Vb1 ∧ 0 ≤ s.2 ∧ s.2 ≤ s.1 ∧ s.2 = psum (fun k => if k = n then 1 else 0) b1 s.1.toNat) (fun s => (lenI Vb1).toNat - s.1.toNat)
      (0, 0) [some 0, some 1] ⟨Int.le_refl 0, pb1, Int.le_refl 0, Int.le_refl 0, (psum_zero _ _).symm⟩ (wkS [0, 1] (by decide) ⟨⟨_, rfl, rfl, rfl⟩, ⟨_, rfl, rfl, rfl⟩, trivial⟩ ⟨rfl, rfl, rfl, rfl, rfl, rfl, rfl, rfl, rfl, rfl, trivial⟩) (fun s B3 hst3 hB3 => ?_)
    obtain ⟨i, d⟩ := s
    obtain ⟨q0, q1, q2, q3, q4⟩ := hst3
    simp only at q0 q1 q2 q3 q4
    cbv
    cases hq : g .q .lss i (g .ln Vb1)
    case true =>
      rw [goLss hg, goLn hg, decide_eq_true_eq] at hq
      cbv
      obtain ⟨y, hy⟩ := at_z (xs := b1) q0 (lt_viaN lb1 hq)
      have hyk : Vb1[i.toNat]? = some (lc (intC y)) := by rw [hVb1]; exact vw_at hy
      have hsu := psum_succ (fun k : Int => if k = n then (1 : Int) else 0) hy
      have e3 : g .w .add .i64 i 1 = i + 1 := by rw [goAdd hg, wrap_small _ (by omega)]
      refine goX hg _ q0 hyk rfl ?_
      cbv
      cases he : g .q .eql y n
      · have he' : y ≠ n := by rw [goEql hg] at he; simpa using he
        simp only [if_neg he'] at hsu
        cbv
        rw [e3]
        exact back hB3 (i + 1, d) [some 0, some 1] (wkS [0, 1] (by decide) ⟨⟨_, rfl, rfl, rfl⟩, ⟨_, rfl, rfl, rfl⟩, trivial⟩ ⟨rfl, rfl, rfl, rfl, rfl, rfl, rfl, rfl, rfl, rfl, trivial⟩) ⟨by simp only; omega, by simp only; omega, q2, by simp only; omega, by simp only; rw [show (i + 1).toNat = i.toNat + 1 by omega, hsu]; omega⟩ (by show (lenI Vb1).toNat - (i + 1).toNat < (lenI Vb1).toNat - i.toNat; omega)
      · have he' : y = n := by rw [goEql hg] at he; simpa using he
        simp only [if_pos he'] at hsu
        have e4 : g .w .add .i64 d 1 = d + 1 := by rw [goAdd hg, wrap_small _ (by omega)]
        cbv
        rw [e3, e4]
        exact back hB3 (i + 1, d + 1) [some 0, some 1] (wkS [0, 1] (by decide) ⟨⟨_, rfl, rfl, rfl⟩, ⟨_, rfl, rfl, rfl⟩, trivial⟩ ⟨rfl, rfl, rfl, rfl, rfl, rfl, rfl, rfl, rfl, rfl, trivial⟩) ⟨by simp only; omega, by simp only; omega, by simp only; omega, by simp only; omega, by simp only; rw [show (i + 1).toNat = i.toNat + 1 by omega, hsu]; omega⟩ (by show (lenI Vb1).toNat - (i + 1).toNat < (lenI Vb1).toNat - i.toNat; omega)
    rw [goLss hg, goLn hg, decide_eq_false_iff_not] at hq
    have hdC : d = Cn := by rw [q4, hall i (by omega)]
    subst hdC
    cbv
    cases hcn : g .q .neq d 1
    case true =>
      rw [goNeq hg, bne_iff_ne] at hcn
      have hCf : C = false := by rw [hC2]; simpa using hcn
      cbv
      exact fin0b hF (hno (by rw [hnode, hCf]; simp)).symm
    rw [goNeq hg, bne_eq_false_iff_eq] at hcn
    have hCt : C = true := by rw [hC2, hcn]; rfl
    cbv
    replace hnode : OK = E := by rw [hnode, hCt, hDt]; simp
    cases a62
    · replace hE2 : E = !(decide (0 < lenI Va63)) := by rw [hE2]; simp
      cbv
      cases ht : g .q .gtr (g .ln Va63) 0
      case true =>
        rw [goGtr hg, goLn hg, decide_eq_true_eq] at ht
        cbv
        exact fin0b hF (hno (by rw [hnode, hE2]; simpa using ht)).symm
      rw [goGtr hg, goLn hg, decide_eq_false_iff_not] at ht
      have hOKt : OK = true := by rw [hnode, hE2]; simpa using ht
      cbv
      rw [e1, hn]
      exact back hB (z + 1) [some 0] (wkS [0] (by decide) ⟨⟨_, rfl, rfl, rfl⟩, trivial⟩ ⟨rfl, rfl, rfl, rfl, trivial⟩) ⟨by omega, by omega, fun i y hi hy => h1' i y hi hy hOKt⟩ (by omega)
    · replace hE2 : E = !(!TK || decide (0 < lenI Va1)) := by rw [hE2]; simp
      cbv
      (first | refine call0 hg cT rfl rfl ?_ | refine call0P hg cT rfl rfl ?_)
      cases TK
      case false =>
        cbv
        exact fin0b hF (hno (by rw [hnode, hE2]; rfl)).symm
      cbv
      cases ht : g .q .gtr (g .ln Va1) 0
      case true =>
        rw [goGtr hg, goLn hg, decide_eq_true_eq] at ht
        cbv
        exact fin0b hF (hno (by rw [hnode, hE2]; simpa using ht)).symm
      rw [goGtr hg, goLn hg, decide_eq_false_iff_not] at ht
      have hOKt : OK = true := by rw [hnode, hE2]; simpa using ht
      cbv
      rw [e1, hn]
      exact back hB (z + 1) [some 0] (wkS [0] (by decide) ⟨⟨_, rfl, rfl, rfl⟩, trivial⟩ ⟨rfl, rfl, rfl, rfl, trivial⟩) ⟨by omega, by omega, fun i y hi hy => h1' i y hi hy hOKt⟩ (by omega)
set_option maxHeartbeats 16000000 in
theorem spec_TreeOk_a (ns : List NNode) (hl : ns.length ≤ 1048576) (hs : ∀ y ∈ ns, y.small) : PCon Tryz.prog 53 [.agg [.view (vwA NNode.ac ns)]] fun res rows => res = .t (abl (treeB ns)) ∧ rows = [] := by
  obtain ⟨V, hV⟩ : ∃ V, V = vwA NNode.ac ns := ⟨_, rfl⟩
  have hVx : lenI V = (ns.length : Int) := by rw [lenI_eq, hV, vwA_length]
  have hV0 : 0 ≤ lenI V := by omega
  have hV1 : lenI V ≤ 1048576 := by omega
  have hisN : ∀ n, isN ns n = rng n 1 (lenI V) := fun n => by rw [hVx]; rfl
  have cD := fun n => spec_DepthOf_a ns n hl
  obtain ⟨R, hR⟩ : ∃ R, R = treeB ns := ⟨_, rfl⟩
  rw [← hR]
  rw [← hV] at cD ⊢
  refine pcon_run (c := body Tryz.f53) fits Tryz.func53 (by kernel_rfl) (by kernel_rfl) (by rfl) (by kernel_rfl) fun g F hg hF => ?_
  cbv
  cases h12 : g .q .gtr (g .ln V) 12
  case true =>
    rw [goGtr hg, goLn hg, decide_eq_true_eq] at h12
    cbv
    exact fin0b hF (by rw [hR, tree_big hVx (by omega)])
  rw [goGtr hg, goLn hg, decide_eq_false_iff_not] at h12
  cbv
  refine loop_run hg fits (by kernel_rfl) (fun z : Int => [(1, .t (.c (.ptr 0 0 0))), (3, .t (ai z))]) (fun _ => [.bx 43 1 [.view V]]) (fun z => 0 ≤ z ∧ z ≤ lenI V ∧ ∀ (i : Nat) (x : NNode), i < z.toNat → ns[i]? = some x → nodeOk ns ((i : Int) + 1) x = true) (fun z => (lenI V).toNat - z.toNat)
    0 [some 0] ⟨Int.le_refl 0, hV0, fun i x hi => by simp at hi⟩ (wkS [0] (by decide) ⟨⟨_, rfl, rfl, rfl⟩, trivial⟩ ⟨rfl, rfl, trivial⟩) (fun z B hst hB => ?_)
  obtain ⟨h0, h1, h2⟩ := hst
  cbv
  cases hc : g .q .lss z (g .ln V)
  · rw [goLss hg, goLn hg, decide_eq_false_iff_not] at hc
    cbv
    exact fin0b hF (by rw [hR, tree_yes hVx (by omega) (by omega) h2])
  rw [goLss hg, goLn hg, decide_eq_true_eq] at hc
  cbv
  obtain ⟨x, hx⟩ := at_z (xs := ns) h0 (lt_viaN hVx hc)
  have hyy : V[z.toNat]? = some x.ac := by rw [hV]; exact vwA_at hx
  have hsx := hs x (List.mem_of_getElem? hx)
  have hno : nodeOk ns (z + 1) x = false → R = false := fun h => by rw [hR]; exact tree_no h0 hx h
  have hin := isN_of hVx h0 hc
  have hat := at_of hx
  obtain ⟨n, hn⟩ : ∃ n, n = z + 1 := ⟨_, rfl⟩
  rw [← hn] at hno hin hat
  obtain ⟨OK, hOK⟩ : ∃ OK, OK = nodeOk ns n x := ⟨_, rfl⟩
  have hnode := hOK
  rw [nodeOk] at hnode
  rw [← hOK] at hno
  obtain ⟨A, hA⟩ : ∃ A, A = stOk x.style := ⟨_, rfl⟩
  obtain ⟨Dp, hDp⟩ : ∃ D, D = depN ns n := ⟨_, rfl⟩
  obtain ⟨Bd, hBd⟩ : ∃ B, B = rng Dp 1 4 := ⟨_, rfl⟩
  obtain ⟨C, hC⟩ : ∃ C, C = upOk ns n x.up := ⟨_, rfl⟩
  obtain ⟨D, hD⟩ : ∃ D, D = x.kids.all (kidOk ns n) := ⟨_, rfl⟩
  obtain ⟨E, hE⟩ : ∃ E, E = tabE x := ⟨_, rfl⟩
  have hup : Bd = true → x.up ≠ 0 → isN ns x.up = true := fun hb hu => dep_up (by omega) hin hat (by rw [← hDp, ← hBd]; exact hb) hu
  rw [← hA, ← hDp, ← hBd, ← hC, ← hD, ← hE] at hnode
  have cA := spec_StyleOk_a x.style
  have cDn := cD n
  have cB := spec_l01In_r Dp 1 4
  have cT := spec_TableOk_a x.table.rules
  rw [← hA] at cA
  rw [← hDp] at cDn
  rw [← hBd] at cB
  have h1' : ∀ (i : Nat) (y : NNode), i < (z + 1).toNat → ns[i]? = some y → OK = true → nodeOk ns ((i : Int) + 1) y = true := fun i y hi hy hk => by
    by_cases hi2 : i < z.toNat
    · exact h2 i y hi2 hy
    · obtain rfl : i = z.toNat := by omega
      rw [hx] at hy
      cases hy
      rw [show ((z.toNat : Nat) : Int) + 1 = n by omega, ← hOK]; exact hk
  obtain ⟨a0, a1, ⟨a2, a3, a4, a5, a6, a7, a8, a9, a10, a11, a12, ⟨a13, a14⟩, ⟨a15, a16⟩, ⟨a17, a18⟩, ⟨a19, a20⟩, ⟨a21, a22⟩, ⟨a23, a24⟩, ⟨a25, a26⟩, a27, ⟨⟨a28, a29⟩, ⟨a30, a31⟩, ⟨a32, a33⟩, ⟨a34, a35⟩, ⟨a36, a37⟩, ⟨a38, a39⟩⟩, ⟨⟨a40, a41⟩, ⟨a42, a43⟩, ⟨a44, a45⟩, ⟨a46, a47⟩, ⟨a48, a49⟩, ⟨a50, a51⟩⟩, ⟨a52, a53, a54, a55⟩, ⟨a56, a57, a58, a59⟩, a60, a61⟩, a62, ⟨a63⟩⟩ := x
  obtain ⟨sa1, sa63, -⟩ := hsx
  replace cT := cT sa63
  simp only at hup hC hD hE cA cT
  replace hyy : V[z.toNat]? = some [.imm (.int .i64 a0), .view (vw intC a1), .imm (.int .i64 a2), .imm (.int .i64 a3), .imm (.int .i64 a4), .imm (.int .i64 a5), .imm (.int .i64 a6), .imm (.int .i64 a7), .imm (.bool a8), .imm (.bool a9), .imm (.int .i64 a10), .imm (.int .i64 a11), .imm (.int .i64 a12), .imm (.int .i64 a13), .imm (.int .i64 a14), .imm (.int .i64 a15), .imm (.int .i64 a16), .imm (.int .i64 a17), .imm (.int .i64 a18), .imm (.int .i64 a19), .imm (.int .i64 a20), .imm (.int .i64 a21), .imm (.int .i64 a22), .imm (.int .i64 a23), .imm (.int .i64 a24), .imm (.int .i64 a25), .imm (.int .i64 a26), .imm (.int .i64 a27), .imm (.int .i64 a28), .imm (.int .i64 a29), .imm (.int .i64 a30), .imm (.int .i64 a31), .imm (.int .i64 a32), .imm (.int .i64 a33), .imm (.int .i64 a34), .imm (.int .i64 a35), .imm (.int .i64 a36), .imm (.int .i64 a37), .imm (.int .i64 a38), .imm (.int .i64 a39), .imm (.int .i64 a40), .imm (.int .i64 a41), .imm (.int .i64 a42), .imm (.int .i64 a43), .imm (.int .i64 a44), .imm (.int .i64 a45), .imm (.int .i64 a46), .imm (.int .i64 a47), .imm (.int .i64 a48), .imm (.int .i64 a49), .imm (.int .i64 a50), .imm (.int .i64 a51), .imm (.int .i64 a52), .imm (.int .i64 a53), .imm (.int .i64 a54), .imm (.int .i64 a55), .imm (.int .i64 a56), .imm (.int .i64 a57), .imm (.int .i64 a58), .imm (.int .i64 a59), .imm (.int .i64 a60), .imm (.int .i64 a61), .imm (.bool a62), .view (vw GRule.c a63)] := hyy
  obtain ⟨TK, hTK⟩ : ∃ T, T = taOk a63 := ⟨_, rfl⟩
  rw [← hTK] at cT
  obtain ⟨Va1, hVa1⟩ : ∃ V, V = vw intC a1 := ⟨_, rfl⟩
  obtain ⟨Va63, hVa63⟩ : ∃ V, V = vw GRule.c a63 := ⟨_, rfl⟩
  have la1 := len_pos hVa1
  have la63 := len_pos hVa63
  have pa1 : 0 ≤ lenI Va1 := by omega
  have qa1 : lenI Va1 ≤ 1048576 := by omega
  rw [← hVa1, ← hVa63] at hyy
  rw [← hVa63] at cT
  have e1 : g .w .add .i64 z 1 = n := by rw [goAdd hg, wrap_small _ (by omega), hn]
  refine goX hg _ h0 hyy rfl ?_
  cbv
  (first | refine call0 hg cA rfl rfl ?_ | refine call0P hg cA rfl rfl ?_)
  cases A
  case false =>
    cbv
    exact fin0b hF (hno hnode).symm
  cbv
  rw [e1]
  (first | refine call0 hg cDn rfl rfl ?_ | refine call0P hg cDn rfl rfl ?_)
  cbv
  (first | refine call0 hg cB rfl rfl ?_ | refine call0P hg cB rfl rfl ?_)
  cases Bd
  case false =>
    cbv
    exact fin0b hF (hno (by rw [hnode]; rfl)).symm
  replace hup := hup rfl
  have hE2 : E = !((a62 && (!TK || decide (0 < lenI Va1))) || (!a62 && decide (0 < lenI Va63))) := by rw [hE, hTK, la1, la63]; rfl
  clear hE hTK
  by_cases hu : a0 = 0
  · have hCt : C = true := by rw [hC, upOk, hu]; rfl
    have eu : g .q .neq a0 0 = false := by rw [goNeq hg]; simpa using hu
    cbv
    rw [eu]
    cbv
    refine loop_run hg fits (by kernel_rfl) (fun j : Int => [(1, .t (.c (.ptr 0 0 0))), (3, .t (ai z)), (4, .t (.c (.ptr 1 0 0))), (5, .t (ai j))]) (fun _ => [.bx 43 1 [.view V], .bx 106 64 [.imm (.int .i64 a0), .view Va1, .imm (.int .i64 a2), .imm (.int .i64 a3), .imm (.int .i64 a4), .imm (.int .i64 a5), .imm (.int .i64 a6), .imm (.int .i64 a7), .imm (.bool a8), .imm (.bool a9), .imm (.int .i64 a10), .imm (.int .i64 a11), .imm (.int .i64 a12), .imm (.int .i64 a13), .imm (.int .i64 a14), .imm (.int .i64 a15), .imm (.int .i64 a16), .imm (.int .i64 a17), .imm (.int .i64 a18), .imm (.int .i64 a19), .imm (.int .i64 a20), .imm (.int .i64 a21), .imm (.int .i64 a22), .imm (.int .i64 a23), .imm (.int .i64 a24), .imm (.int .i64 a25), .imm (.int .i64 a26), .imm (.int .i64 a27), .imm (.int .i64 a28), .imm (.int .i64 a29), .imm (.int .i64 a30), .imm (.int .i64 a31), .imm (.int .i64 a32), .imm (.int .i64 a33), .imm (.int .i64 a34), .imm (.int .i64 a35), .imm (.int .i64 a36), .imm (.int .i64 a37), .imm (.int .i64 a38), .imm (.int .i64 a39), .imm (.int .i64 a40), .imm (.int .i64 a41), .imm (.int .i64 a42), .imm (.int .i64 a43), .imm (.int .i64 a44), .imm (.int .i64 a45), .imm (.int .i64 a46), .imm (.int .i64 a47), .imm (.int .i64 a48), .imm (.int .i64 a49), .imm (.int .i64 a50), .imm (.int .i64 a51), .imm (.int .i64 a52), .imm (.int .i64 a53), .imm (.int .i64 a54), .imm (.int .i64 a55), .imm (.int .i64 a56), .imm (.int .i64 a57), .imm (.int .i64 a58), .imm (.int .i64 a59), .imm (.int .i64 a60), .imm (.int .i64 a61), .imm (.bool a62), .view Va63]]) (fun j : Int => 0 ≤ j ∧ j ≤ lenI Va1 ∧ ∀ (i : Nat) (v : Int), i < j.toNat → a1[i]? = some v → kidOk ns n v = true) (fun j => (lenI Va1).toNat - j.toNat)
      0 [some 0, some 1] ⟨Int.le_refl 0, pa1, fun i v hi => by simp at hi⟩ (wkS [0, 1] (by decide) ⟨⟨_, rfl, rfl, rfl⟩, ⟨_, rfl, rfl, rfl⟩, trivial⟩ ⟨rfl, rfl, rfl, rfl, trivial⟩) (fun j B2 hst2 hB2 => ?_)
    obtain ⟨k0, k1, k2⟩ := hst2
    cbv
    cases hk : g .q .lss j (g .ln Va1)
    · rw [goLss hg, goLn hg, decide_eq_false_iff_not] at hk
      have hDt : D = true := by rw [hD]; exact kids_to la1 (by omega) k2
      replace hnode : OK = E := by rw [hnode, hCt, hDt]; simp
      cases a62
      · replace hE2 : E = !(decide (0 < lenI Va63)) := by rw [hE2]; simp
        cbv
        cases ht : g .q .gtr (g .ln Va63) 0
        case true =>
          rw [goGtr hg, goLn hg, decide_eq_true_eq] at ht
          cbv
          exact fin0b hF (hno (by rw [hnode, hE2]; simpa using ht)).symm
        rw [goGtr hg, goLn hg, decide_eq_false_iff_not] at ht
        have hOKt : OK = true := by rw [hnode, hE2]; simpa using ht
        cbv
        rw [e1, hn]
        exact back hB (z + 1) [some 0] (wkS [0] (by decide) ⟨⟨_, rfl, rfl, rfl⟩, trivial⟩ ⟨rfl, rfl, trivial⟩) ⟨by omega, by omega, fun i y hi hy => h1' i y hi hy hOKt⟩ (by omega)
      · replace hE2 : E = !(!TK || decide (0 < lenI Va1)) := by rw [hE2]; simp
        cbv
        (first | refine call0 hg cT rfl rfl ?_ | refine call0P hg cT rfl rfl ?_)
        cases TK
        case false =>
          cbv
          exact fin0b hF (hno (by rw [hnode, hE2]; rfl)).symm
        cbv
        cases ht : g .q .gtr (g .ln Va1) 0
        case true =>
          rw [goGtr hg, goLn hg, decide_eq_true_eq] at ht
          cbv
          exact fin0b hF (hno (by rw [hnode, hE2]; simpa using ht)).symm
        rw [goGtr hg, goLn hg, decide_eq_false_iff_not] at ht
        have hOKt : OK = true := by rw [hnode, hE2]; simpa using ht
        cbv
        rw [e1, hn]
        exact back hB (z + 1) [some 0] (wkS [0] (by decide) ⟨⟨_, rfl, rfl, rfl⟩, trivial⟩ ⟨rfl, rfl, trivial⟩) ⟨by omega, by omega, fun i y hi hy => h1' i y hi hy hOKt⟩ (by omega)
    rw [goLss hg, goLn hg, decide_eq_true_eq] at hk
    cbv
    obtain ⟨y, hy⟩ := at_z (xs := a1) k0 (lt_viaN la1 hk)
    have hyk : Va1[j.toNat]? = some (lc (intC y)) := by rw [hVa1]; exact vw_at hy
    have ci := spec_l10Is_a V y
    rw [← hisN y] at ci
    refine goX hg _ k0 hyk rfl ?_
    cbv
    cases hik : isN ns y
    · rw [hik] at ci
      have hDf : D = false := by rw [hD]; exact kids_no hy (by rw [kidOk, hik]; rfl)
      (first | refine call0 hg ci rfl rfl ?_ | refine call0P hg ci rfl rfl ?_)
      cbv
      exact fin0b hF (hno (by rw [hnode, hDf]; simp)).symm
    rw [hik] at ci
    (first | refine call0 hg ci rfl rfl ?_ | refine call0P hg ci rfl rfl ?_)
    obtain ⟨i1, i2, x, hxc⟩ := isN_at hik
    have hi2 : y ≤ 1048576 := Int.le_trans (le_viaN hVx i2) hV1
    have hyc : V[(y - 1).toNat]? = some x.ac := by rw [hV]; exact vwA_at hxc
    have hupc := upN_at hxc
    obtain ⟨c0, c1, ⟨c2, c3, c4, c5, c6, c7, c8, c9, c10, c11, c12, ⟨c13, c14⟩, ⟨c15, c16⟩, ⟨c17, c18⟩, ⟨c19, c20⟩, ⟨c21, c22⟩, ⟨c23, c24⟩, ⟨c25, c26⟩, c27, ⟨⟨c28, c29⟩, ⟨c30, c31⟩, ⟨c32, c33⟩, ⟨c34, c35⟩, ⟨c36, c37⟩, ⟨c38, c39⟩⟩, ⟨⟨c40, c41⟩, ⟨c42, c43⟩, ⟨c44, c45⟩, ⟨c46, c47⟩, ⟨c48, c49⟩, ⟨c50, c51⟩⟩, ⟨c52, c53, c54, c55⟩, ⟨c56, c57, c58, c59⟩, c60, c61⟩, c62, ⟨c63⟩⟩ := x
    simp only at hupc
    replace hyc : V[(y - 1).toNat]? = some [.imm (.int .i64 c0), .view (vw intC c1), .imm (.int .i64 c2), .imm (.int .i64 c3), .imm (.int .i64 c4), .imm (.int .i64 c5), .imm (.int .i64 c6), .imm (.int .i64 c7), .imm (.bool c8), .imm (.bool c9), .imm (.int .i64 c10), .imm (.int .i64 c11), .imm (.int .i64 c12), .imm (.int .i64 c13), .imm (.int .i64 c14), .imm (.int .i64 c15), .imm (.int .i64 c16), .imm (.int .i64 c17), .imm (.int .i64 c18), .imm (.int .i64 c19), .imm (.int .i64 c20), .imm (.int .i64 c21), .imm (.int .i64 c22), .imm (.int .i64 c23), .imm (.int .i64 c24), .imm (.int .i64 c25), .imm (.int .i64 c26), .imm (.int .i64 c27), .imm (.int .i64 c28), .imm (.int .i64 c29), .imm (.int .i64 c30), .imm (.int .i64 c31), .imm (.int .i64 c32), .imm (.int .i64 c33), .imm (.int .i64 c34), .imm (.int .i64 c35), .imm (.int .i64 c36), .imm (.int .i64 c37), .imm (.int .i64 c38), .imm (.int .i64 c39), .imm (.int .i64 c40), .imm (.int .i64 c41), .imm (.int .i64 c42), .imm (.int .i64 c43), .imm (.int .i64 c44), .imm (.int .i64 c45), .imm (.int .i64 c46), .imm (.int .i64 c47), .imm (.int .i64 c48), .imm (.int .i64 c49), .imm (.int .i64 c50), .imm (.int .i64 c51), .imm (.int .i64 c52), .imm (.int .i64 c53), .imm (.int .i64 c54), .imm (.int .i64 c55), .imm (.int .i64 c56), .imm (.int .i64 c57), .imm (.int .i64 c58), .imm (.int .i64 c59), .imm (.int .i64 c60), .imm (.int .i64 c61), .imm (.bool c62), .view (vw GRule.c c63)] := hyc
    obtain ⟨Vc1, hVc1⟩ : ∃ V, V = vw intC c1 := ⟨_, rfl⟩
    obtain ⟨Vc63, hVc63⟩ : ∃ V, V = vw GRule.c c63 := ⟨_, rfl⟩
    rw [← hVc1, ← hVc63] at hyc
    cbv
    refine goX hg _ k0 hyk rfl ?_
    cbv
    (first | refine call0 hg (spec_l10Node_a V y i1 hi2 hyc) rfl rfl ?_ | refine call0P hg (spec_l10Node_a V y i1 hi2 hyc) rfl rfl ?_)
    cbv
    rw [e1]
    cases hq : g .q .neq c0 n
    case true =>
      rw [goNeq hg, bne_iff_ne] at hq
      have hDf : D = false := by rw [hD]; exact kids_no hy (by rw [kidOk, hik, hupc]; simpa using hq)
      cbv
      exact fin0b hF (hno (by rw [hnode, hDf]; simp)).symm
    rw [goNeq hg, bne_eq_false_iff_eq] at hq
    have hkok : kidOk ns n y = true := by rw [kidOk, hik, hupc]; simpa using hq
    cbv
    have e3 : g .w .add .i64 j 1 = j + 1 := by rw [goAdd hg, wrap_small _ (by omega)]
    rw [e3]
    exact back hB2 (j + 1) [some 0, some 1] (wkS [0, 1] (by decide) ⟨⟨_, rfl, rfl, rfl⟩, ⟨_, rfl, rfl, rfl⟩, trivial⟩ ⟨rfl, rfl, rfl, rfl, trivial⟩) ⟨by omega, by omega, fun i v hi hv => by
      by_cases hi2 : i < j.toNat
      · exact k2 i v hi2 hv
      · obtain rfl : i = j.toNat := by omega
        rw [hy] at hv
        cases hv
        exact hkok⟩ (by omega)
  · have eu : g .q .neq a0 0 = true := by rw [goNeq hg]; simpa using hu
    have hiu := hup hu
    obtain ⟨u1, u2, xb, hxb⟩ := isN_at hiu
    have hu2 : a0 ≤ 1048576 := Int.le_trans (le_viaN hVx u2) hV1
    have hyb : V[(a0 - 1).toNat]? = some xb.ac := by rw [hV]; exact vwA_at hxb
    have hkb : kidsN ns a0 = xb.kids := by unfold kidsN; rw [hxb]
    have hsb := (hs xb (List.mem_of_getElem? hxb))
    obtain ⟨b0, b1, ⟨b2, b3, b4, b5, b6, b7, b8, b9, b10, b11, b12, ⟨b13, b14⟩, ⟨b15, b16⟩, ⟨b17, b18⟩, ⟨b19, b20⟩, ⟨b21, b22⟩, ⟨b23, b24⟩, ⟨b25, b26⟩, b27, ⟨⟨b28, b29⟩, ⟨b30, b31⟩, ⟨b32, b33⟩, ⟨b34, b35⟩, ⟨b36, b37⟩, ⟨b38, b39⟩⟩, ⟨⟨b40, b41⟩, ⟨b42, b43⟩, ⟨b44, b45⟩, ⟨b46, b47⟩, ⟨b48, b49⟩, ⟨b50, b51⟩⟩, ⟨b52, b53, b54, b55⟩, ⟨b56, b57, b58, b59⟩, b60, b61⟩, b62, ⟨b63⟩⟩ := xb
    obtain ⟨sb1, sb63, -⟩ := hsb
    simp only at hkb
    replace hyb : V[(a0 - 1).toNat]? = some [.imm (.int .i64 b0), .view (vw intC b1), .imm (.int .i64 b2), .imm (.int .i64 b3), .imm (.int .i64 b4), .imm (.int .i64 b5), .imm (.int .i64 b6), .imm (.int .i64 b7), .imm (.bool b8), .imm (.bool b9), .imm (.int .i64 b10), .imm (.int .i64 b11), .imm (.int .i64 b12), .imm (.int .i64 b13), .imm (.int .i64 b14), .imm (.int .i64 b15), .imm (.int .i64 b16), .imm (.int .i64 b17), .imm (.int .i64 b18), .imm (.int .i64 b19), .imm (.int .i64 b20), .imm (.int .i64 b21), .imm (.int .i64 b22), .imm (.int .i64 b23), .imm (.int .i64 b24), .imm (.int .i64 b25), .imm (.int .i64 b26), .imm (.int .i64 b27), .imm (.int .i64 b28), .imm (.int .i64 b29), .imm (.int .i64 b30), .imm (.int .i64 b31), .imm (.int .i64 b32), .imm (.int .i64 b33), .imm (.int .i64 b34), .imm (.int .i64 b35), .imm (.int .i64 b36), .imm (.int .i64 b37), .imm (.int .i64 b38), .imm (.int .i64 b39), .imm (.int .i64 b40), .imm (.int .i64 b41), .imm (.int .i64 b42), .imm (.int .i64 b43), .imm (.int .i64 b44), .imm (.int .i64 b45), .imm (.int .i64 b46), .imm (.int .i64 b47), .imm (.int .i64 b48), .imm (.int .i64 b49), .imm (.int .i64 b50), .imm (.int .i64 b51), .imm (.int .i64 b52), .imm (.int .i64 b53), .imm (.int .i64 b54), .imm (.int .i64 b55), .imm (.int .i64 b56), .imm (.int .i64 b57), .imm (.int .i64 b58), .imm (.int .i64 b59), .imm (.int .i64 b60), .imm (.int .i64 b61), .imm (.bool b62), .view (vw GRule.c b63)] := hyb
    have cH := spec_l10Has_a b1 n sb1
    obtain ⟨Cn, hCn⟩ : ∃ C, C = cnt b1 n := ⟨_, rfl⟩
    have hC2 : C = decide (Cn = 1) := by rw [hC, upOk, hkb, hCn]; simp [hu]
    rw [← hCn] at cH
    obtain ⟨Vb1, hVb1⟩ : ∃ V, V = vw intC b1 := ⟨_, rfl⟩
    obtain ⟨Vb63, hVb63⟩ : ∃ V, V = vw GRule.c b63 := ⟨_, rfl⟩
    rw [← hVb1, ← hVb63] at hyb
    rw [← hVb1] at cH
    cbv
    rw [eu]
    cbv
    (first | refine call0 hg (spec_l10Node_a V a0 u1 hu2 hyb) rfl rfl ?_ | refine call0P hg (spec_l10Node_a V a0 u1 hu2 hyb) rfl rfl ?_)
    cbv
    rw [e1]
    (first | refine call0 hg cH rfl rfl ?_ | refine call0P hg cH rfl rfl ?_)
    cbv
    cases hcn : g .q .neq Cn 1
    case true =>
      rw [goNeq hg, bne_iff_ne] at hcn
      have hCf : C = false := by rw [hC2]; simpa using hcn
      cbv
      exact fin0b hF (hno (by rw [hnode, hCf]; simp)).symm
    rw [goNeq hg, bne_eq_false_iff_eq] at hcn
    have hCt : C = true := by rw [hC2, hcn]; rfl
    cbv
    refine loop_run hg fits (by kernel_rfl) (fun j : Int => [(1, .t (.c (.ptr 0 0 0))), (3, .t (ai z)), (4, .t (.c (.ptr 1 0 0))), (5, .t (ai j))]) (fun _ => [.bx 43 1 [.view V], .bx 106 64 [.imm (.int .i64 a0), .view Va1, .imm (.int .i64 a2), .imm (.int .i64 a3), .imm (.int .i64 a4), .imm (.int .i64 a5), .imm (.int .i64 a6), .imm (.int .i64 a7), .imm (.bool a8), .imm (.bool a9), .imm (.int .i64 a10), .imm (.int .i64 a11), .imm (.int .i64 a12), .imm (.int .i64 a13), .imm (.int .i64 a14), .imm (.int .i64 a15), .imm (.int .i64 a16), .imm (.int .i64 a17), .imm (.int .i64 a18), .imm (.int .i64 a19), .imm (.int .i64 a20), .imm (.int .i64 a21), .imm (.int .i64 a22), .imm (.int .i64 a23), .imm (.int .i64 a24), .imm (.int .i64 a25), .imm (.int .i64 a26), .imm (.int .i64 a27), .imm (.int .i64 a28), .imm (.int .i64 a29), .imm (.int .i64 a30), .imm (.int .i64 a31), .imm (.int .i64 a32), .imm (.int .i64 a33), .imm (.int .i64 a34), .imm (.int .i64 a35), .imm (.int .i64 a36), .imm (.int .i64 a37), .imm (.int .i64 a38), .imm (.int .i64 a39), .imm (.int .i64 a40), .imm (.int .i64 a41), .imm (.int .i64 a42), .imm (.int .i64 a43), .imm (.int .i64 a44), .imm (.int .i64 a45), .imm (.int .i64 a46), .imm (.int .i64 a47), .imm (.int .i64 a48), .imm (.int .i64 a49), .imm (.int .i64 a50), .imm (.int .i64 a51), .imm (.int .i64 a52), .imm (.int .i64 a53), .imm (.int .i64 a54), .imm (.int .i64 a55), .imm (.int .i64 a56), .imm (.int .i64 a57), .imm (.int .i64 a58), .imm (.int .i64 a59), .imm (.int .i64 a60), .imm (.int .i64 a61), .imm (.bool a62), .view Va63]]) (fun j : Int => 0 ≤ j ∧ j ≤ lenI Va1 ∧ ∀ (i : Nat) (v : Int), i < j.toNat → a1[i]? = some v → kidOk ns n v = true) (fun j => (lenI Va1).toNat - j.toNat)
      0 [some 0, some 1] ⟨Int.le_refl 0, pa1, fun i v hi => by simp at hi⟩ (wkS [0, 1] (by decide) ⟨⟨_, rfl, rfl, rfl⟩, ⟨_, rfl, rfl, rfl⟩, trivial⟩ ⟨rfl, rfl, rfl, rfl, trivial⟩) (fun j B2 hst2 hB2 => ?_)
    obtain ⟨k0, k1, k2⟩ := hst2
    cbv
    cases hk : g .q .lss j (g .ln Va1)
    · rw [goLss hg, goLn hg, decide_eq_false_iff_not] at hk
      have hDt : D = true := by rw [hD]; exact kids_to la1 (by omega) k2
      replace hnode : OK = E := by rw [hnode, hCt, hDt]; simp
      cases a62
      · replace hE2 : E = !(decide (0 < lenI Va63)) := by rw [hE2]; simp
        cbv
        cases ht : g .q .gtr (g .ln Va63) 0
        case true =>
          rw [goGtr hg, goLn hg, decide_eq_true_eq] at ht
          cbv
          exact fin0b hF (hno (by rw [hnode, hE2]; simpa using ht)).symm
        rw [goGtr hg, goLn hg, decide_eq_false_iff_not] at ht
        have hOKt : OK = true := by rw [hnode, hE2]; simpa using ht
        cbv
        rw [e1, hn]
        exact back hB (z + 1) [some 0] (wkS [0] (by decide) ⟨⟨_, rfl, rfl, rfl⟩, trivial⟩ ⟨rfl, rfl, trivial⟩) ⟨by omega, by omega, fun i y hi hy => h1' i y hi hy hOKt⟩ (by omega)
      · replace hE2 : E = !(!TK || decide (0 < lenI Va1)) := by rw [hE2]; simp
        cbv
        (first | refine call0 hg cT rfl rfl ?_ | refine call0P hg cT rfl rfl ?_)
        cases TK
        case false =>
          cbv
          exact fin0b hF (hno (by rw [hnode, hE2]; rfl)).symm
        cbv
        cases ht : g .q .gtr (g .ln Va1) 0
        case true =>
          rw [goGtr hg, goLn hg, decide_eq_true_eq] at ht
          cbv
          exact fin0b hF (hno (by rw [hnode, hE2]; simpa using ht)).symm
        rw [goGtr hg, goLn hg, decide_eq_false_iff_not] at ht
        have hOKt : OK = true := by rw [hnode, hE2]; simpa using ht
        cbv
        rw [e1, hn]
        exact back hB (z + 1) [some 0] (wkS [0] (by decide) ⟨⟨_, rfl, rfl, rfl⟩, trivial⟩ ⟨rfl, rfl, trivial⟩) ⟨by omega, by omega, fun i y hi hy => h1' i y hi hy hOKt⟩ (by omega)
    rw [goLss hg, goLn hg, decide_eq_true_eq] at hk
    cbv
    obtain ⟨y, hy⟩ := at_z (xs := a1) k0 (lt_viaN la1 hk)
    have hyk : Va1[j.toNat]? = some (lc (intC y)) := by rw [hVa1]; exact vw_at hy
    have ci := spec_l10Is_a V y
    rw [← hisN y] at ci
    refine goX hg _ k0 hyk rfl ?_
    cbv
    cases hik : isN ns y
    · rw [hik] at ci
      have hDf : D = false := by rw [hD]; exact kids_no hy (by rw [kidOk, hik]; rfl)
      (first | refine call0 hg ci rfl rfl ?_ | refine call0P hg ci rfl rfl ?_)
      cbv
      exact fin0b hF (hno (by rw [hnode, hDf]; simp)).symm
    rw [hik] at ci
    (first | refine call0 hg ci rfl rfl ?_ | refine call0P hg ci rfl rfl ?_)
    obtain ⟨i1, i2, x, hxc⟩ := isN_at hik
    have hi2 : y ≤ 1048576 := Int.le_trans (le_viaN hVx i2) hV1
    have hyc : V[(y - 1).toNat]? = some x.ac := by rw [hV]; exact vwA_at hxc
    have hupc := upN_at hxc
    obtain ⟨c0, c1, ⟨c2, c3, c4, c5, c6, c7, c8, c9, c10, c11, c12, ⟨c13, c14⟩, ⟨c15, c16⟩, ⟨c17, c18⟩, ⟨c19, c20⟩, ⟨c21, c22⟩, ⟨c23, c24⟩, ⟨c25, c26⟩, c27, ⟨⟨c28, c29⟩, ⟨c30, c31⟩, ⟨c32, c33⟩, ⟨c34, c35⟩, ⟨c36, c37⟩, ⟨c38, c39⟩⟩, ⟨⟨c40, c41⟩, ⟨c42, c43⟩, ⟨c44, c45⟩, ⟨c46, c47⟩, ⟨c48, c49⟩, ⟨c50, c51⟩⟩, ⟨c52, c53, c54, c55⟩, ⟨c56, c57, c58, c59⟩, c60, c61⟩, c62, ⟨c63⟩⟩ := x
    simp only at hupc
    replace hyc : V[(y - 1).toNat]? = some [.imm (.int .i64 c0), .view (vw intC c1), .imm (.int .i64 c2), .imm (.int .i64 c3), .imm (.int .i64 c4), .imm (.int .i64 c5), .imm (.int .i64 c6), .imm (.int .i64 c7), .imm (.bool c8), .imm (.bool c9), .imm (.int .i64 c10), .imm (.int .i64 c11), .imm (.int .i64 c12), .imm (.int .i64 c13), .imm (.int .i64 c14), .imm (.int .i64 c15), .imm (.int .i64 c16), .imm (.int .i64 c17), .imm (.int .i64 c18), .imm (.int .i64 c19), .imm (.int .i64 c20), .imm (.int .i64 c21), .imm (.int .i64 c22), .imm (.int .i64 c23), .imm (.int .i64 c24), .imm (.int .i64 c25), .imm (.int .i64 c26), .imm (.int .i64 c27), .imm (.int .i64 c28), .imm (.int .i64 c29), .imm (.int .i64 c30), .imm (.int .i64 c31), .imm (.int .i64 c32), .imm (.int .i64 c33), .imm (.int .i64 c34), .imm (.int .i64 c35), .imm (.int .i64 c36), .imm (.int .i64 c37), .imm (.int .i64 c38), .imm (.int .i64 c39), .imm (.int .i64 c40), .imm (.int .i64 c41), .imm (.int .i64 c42), .imm (.int .i64 c43), .imm (.int .i64 c44), .imm (.int .i64 c45), .imm (.int .i64 c46), .imm (.int .i64 c47), .imm (.int .i64 c48), .imm (.int .i64 c49), .imm (.int .i64 c50), .imm (.int .i64 c51), .imm (.int .i64 c52), .imm (.int .i64 c53), .imm (.int .i64 c54), .imm (.int .i64 c55), .imm (.int .i64 c56), .imm (.int .i64 c57), .imm (.int .i64 c58), .imm (.int .i64 c59), .imm (.int .i64 c60), .imm (.int .i64 c61), .imm (.bool c62), .view (vw GRule.c c63)] := hyc
    obtain ⟨Vc1, hVc1⟩ : ∃ V, V = vw intC c1 := ⟨_, rfl⟩
    obtain ⟨Vc63, hVc63⟩ : ∃ V, V = vw GRule.c c63 := ⟨_, rfl⟩
    rw [← hVc1, ← hVc63] at hyc
    cbv
    refine goX hg _ k0 hyk rfl ?_
    cbv
    (first | refine call0 hg (spec_l10Node_a V y i1 hi2 hyc) rfl rfl ?_ | refine call0P hg (spec_l10Node_a V y i1 hi2 hyc) rfl rfl ?_)
    cbv
    rw [e1]
    cases hq : g .q .neq c0 n
    case true =>
      rw [goNeq hg, bne_iff_ne] at hq
      have hDf : D = false := by rw [hD]; exact kids_no hy (by rw [kidOk, hik, hupc]; simpa using hq)
      cbv
      exact fin0b hF (hno (by rw [hnode, hDf]; simp)).symm
    rw [goNeq hg, bne_eq_false_iff_eq] at hq
    have hkok : kidOk ns n y = true := by rw [kidOk, hik, hupc]; simpa using hq
    cbv
    have e3 : g .w .add .i64 j 1 = j + 1 := by rw [goAdd hg, wrap_small _ (by omega)]
    rw [e3]
    exact back hB2 (j + 1) [some 0, some 1] (wkS [0, 1] (by decide) ⟨⟨_, rfl, rfl, rfl⟩, ⟨_, rfl, rfl, rfl⟩, trivial⟩ ⟨rfl, rfl, rfl, rfl, trivial⟩) ⟨by omega, by omega, fun i v hi hv => by
      by_cases hi2 : i < j.toNat
      · exact k2 i v hi2 hv
      · obtain rfl : i = j.toNat := by omega
        rw [hy] at hv
        cases hv
        exact hkok⟩ (by omega)
end Go.Proofs.YtenbloaopcfdlaaGreat
