/- Marks on nested data. -/
import Derived.Test.YtenbloaopcfdlaaT1
import Derived.Test.YtenbloaopcfdlaaC8
import Derived.Test.YtenbloaopcfdlaaAmAO
namespace Go.Proofs.Ytenbloaopcfdlaa
open Go.ChangeShapes Go.WideShapes Go.ChangeAt Go.RowKit Am
set_option linter.unusedVariables false
set_option linter.unusedSimpArgs false
set_option maxRecDepth 100000

def m3 (k : Int) : Bool := k.tmod 3 == 0
theorem set_same {E : List (List AC)} {j : Nat} {y : List AC} (h : E[j]? = some y) : E.set j y = E := by
  refine List.ext_getElem? fun i => ?_
  rw [List.getElem?_set]
  by_cases hi : j = i
  · subst hi; rw [if_pos rfl, if_pos (List.getElem?_eq_some_iff.1 h).1, h]
  · rw [if_neg hi]
theorem plain_set {E : List (List AC)} {j : Nat} {y : List AC} (h : plainE E = true) (hy : y.all plain = true) : plainE (E.set j y) = true := by
  rw [plainE, List.all_eq_true] at h ⊢
  intro x hx
  rcases List.mem_or_eq_of_mem_set hx with hx | rfl
  · exact h x hx
  · exact hy
theorem set_step {E E1 E2 : List (List AC)} {j : Nat} {x y : List AC} (h : E2 = E1.set j x) (hs : E1 = E.set j y) (hl : j < E.length) : E2 = E.set j x ∧ E2[j]? = some x ∧ j < E2.length := by
  rw [hs, List.set_set] at h
  subst h
  exact ⟨rfl, List.getElem?_set_self hl, by rw [List.length_set]; exact hl⟩
theorem st_step {P : Program} {n0 N : Nat} {β : BP} {g : Gd} (hg : g = G0 P n0 N) {E E1 E2 : List (List AC)} {j : Nat} {x y : List AC} (h : g .st E1 j x = E2) (hs : E1 = E.set j y) (hl : j < E.length) : E2 = E.set j x ∧ E2[j]? = some x ∧ j < E2.length := by
  rw [goSt hg, hs, List.set_set] at h
  subst h
  exact ⟨rfl, List.getElem?_set_self hl, by rw [List.length_set]; exact hl⟩
theorem q_bnd {a b c C M : Int} (h0 : 0 ≤ a) (hM : a + C ≤ M) (hq : b = a + c) (h1 : 0 ≤ c) (h2 : c ≤ C) : 0 ≤ b ∧ b ≤ M := by constructor <;> omega
theorem q_add {P : Program} {n0 N : Nat} {β : BP} {g : Gd} (hg : g = G0 P n0 N) {a b d c e C : Int} (h0 : 0 ≤ a) (hM : a + C ≤ 1152921504606846976) (hb : b = a + c) (hd : d = a + e) (he : e = c + 1) (h1 : 0 ≤ c) (h2 : c ≤ C) : g .w .add .i64 b 1 = d := by
  rw [goAdd hg, wrap_small _ (by omega)]; omega
set_option maxHeartbeats 1600000 in
theorem laws_markFrameS_0 (k0 : Int) : PCon Try.prog 25 [.c (.view []), ai k0] fun res rows => res = .t (ai k0) ∧ rows = [] := by
  refine pcon_run4 ([]) ([]) (c := body Try.f25) fits Try.func25 (by kernel_rfl) (by kernel_rfl) (by rfl) (by kernel_rfl) fun g eff hd F heff hhd hg hF => ?_
  cbv
  refine loop_runW4 [] [] heff hhd hg fits (by kernel_rfl) (fun _ : Unit => [(0, .t (.c (.view []))), (1, .t (ai k0)), (5, .t (ai 0))]) (fun _ => []) (fun _ => True) (fun _ => 0) () trivial (Wk.weak (wk0 ⟨rfl, rfl, rfl, trivial⟩)) (fun s B _ hB => ?_)
  cbv
  have e : g .q .lss 0 (g .ln []) = false := by rw [goLss hg, goLn hg]; rfl
  rw [e]
  cbv
  exact fin0i hF rfl
theorem laws_markFrameS_n (k0 : Int) (bs : List Nat) (V : List (List AC)) (hl : V.length ≤ 1048576) (hk : ∀ y ∈ V, y.length = 5) (hi : immE V = true) (hnd : bs.Nodup) (hk0 : 0 ≤ k0) (hk1 : k0 ≤ 1152921504606846976) :
    MCon Try.prog 25 [.c (.fv bs V), ai k0] [(bs, V, vw GFrame.c (marksFrame k0 V.length))] (.int .i64 (k0 + 5 * (V.length : Int))) := by
  by_cases hne : V = []
  · subst hne
    have : k0 + 5 * (([] : List (List AC)).length : Int) = k0 := by simp
    rw [this]
    exact mcon_nil (laws_markFrameS_0 k0)
  · rw [← lenI_eq]
    exact mcon_flat (by kernel_rfl) hne hk hi (vw_imm _ _) hnd (by rw [vw_length]; simp [marksFrame]) fun ty => laws_markFrameS_a k0 V hk (imm_plainE hi) hl hk0 hk1 ty
set_option maxHeartbeats 1600000 in
theorem laws_markIntS_0 (k0 : Int) : PCon Try.prog 78 [.c (.view []), ai k0] fun res rows => res = .t (ai k0) ∧ rows = [] := by
  refine pcon_run4 ([]) ([]) (c := body Try.f78) fits Try.func78 (by kernel_rfl) (by kernel_rfl) (by rfl) (by kernel_rfl) fun g eff hd F heff hhd hg hF => ?_
  cbv
  refine loop_runW4 [] [] heff hhd hg fits (by kernel_rfl) (fun _ : Unit => [(0, .t (.c (.view []))), (1, .t (ai k0)), (5, .t (ai 0))]) (fun _ => []) (fun _ => True) (fun _ => 0) () trivial (Wk.weak (wk0 ⟨rfl, rfl, rfl, trivial⟩)) (fun s B _ hB => ?_)
  cbv
  have e : g .q .lss 0 (g .ln []) = false := by rw [goLss hg, goLn hg]; rfl
  rw [e]
  cbv
  exact fin0i hF rfl
theorem laws_markIntS_n (k0 : Int) (bs : List Nat) (V : List (List AC)) (hl : V.length ≤ 1048576) (hk : ∀ y ∈ V, y.length = 1) (hi : immE V = true) (hnd : bs.Nodup) (hk0 : 0 ≤ k0) (hk1 : k0 ≤ 1152921504606846976) :
    MCon Try.prog 78 [.c (.fv bs V), ai k0] [(bs, V, vw intC (marksInt k0 V.length))] (.int .i64 (k0 + 1 * (V.length : Int))) := by
  by_cases hne : V = []
  · subst hne
    have : k0 + 1 * (([] : List (List AC)).length : Int) = k0 := by simp
    rw [this]
    exact mcon_nil (laws_markIntS_0 k0)
  · rw [← lenI_eq]
    exact mcon_flat (by kernel_rfl) hne hk hi (vw_imm _ _) hnd (by rw [vw_length]; simp [marksInt]) fun ty => laws_markIntS_a k0 V hk (imm_plainE hi) hl hk0 hk1 ty
set_option maxHeartbeats 1600000 in
theorem laws_markRuleS_0 (k0 : Int) : PCon Try.prog 79 [.c (.view []), ai k0] fun res rows => res = .t (ai k0) ∧ rows = [] := by
  refine pcon_run4 ([]) ([]) (c := body Try.f79) fits Try.func79 (by kernel_rfl) (by kernel_rfl) (by rfl) (by kernel_rfl) fun g eff hd F heff hhd hg hF => ?_
  cbv
  refine loop_runW4 [] [] heff hhd hg fits (by kernel_rfl) (fun _ : Unit => [(0, .t (.c (.view []))), (1, .t (ai k0)), (5, .t (ai 0))]) (fun _ => []) (fun _ => True) (fun _ => 0) () trivial (Wk.weak (wk0 ⟨rfl, rfl, rfl, trivial⟩)) (fun s B _ hB => ?_)
  cbv
  have e : g .q .lss 0 (g .ln []) = false := by rw [goLss hg, goLn hg]; rfl
  rw [e]
  cbv
  exact fin0i hF rfl
theorem laws_markRuleS_n (k0 : Int) (bs : List Nat) (V : List (List AC)) (hl : V.length ≤ 1048576) (hk : ∀ y ∈ V, y.length = 3) (hi : immE V = true) (hnd : bs.Nodup) (hk0 : 0 ≤ k0) (hk1 : k0 ≤ 1152921504606846976) :
    MCon Try.prog 79 [.c (.fv bs V), ai k0] [(bs, V, vw GRule.c (marksRule k0 V.length))] (.int .i64 (k0 + 3 * (V.length : Int))) := by
  by_cases hne : V = []
  · subst hne
    have : k0 + 3 * (([] : List (List AC)).length : Int) = k0 := by simp
    rw [this]
    exact mcon_nil (laws_markRuleS_0 k0)
  · rw [← lenI_eq]
    exact mcon_flat (by kernel_rfl) hne hk hi (vw_imm _ _) hnd (by rw [vw_length]; simp [marksRule]) fun ty => laws_markRuleS_a k0 V hk (imm_plainE hi) hl hk0 hk1 ty

end Go.Proofs.Ytenbloaopcfdlaa
