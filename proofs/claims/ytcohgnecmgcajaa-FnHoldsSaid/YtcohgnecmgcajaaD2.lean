/- Draws: picks out of a list, frames, lists of frames and of places. -/
import Derived.Test.YtcohgnecmgcajaaD1
import Derived.Test.YtcohgnecmgcajaaC7
namespace Go.Proofs.Ytcohgnecmgcajaa
open Go.ChangeShapes Go.WideShapes Go.ChangeAt Go.RowKit Am
set_option linter.unusedVariables false
set_option linter.unusedSimpArgs false
set_option maxRecDepth 100000
theorem vw_snocD {α : Type} (c : α → Array Value) (xs : List α) (x : α) : vw c (xs ++ [x]) = vw c xs ++ [lc (c x)] := by simp [vw]
theorem set_same {α : Type} {H : List α} {q : Nat} {y : α} (h : H[q]? = some y) : H.set q y = H := by
  refine List.ext_getElem? fun j => ?_
  rw [List.getElem?_set]
  split
  · rename_i hj; subst hj
    split
    · exact h.symm
    · rename_i hn; rw [List.getElem?_eq_none (by omega)] at h; cases h
  · rfl
section
variable {n0 N : Nat} {g : Gd}
/-- The end of a function that was told of the cursor and of one row. -/
theorem finCuR {F : List AT → EH → Prop} {Post : AV → AH → Prop} {xs : List AT} {eh : EH} {t k : Nat} {c : List AC} {ab : AB} (hF : F = FinP 2 Post) (h0 : nth eh 0 = some (.bx t k c)) (h1 : nth eh 1 = some (.rw ab)) (hc : c.all plain = true) (hp : plainE ab.es = true) (hx : plainV (mkV xs) = true) (hpost : Post (mkV xs) (toH [.bx t k c, .rw ab])) : F xs eh := by
  subst hF
  exact .inl ⟨mkV xs, toH [.bx t k c, .rw ab], [some 0, some 1], wkG [some 0, some 1] ⟨rnV_plain hx, trivial⟩ ⟨⟨_, _, nth_bx h0, rfl, rfl, rfl, .inl ⟨rfl, by simpa [plainE] using hc⟩⟩, ⟨_, _, nth_rw h1, rfl, rfl, rfl, .inl ⟨rfl, hp⟩⟩, trivial⟩ (by decide) (by decide), hpost⟩
theorem finOI {F : List AT → EH → Prop} {Post : AV → List AB → Prop} {eh : EH} {u : Value} {r : Nat} {ab : AB} (hF : F = FinP 0 (fun res h' => ∃ rows, h' = rows.map .live ∧ Post res rows)) (h1 : nth eh r = some (.rw ab)) (hp : plainE ab.es = true) (hpost : Post (.tup [.c (.own 0), .c (.imm u)]) [ab]) : F [.c (.own r), .c (.imm u)] eh := by
  subst hF
  exact .inl ⟨.tup [.c (.own 0), .c (.imm u)], toH [.rw ab], [some r], wkG [some r] ⟨⟨rfl, rfl, trivial⟩, trivial⟩ ⟨⟨_, _, nth_rw h1, rfl, rfl, rfl, .inl ⟨rfl, hp⟩⟩, trivial⟩ (by simp) no_lt, _, rfl, hpost⟩
theorem callPick (hg : g = G0 Try.prog n0 N) {H : EH} (r q : Nat) {f : FuncId} {tc ti : Nat} {V : List (List AC)} {i h : Int} {ls : List Int} {K : AV → EH → Prop}
    (hc : Con Try.prog f (toH [.bx tc 3 (Cur V i h), .rw ⟨ti, 1, vw intC ls⟩]) [.c (.ptr 0 0 0), .c (.own 1)] fun res h' => ∃ eh, toH eh = h' ∧ ∃ i' k' v, 0 ≤ i' ∧ eh = [.bx tc 3 (Cur V i' k'), .rw ⟨ti, 1, vw intC ls⟩] ∧ res = .t (ai v) ∧ v ∈ ls)
    (hr : nth H r = some (.bx tc 3 (Cur V i h))) (hq : nth H q = some (.rw ⟨ti, 1, vw intC ls⟩)) (hne : r ≠ q)
    (hK : ∀ (i' k' v : Int), 0 ≤ i' → v ∈ ls → K (.t (ai v)) (setL H r (.bx tc 3 (Cur V i' k')))) : g .C f H [.c (.ptr r 0 0), .c (.own q)] K := by
  have hrl : r < H.length := by rw [nth_eq] at hr; exact (List.getElem?_eq_some_iff.1 hr).1
  have hql : q < H.length := by rw [nth_eq] at hq; exact (List.getElem?_eq_some_iff.1 hq).1
  refine callH hg [r, q] hc (by simpa using hne) (fun x hx => by simp only [List.mem_cons, List.not_mem_nil, or_false] at hx; omega) ⟨⟨_, _, rfl, by rw [hr]; rfl, rfl, rfl, .inl ⟨rfl, rfl⟩⟩, ⟨_, _, rfl, by rw [hq]; rfl, rfl, rfl, .inl ⟨rfl, vw_plain _ _⟩⟩, trivial⟩ ⟨rfl, rfl, trivial⟩ fun res eh ⟨i', k', v, h1, h2, h3, h4⟩ => ?_
  subst h2 h3
  have := hK i' k' v h1 h4
  rw [setL_eq] at this
  have e1 : AB.mv (plc [r, q] H.length) ⟨ti, 1, vw intC ls⟩ = ⟨ti, 1, vw intC ls⟩ := by
    refine congrArg (AB.mk ti 1) ?_
    refine (List.map_congr_left fun x hx => ?_).trans (List.map_id _)
    refine (List.map_congr_left fun c hc => ?_).trans (List.map_id x)
    have hp := List.all_eq_true.1 (List.all_eq_true.1 (vw_plain intC ls) x hx) c hc
    cases c <;> first | rfl | cases hp
  simp only [putBack, EE.mv, e1, List.map_nil, List.append_nil, List.map_cons, AC.mv]
  have e2 : (H.set r (.bx tc 3 (Cur V i' k'))).set q (.rw ⟨ti, 1, vw intC ls⟩) = H.set r (.bx tc 3 (Cur V i' k')) := set_same (by rw [List.getElem?_set_ne hne, ← nth_eq]; exact hq)
  have e3 : K (AV.mv (plc [r, q] (List.length H)) (.t (ai v))) ((H.set r (.bx tc 3 (Cur V i' k'))).set q (.rw ⟨ti, 1, vw intC ls⟩)) := by rw [e2]; exact this
  exact e3
theorem callNew (hg : g = G0 Try.prog n0 N) {H : EH} {f : FuncId} {tc : Nat} {V : List (List AC)} {K : AV → EH → Prop} (hc : PCon Try.prog f [.c (.view V)] fun res rows => ∃ hv : Int, res = .t (.c (.ptr 0 0 0)) ∧ rows = [⟨tc, 3, [Cur V 0 hv]⟩])
    (hK : ∀ hv : Int, K (.t (.c (.ptr (lenL H) 0 0))) (H ++ [.bx tc 3 (Cur V 0 hv)])) : g .C f H [.c (.view V)] K :=
  callC hg (pcall_pure hc rfl fun res rows ⟨hv, h1, h2⟩ => by
    subst h1 h2
    refine ⟨[.bx tc 3 (Cur V 0 hv)], rfl, ?_⟩
    have := hK hv
    rw [lenL_eq] at this
    simpa [AV.shift, AT.shift, AC.shift, toH_len] using this)
end
theorem spec_l01PickInt_a (bs : List Int) (hl : bs.length ≤ 1048576) (i h : Int) (hi : 0 ≤ i) (ls : List Int) (h0 : ls ≠ []) : Con Try.prog 37 (toH [.bx 76 3 (Cur (vw bytC bs) i h), .rw ⟨3, 1, vw intC ls⟩]) [.c (.ptr 0 0 0), .c (.own 1)] fun res h' => ∃ eh, toH eh = h' ∧ ∃ i' k' v, 0 ≤ i' ∧ eh = [.bx 76 3 (Cur (vw bytC bs) i' k'), .rw ⟨3, 1, vw intC ls⟩] ∧ res = .t (ai v) ∧ v ∈ ls := by
  have cb := fun (i h n : Int) (hi : 0 ≤ i) => spec_l01Below_a bs hl i h n hi
  obtain ⟨V, hV⟩ : ∃ V, V = vw bytC bs := ⟨_, rfl⟩
  obtain ⟨L, hL⟩ : ∃ V, V = vw intC ls := ⟨_, rfl⟩
  have hLl : lenI L = (ls.length : Int) := by rw [hL, lenI_eq, vw_length]
  have hL0 : 0 < lenI L := by rw [hLl]; have := List.length_pos_iff.2 h0; omega
  have pL : plainE L = true := by rw [hL]; exact vw_plain _ _
  have hLn : ∀ x : Int, 0 ≤ x → x < lenI L → ∃ v, ls[x.toNat]? = some v := fun x h1 h2 => ⟨_, List.getElem?_eq_getElem (by rw [hLl] at h2; omega)⟩
  simp only [← hV, ← hL] at cb ⊢
  refine con_run (c := body Try.f37) fits Try.func37 (by kernel_rfl) (by kernel_rfl) (bl (by rfl)) (by kernel_rfl) fun g F hg hF => ?_
  replace hg : g = G0 Try.prog 2 Try.f37.ntmps := hg
  replace hF : F = FinP 2 _ := hF
  cbv
  refine callCu hg 0 (cb _ _ _ hi) rfl rfl fun i1 k1 res hi1 hq => ?_
  obtain ⟨x, rfl, hx0, hx1, _⟩ := hq
  have hxl : x < lenI L := by have := hx1 (by rw [goLn hg]; exact hL0); rw [goLn hg] at this; exact this
  obtain ⟨v, hv⟩ := hLn x hx0 hxl
  cbv
  refine goY hg hx0 hxl fun j hj hjl => ?_
  cbv
  refine ⟨_, by rw [hj, hL]; exact vw_at hv, ?_⟩
  cbv
  exact finCuR hF rfl rfl rfl pL rfl ⟨_, rfl, _, _, _, hi1, rfl, rfl, List.mem_of_getElem? hv⟩

end Go.Proofs.Ytcohgnecmgcajaa
