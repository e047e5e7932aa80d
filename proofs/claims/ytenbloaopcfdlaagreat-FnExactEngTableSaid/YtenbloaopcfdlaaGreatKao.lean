/- An argument of whatever shape (numbers, bools, slices of such rows, in one another) opened as data. The types of this program, as AM asks for them. -/
import Derived.Test.YtenbloaopcfdlaaGreatProg
import Derived.Test.YtenbloaopcfdlaaGreatKan
namespace Go.Proofs.YtenbloaopcfdlaaGreat
open Go.ChangeShapes Go.WideShapes Go.ChangeAt Go.RowKit Am
set_option linter.unusedVariables false
set_option linter.unusedSimpArgs false
inductive Sh where
  | i
  | b
  | s (ks : List Sh)
mutual
def Dt : Sh → AC → Prop
  | .i, c => ∃ n, R64 n ∧ c = .imm (.int .i64 n)
  | .b, c => ∃ x, c = .imm (.bool x)
  | .s ks, c => ∃ xs : List (List AC), c = .view xs ∧ xs.length ≤ 9223372036854775807 ∧ ∀ x ∈ xs, DtL ks x
def DtL : List Sh → List AC → Prop
  | [], [] => True
  | k :: ks, c :: cs => Dt k c ∧ DtL ks cs
  | _, _ => False
end
theorem DtL.len : ∀ {ks : List Sh} {xs : List AC}, DtL ks xs → xs.length = ks.length
  | [], [], _ => rfl
  | [], _ :: _, h => by unfold DtL at h; exact h.elim
  | _ :: _, [], h => by unfold DtL at h; exact h.elim
  | _ :: ks, _ :: xs, h => by unfold DtL at h; simp [DtL.len h.2]
theorem DtL.mk : ∀ {ks : List Sh} {xs : List AC}, xs.length = ks.length → (∀ (i : Nat) (k : Sh) (c : AC), ks[i]? = some k → xs[i]? = some c → Dt k c) → DtL ks xs
  | [], [], _, _ => by unfold DtL; trivial
  | [], _ :: _, h, _ => by simp at h
  | _ :: _, [], h, _ => by simp at h
  | _ :: ks, _ :: xs, h, hp => by
    unfold DtL
    exact ⟨hp 0 _ _ rfl rfl, DtL.mk (by simpa using h) fun i k c h1 h2 => hp (i + 1) k c (by simpa using h1) (by simpa using h2)⟩
def shC (P : Program) (f : TypeId → Option (List Sh)) (u : TypeId) : Option Sh :=
  match P.underlying u with
  | some (.int .i64) => some .i
  | some .bool => some .b
  | some (.slice e) => if e < P.types.size then (match f e with | some (k :: ks) => if P.cellsOf e = (k :: ks).length then some (.s (k :: ks)) else none | _ => none) else none
  | _ => none
def shL (P : Program) : Nat → TypeId → Option (List Sh)
  | 0, _ => none
  | n + 1, t => match flatT P 5 t with | none => none | some ts => ts.mapM (shC P (shL P n))
theorem mapM_at {α β : Type} {f : α → Option β} : ∀ {l : List α} {r : List β}, l.mapM f = some r → r.length = l.length ∧ ∀ (i : Nat) (b : β), r[i]? = some b → ∃ a, l[i]? = some a ∧ f a = some b
  | [], r, h => by simp only [List.mapM_nil, Option.pure_def, Option.some.injEq] at h; subst h; exact ⟨rfl, fun i b hb => by simp at hb⟩
  | a :: l, r, h => by
    simp only [List.mapM_cons, Option.bind_eq_bind, Option.bind_eq_some_iff, Option.pure_def, Option.some.injEq] at h
    obtain ⟨b, h1, r', h2, rfl⟩ := h
    obtain ⟨h3, h4⟩ := mapM_at h2
    refine ⟨by simp [h3], fun i b' hb => ?_⟩
    cases i with
    | zero => simp at hb; subst hb; exact ⟨a, rfl, h1⟩
    | succ i => exact h4 i b' (by simpa using hb)
section
variable {H : Type} {enc : TypeId × Value → H} {P : Program} {w : World} {held : Bool} {base : Nat} {spare : Nat → Bool}
theorem open_cells (hl : laidOutB P = true) : ∀ (n : Nat) (t : TypeId) (ks : List Sh) (fuel : Nat) (cs : List Value) (x : DataW H × List MemPlace), t < P.types.size → shL P n t = some ks → DataW.trod enc P w base spare held fuel t cs = some x →
    ∃ xs : List AC, DtL ks xs ∧ xs.length = cs.length ∧ ∀ (j : Nat) (c : AC), xs[j]? = some c → ∃ u, cs[j]? = some u ∧ one u = true ∧ RP (fun b => b < w.heap.size) w c u := by
  intro n
  induction n with
  | zero => intro t ks fuel cs x _ h; simp [shL] at h
  | succ n ih =>
    intro t ks fuel cs x hlt hsh htr
    unfold shL at hsh
    split at hsh
    · cases hsh
    · rename_i ts hts
      obtain ⟨hlen, hat⟩ := mapM_at hsh
      obtain ⟨hcl, hca⟩ := flat_of_trod hl 5 t ts fuel cs x hlt hts htr
      have key : ∀ i, i < ks.length → ∃ c : AC, (∀ k, ks[i]? = some k → Dt k c) ∧ ∃ u, cs[i]? = some u ∧ one u = true ∧ RP (fun b => b < w.heap.size) w c u := by
        intro i hi
        have hki := List.getElem?_eq_getElem hi
        obtain ⟨u, hu, hs⟩ := hat i _ hki
        obtain ⟨v, f', y, hv, hy⟩ := hca i u hu
        suffices ∃ c : AC, Dt ks[i] c ∧ one v = true ∧ RP (fun b => b < w.heap.size) w c v by
          obtain ⟨c, h1, h2, h3⟩ := this
          exact ⟨c, fun k hk => by rw [hki] at hk; cases hk; exact h1, v, hv, h2, h3⟩
        generalize ks[i] = k at hs
        unfold shC at hs
        split at hs
        · rename_i hun
          cases hs
          obtain ⟨m, h1, _, hw⟩ := DataW.trod_int hun hy
          simp only [List.cons.injEq, and_true] at h1
          subst h1
          exact ⟨.imm (.int .i64 m), by unfold Dt; exact ⟨m, r64_of_wf hw, rfl⟩, rfl, by unfold RP; rfl⟩
        · rename_i hun
          cases hs
          obtain ⟨m, h1, _⟩ := DataW.trod_bool hun hy
          simp only [List.cons.injEq, and_true] at h1
          subst h1
          exact ⟨.imm (.bool m), by unfold Dt; exact ⟨m, rfl⟩, rfl, by unfold RP; rfl⟩
        · rename_i e hun
          split at hs
          · rename_i he
            split at hs
            · rename_i k0 ks0 hf0
              split at hs
              · rename_i hck
                cases hs
                rcases Go.Deep.open_slice hun hy with ⟨hcs, _⟩ | ⟨a, len, cap, m, n', D, Pl, hcs, hba, hlc, hm, hmm, hx, hel⟩
                · simp only [List.cons.injEq, and_true] at hcs
                  subst hcs
                  refine ⟨.view [], by unfold Dt; exact ⟨[], rfl, by simp, by simp⟩, rfl, ?_⟩
                  unfold RP
                  exact ⟨none, 0, rfl, Nat.le_refl _, by decide, .inl rfl⟩
                · simp only [List.cons.injEq, and_true] at hcs
                  subst hcs
                  have hk0 : 0 < P.cellsOf e := by rw [hck]; simp
                  have hlm : len ≤ m := by rw [hmm]; split <;> omega
                  have el : ∀ i, i < len → ∃ xs : List AC, DtL (k0 :: ks0) xs ∧ a.spot = none ∧ RPL (fun b => b < w.heap.size) w a.block (a.off + i * P.cellsOf e) xs ∧ a.block < w.heap.size := by
                    intro i hi'
                    obtain ⟨cs', hc, htr'⟩ := hel i (by omega)
                    obtain ⟨_, hcl', hat'⟩ := World.cells?_some hc
                    obtain ⟨xs, h1, h2, h3⟩ := ih e _ n' cs' _ he hf0 htr'
                    have hsp : a.spot = none := by
                      obtain ⟨cs0, hc0', _⟩ := hel 0 (by omega)
                      obtain ⟨_, hl0, hat0⟩ := World.cells?_some hc0'
                      have h4 := hat0 0 hk0
                      have : ∃ u, cs0[0]? = some u := ⟨cs0[0]'(by omega), List.getElem?_eq_getElem (by omega)⟩
                      obtain ⟨u1, hu1⟩ := this
                      rw [hu1] at h4
                      have h5 := spot_of_cell h4
                      simpa [Addr.add] using h5
                    have hcell : ∀ (j : Nat) (c : AC), xs[j]? = some c → ∃ u, w.cell? ⟨a.block, a.off + i * P.cellsOf e + j, none⟩ = some u ∧ one u = true ∧ RP (fun b => b < w.heap.size) w c u := fun j c hj => by
                      obtain ⟨u, g1, g2, g3⟩ := h3 j c hj
                      have hjl : j < P.cellsOf e := by rw [← hcl']; exact (List.getElem?_eq_some_iff.1 g1).1
                      have h6 := hat' j hjl
                      rw [g1] at h6
                      exact ⟨u, by rw [← addr_two a hsp]; exact h6, g2, g3⟩
                    refine ⟨xs, h1, hsp, RPL.mk hcell, ?_⟩
                    have hx0 : ∃ c, xs[0]? = some c := ⟨xs[0]'(by rw [h1.len]; simp), List.getElem?_eq_getElem _⟩
                    obtain ⟨c, hc0⟩ := hx0
                    obtain ⟨u, g1, _⟩ := hcell 0 c hc0
                    have hbl := World.block_lt_of_cell? w _ g1
                    exact hbl
                  obtain ⟨f, hf⟩ : ∃ f : Nat → List AC, ∀ i, i < len → DtL (k0 :: ks0) (f i) ∧ a.spot = none ∧ RPL (fun b => b < w.heap.size) w a.block (a.off + i * P.cellsOf e) (f i) ∧ a.block < w.heap.size := Go.Deep.choose_lt el
                  refine ⟨.view ((List.range len).map f), by
                    unfold Dt
                    refine ⟨_, rfl, by simp only [List.length_map, List.length_range]; exact Nat.le_trans hlc (Nat.le_trans hm (by decide)), fun x hx => ?_⟩
                    simp only [List.mem_map, List.mem_range] at hx
                    obtain ⟨i, hi, rfl⟩ := hx
                    exact (hf i hi).1, rfl, ?_⟩
                  unfold RP
                  refine ⟨some a, cap, by simp, by simpa using hlc, hm, ?_⟩
                  by_cases h0 : len = 0
                  · left; subst h0; rfl
                  · right
                    obtain ⟨_, hsp, _, hbl⟩ := hf 0 (by omega)
                    refine ⟨a.block, a.off, P.cellsOf e, by obtain ⟨b, o, s⟩ := a; simp only at hsp; subst hsp; rfl, hbl, RPE.mk fun i y hy => ?_⟩
                    simp only [List.getElem?_map, Option.map_eq_some_iff] at hy
                    obtain ⟨i', hi', rfl⟩ := hy
                    have hil : i < len := by have := (List.getElem?_eq_some_iff.1 hi').1; simpa using this
                    rw [List.getElem?_range hil] at hi'
                    cases hi'
                    obtain ⟨g1, _, g3, _⟩ := hf i hil
                    exact ⟨by rw [g1.len, hck], g3⟩
              · cases hs
            · cases hs
          · cases hs
        · cases hs
      haveI : Inhabited AC := ⟨.dead⟩
      obtain ⟨f, hf⟩ : ∃ f : Nat → AC, ∀ i, i < ks.length → (∀ k, ks[i]? = some k → Dt k (f i)) ∧ ∃ u, cs[i]? = some u ∧ one u = true ∧ RP (fun b => b < w.heap.size) w (f i) u := Go.Deep.choose_lt key
      refine ⟨(List.range ks.length).map f, DtL.mk (by simp) fun i k c hk hc => ?_, by simp [hcl, hlen], fun j c hj => ?_⟩
      · simp only [List.getElem?_map, Option.map_eq_some_iff] at hc
        obtain ⟨i', hi', rfl⟩ := hc
        have hil : i < ks.length := (List.getElem?_eq_some_iff.1 hk).1
        rw [List.getElem?_range hil] at hi'
        cases hi'
        exact (hf i hil).1 k hk
      · simp only [List.getElem?_map, Option.map_eq_some_iff] at hj
        obtain ⟨i', hi', rfl⟩ := hj
        have hil : j < ks.length := by have := (List.getElem?_eq_some_iff.1 hi').1; simpa using this
        rw [List.getElem?_range hil] at hi'
        cases hi'
        exact (hf j hil).2
theorem open_struct {r : Reach} {b0 : Nat} {t : TypeId} {fs : Array Field} {v : Value} {d : DataW H} {p : List MemPlace} (hl : laidOutB P = true) (n : Nat) (ks : List Sh) (hlt : t < P.types.size) (hs : P.underlying t = some (.struct fs)) (hsh : shL P n t = some ks)
    (hv : Value.okWide P w r b0 t v) (h : DataW.Trod enc P w base spare held t v d p) : ∃ xs, DtL ks xs ∧ RT (fun b => b < w.heap.size) w [] [] (.agg xs) v := by
  obtain ⟨cs, rfl, hsz⟩ := okWide_struct hs hv
  obtain ⟨fuel, hf⟩ := h
  obtain ⟨xs, h1, h2, h3⟩ := open_cells hl n t ks fuel _ _ hlt hsh hf
  refine ⟨xs, h1, cs.toList, rfl, h2.symm, fun j c hj => ?_⟩
  obtain ⟨u, g1, g2, g3⟩ := h3 j c hj
  have hc : Dt (ks[j]'(by rw [← h1.len]; exact (List.getElem?_eq_some_iff.1 hj).1)) c ∨ True := .inr trivial
  refine ⟨u, g1, g2, ?_⟩
  cases c with
  | imm v => unfold RP at g3; exact g3
  | view ys => exact g3
  | dead => trivial
  | own r => unfold RP at g3; exact g3.elim
  | sub r lo k => unfold RP at g3; exact g3.elim
  | ptr r i o => unfold RP at g3; exact g3.elim
  | eptr cs o => unfold RP at g3; exact g3.elim
  | clo f rs => unfold RP at g3; exact g3.elim
  | fv bs xs => unfold RP at g3; exact g3.elim
  | old p xs => unfold RP at g3; exact g3.elim
end
end Go.Proofs.YtenbloaopcfdlaaGreat
namespace Go.Proofs.YtenbloaopcfdlaaGreat.Am
set_option maxRecDepth 100000
def tab : List (TypeId × TI) := [
  (3, { agg := none, zero := [.int .i64 0], size := 1, flds := [], elem := none, sok := false, kd := some (some .i64) }),
  (43, { agg := some 1, zero := [.slice none 0 0], size := 1, flds := [some (0, 41)], elem := none, sok := true, kd := none }),
  (50, { agg := some 8, zero := [.slice none 0 0, .slice none 0 0, .slice none 0 0, .slice none 0 0, .int .i64 0, .int .i64 0, .int .i64 0, .bool false], size := 8, flds := [some (0, 43), some (1, 47), some (3, 48), some (4, 3), some (5, 3), some (6, 3), some (7, 4)], elem := none, sok := true, kd := none }),
  (59, { agg := some 60, zero := [.int .i64 0, .int .i64 0, .int .i64 0, .int .i64 0, .int .i64 0, .int .i64 0, .bool false, .bool false, .int .i64 0, .int .i64 0, .int .i64 0, .int .i64 0, .int .i64 0, .int .i64 0, .int .i64 0, .int .i64 0, .int .i64 0, .int .i64 0, .int .i64 0, .int .i64 0, .int .i64 0, .int .i64 0, .int .i64 0, .int .i64 0, .int .i64 0, .int .i64 0, .int .i64 0, .int .i64 0, .int .i64 0, .int .i64 0, .int .i64 0, .int .i64 0, .int .i64 0, .int .i64 0, .int .i64 0, .int .i64 0, .int .i64 0, .int .i64 0, .int .i64 0, .int .i64 0, .int .i64 0, .int .i64 0, .int .i64 0, .int .i64 0, .int .i64 0, .int .i64 0, .int .i64 0, .int .i64 0, .int .i64 0, .int .i64 0, .int .i64 0, .int .i64 0, .int .i64 0, .int .i64 0, .int .i64 0, .int .i64 0, .int .i64 0, .int .i64 0, .int .i64 0, .int .i64 0], size := 60, flds := [some (0, 3), some (1, 3), some (2, 3), some (3, 3), some (4, 3), some (5, 3), some (6, 4), some (7, 4), some (8, 3), some (9, 3), some (10, 3), some (11, 54), some (13, 54), some (15, 54), some (17, 54), some (19, 54), some (21, 54), some (23, 54), some (25, 3), some (26, 56), some (38, 56), some (50, 57), some (54, 57), some (58, 3), some (59, 3)], elem := none, sok := true, kd := none }),
  (106, { agg := some 64, zero := [.int .i64 0, .slice none 0 0, .int .i64 0, .int .i64 0, .int .i64 0, .int .i64 0, .int .i64 0, .int .i64 0, .bool false, .bool false, .int .i64 0, .int .i64 0, .int .i64 0, .int .i64 0, .int .i64 0, .int .i64 0, .int .i64 0, .int .i64 0, .int .i64 0, .int .i64 0, .int .i64 0, .int .i64 0, .int .i64 0, .int .i64 0, .int .i64 0, .int .i64 0, .int .i64 0, .int .i64 0, .int .i64 0, .int .i64 0, .int .i64 0, .int .i64 0, .int .i64 0, .int .i64 0, .int .i64 0, .int .i64 0, .int .i64 0, .int .i64 0, .int .i64 0, .int .i64 0, .int .i64 0, .int .i64 0, .int .i64 0, .int .i64 0, .int .i64 0, .int .i64 0, .int .i64 0, .int .i64 0, .int .i64 0, .int .i64 0, .int .i64 0, .int .i64 0, .int .i64 0, .int .i64 0, .int .i64 0, .int .i64 0, .int .i64 0, .int .i64 0, .int .i64 0, .int .i64 0, .int .i64 0, .int .i64 0, .bool false, .slice none 0 0], size := 64, flds := [some (0, 3), some (1, 104), some (2, 59), some (62, 4), some (63, 75)], elem := none, sok := true, kd := none }),
  (41, { agg := none, zero := [.slice none 0 0], size := 1, flds := [], elem := some (106, 64, 536), sok := false, kd := none }),
  (54, { agg := some 2, zero := [.int .i64 0, .int .i64 0], size := 2, flds := [some (0, 3), some (1, 3)], elem := none, sok := true, kd := none }),
  (4, { agg := none, zero := [.bool false], size := 1, flds := [], elem := none, sok := false, kd := some none }),
  (56, { agg := some 12, zero := [.int .i64 0, .int .i64 0, .int .i64 0, .int .i64 0, .int .i64 0, .int .i64 0, .int .i64 0, .int .i64 0, .int .i64 0, .int .i64 0, .int .i64 0, .int .i64 0], size := 12, flds := [some (0, 54), some (2, 54), some (4, 54), some (6, 54), some (8, 54), some (10, 54)], elem := none, sok := true, kd := none }),
  (104, { agg := none, zero := [.slice none 0 0], size := 1, flds := [], elem := some (3, 1, 8), sok := false, kd := none }),
  (47, { agg := some 2, zero := [.slice none 0 0, .slice none 0 0], size := 2, flds := [some (0, 44), some (1, 45)], elem := none, sok := true, kd := none }),
  (75, { agg := some 1, zero := [.slice none 0 0], size := 1, flds := [some (0, 73)], elem := none, sok := true, kd := none }),
  (31, { agg := some 8, zero := [.slice none 0 0, .slice none 0 0, .slice none 0 0, .slice none 0 0, .int .i64 0, .int .i64 0, .int .i64 0, .bool false], size := 8, flds := [some (0, 24), some (1, 28), some (3, 29), some (4, 3), some (5, 3), some (6, 3), some (7, 4)], elem := none, sok := true, kd := none }),
  (44, { agg := none, zero := [.slice none 0 0], size := 1, flds := [], elem := some (166, 10, 96), sok := false, kd := none }),
  (166, { agg := some 10, zero := [.int .i64 0, .int .i64 0, .int .i64 0, .int .i64 0, .int .i64 0, .bool false, .int .i64 0, .int .i64 0, .int .i64 0, .slice none 0 0], size := 10, flds := [some (0, 3), some (1, 162), some (3, 162), some (5, 4), some (6, 164)], elem := none, sok := true, kd := none }),
  (57, { agg := some 4, zero := [.int .i64 0, .int .i64 0, .int .i64 0, .int .i64 0], size := 4, flds := [some (0, 3), some (1, 3), some (2, 3), some (3, 3)], elem := none, sok := true, kd := none }),
  (48, { agg := none, zero := [.slice none 0 0], size := 1, flds := [], elem := some (128, 5, 40), sok := false, kd := none }),
  (73, { agg := none, zero := [.slice none 0 0], size := 1, flds := [], elem := some (146, 3, 24), sok := false, kd := none }),
  (164, { agg := some 4, zero := [.int .i64 0, .int .i64 0, .int .i64 0, .slice none 0 0], size := 4, flds := [some (0, 3), some (1, 3), some (2, 3), some (3, 48)], elem := none, sok := true, kd := none }),
  (162, { agg := some 2, zero := [.int .i64 0, .int .i64 0], size := 2, flds := [some (0, 3), some (1, 3)], elem := none, sok := true, kd := none }),
  (39, { agg := some 60, zero := [.int .i64 0, .int .i64 0, .int .i64 0, .int .i64 0, .int .i64 0, .int .i64 0, .bool false, .bool false, .int .i64 0, .int .i64 0, .int .i64 0, .int .i64 0, .int .i64 0, .int .i64 0, .int .i64 0, .int .i64 0, .int .i64 0, .int .i64 0, .int .i64 0, .int .i64 0, .int .i64 0, .int .i64 0, .int .i64 0, .int .i64 0, .int .i64 0, .int .i64 0, .int .i64 0, .int .i64 0, .int .i64 0, .int .i64 0, .int .i64 0, .int .i64 0, .int .i64 0, .int .i64 0, .int .i64 0, .int .i64 0, .int .i64 0, .int .i64 0, .int .i64 0, .int .i64 0, .int .i64 0, .int .i64 0, .int .i64 0, .int .i64 0, .int .i64 0, .int .i64 0, .int .i64 0, .int .i64 0, .int .i64 0, .int .i64 0, .int .i64 0, .int .i64 0, .int .i64 0, .int .i64 0, .int .i64 0, .int .i64 0, .int .i64 0, .int .i64 0, .int .i64 0, .int .i64 0], size := 60, flds := [some (0, 3), some (1, 3), some (2, 3), some (3, 3), some (4, 3), some (5, 3), some (6, 4), some (7, 4), some (8, 3), some (9, 3), some (10, 3), some (11, 33), some (13, 33), some (15, 33), some (17, 33), some (19, 33), some (21, 33), some (23, 33), some (25, 3), some (26, 35), some (38, 35), some (50, 37), some (54, 37), some (58, 3), some (59, 3)], elem := none, sok := true, kd := none }),
  (45, { agg := none, zero := [.slice none 0 0], size := 1, flds := [], elem := some (174, 6, 48), sok := false, kd := none }),
  (33, { agg := some 2, zero := [.int .i64 0, .int .i64 0], size := 2, flds := [some (0, 3), some (1, 3)], elem := none, sok := true, kd := none }),
  (146, { agg := some 3, zero := [.int .i64 0, .int .i64 0, .int .i64 0], size := 3, flds := [some (0, 3), some (1, 3), some (2, 3)], elem := none, sok := true, kd := none }),
  (128, { agg := some 5, zero := [.int .i64 0, .int .i64 0, .int .i64 0, .int .i64 0, .int .i64 0], size := 5, flds := [some (0, 3), some (1, 3), some (2, 3), some (3, 3), some (4, 3)], elem := none, sok := true, kd := none }),
  (174, { agg := some 6, zero := [.int .i64 0, .int .i64 0, .int .i64 0, .int .i64 0, .int .i64 0, .bool false], size := 6, flds := [some (0, 3), some (1, 162), some (3, 162), some (5, 4)], elem := none, sok := true, kd := none }),
  (70, { agg := some 1, zero := [.slice none 0 0], size := 1, flds := [some (0, 68)], elem := none, sok := true, kd := none }),
  (154, { agg := some 64, zero := [.int .i64 0, .slice none 0 0, .int .i64 0, .int .i64 0, .int .i64 0, .int .i64 0, .int .i64 0, .int .i64 0, .bool false, .bool false, .int .i64 0, .int .i64 0, .int .i64 0, .int .i64 0, .int .i64 0, .int .i64 0, .int .i64 0, .int .i64 0, .int .i64 0, .int .i64 0, .int .i64 0, .int .i64 0, .int .i64 0, .int .i64 0, .int .i64 0, .int .i64 0, .int .i64 0, .int .i64 0, .int .i64 0, .int .i64 0, .int .i64 0, .int .i64 0, .int .i64 0, .int .i64 0, .int .i64 0, .int .i64 0, .int .i64 0, .int .i64 0, .int .i64 0, .int .i64 0, .int .i64 0, .int .i64 0, .int .i64 0, .int .i64 0, .int .i64 0, .int .i64 0, .int .i64 0, .int .i64 0, .int .i64 0, .int .i64 0, .int .i64 0, .int .i64 0, .int .i64 0, .int .i64 0, .int .i64 0, .int .i64 0, .int .i64 0, .int .i64 0, .int .i64 0, .int .i64 0, .int .i64 0, .int .i64 0, .bool false, .slice none 0 0], size := 64, flds := [some (0, 3), some (1, 104), some (2, 39), some (62, 4), some (63, 70)], elem := none, sok := true, kd := none }),
  (29, { agg := none, zero := [.slice none 0 0], size := 1, flds := [], elem := some (130, 5, 40), sok := false, kd := none }),
  (157, { agg := some 2, zero := [.int .i64 0, .int .i64 0], size := 2, flds := [some (0, 3), some (1, 3)], elem := none, sok := true, kd := none }),
  (161, { agg := some 10, zero := [.int .i64 0, .int .i64 0, .int .i64 0, .int .i64 0, .int .i64 0, .bool false, .int .i64 0, .int .i64 0, .int .i64 0, .slice none 0 0], size := 10, flds := [some (0, 3), some (1, 157), some (3, 157), some (5, 4), some (6, 159)], elem := none, sok := true, kd := none }),
  (159, { agg := some 4, zero := [.int .i64 0, .int .i64 0, .int .i64 0, .slice none 0 0], size := 4, flds := [some (0, 3), some (1, 3), some (2, 3), some (3, 29)], elem := none, sok := true, kd := none }),
  (35, { agg := some 12, zero := [.int .i64 0, .int .i64 0, .int .i64 0, .int .i64 0, .int .i64 0, .int .i64 0, .int .i64 0, .int .i64 0, .int .i64 0, .int .i64 0, .int .i64 0, .int .i64 0], size := 12, flds := [some (0, 33), some (2, 33), some (4, 33), some (6, 33), some (8, 33), some (10, 33)], elem := none, sok := true, kd := none }),
  (22, { agg := none, zero := [.slice none 0 0], size := 1, flds := [], elem := some (154, 64, 536), sok := false, kd := none }),
  (25, { agg := none, zero := [.slice none 0 0], size := 1, flds := [], elem := some (161, 10, 96), sok := false, kd := none }),
  (28, { agg := some 2, zero := [.slice none 0 0, .slice none 0 0], size := 2, flds := [some (0, 25), some (1, 26)], elem := none, sok := true, kd := none }),
  (37, { agg := some 4, zero := [.int .i64 0, .int .i64 0, .int .i64 0, .int .i64 0], size := 4, flds := [some (0, 3), some (1, 3), some (2, 3), some (3, 3)], elem := none, sok := true, kd := none }),
  (24, { agg := some 1, zero := [.slice none 0 0], size := 1, flds := [some (0, 22)], elem := none, sok := true, kd := none }),
  (26, { agg := none, zero := [.slice none 0 0], size := 1, flds := [], elem := some (177, 6, 48), sok := false, kd := none }),
  (68, { agg := none, zero := [.slice none 0 0], size := 1, flds := [], elem := some (148, 3, 24), sok := false, kd := none }),
  (130, { agg := some 5, zero := [.int .i64 0, .int .i64 0, .int .i64 0, .int .i64 0, .int .i64 0], size := 5, flds := [some (0, 3), some (1, 3), some (2, 3), some (3, 3), some (4, 3)], elem := none, sok := true, kd := none }),
  (177, { agg := some 6, zero := [.int .i64 0, .int .i64 0, .int .i64 0, .int .i64 0, .int .i64 0, .bool false], size := 6, flds := [some (0, 3), some (1, 157), some (3, 157), some (5, 4)], elem := none, sok := true, kd := none }),
  (148, { agg := some 3, zero := [.int .i64 0, .int .i64 0, .int .i64 0], size := 3, flds := [some (0, 3), some (1, 3), some (2, 3)], elem := none, sok := true, kd := none }),
  (178, { agg := none, zero := [.slice none 0 0], size := 1, flds := [], elem := some (54, 2, 16), sok := false, kd := none })]
theorem fits : Fits Tryz.prog tab := ⟨by kernel_rfl, by kernel_rfl⟩
end Go.Proofs.YtenbloaopcfdlaaGreat.Am
