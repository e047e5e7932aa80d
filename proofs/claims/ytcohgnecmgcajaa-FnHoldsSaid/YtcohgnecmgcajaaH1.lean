/- Flexed lines hold their bounds, and are filled where an item can still flex: the plain law. -/
import Derived.Test.YtcohgnecmgcajaaQ4
namespace Go.Proofs.Ytcohgnecmgcajaa
open Go.ChangeShapes Go.WideShapes Go.ChangeAt Go.RowKit Am
set_option linter.unusedVariables false
set_option linter.unusedSimpArgs false
set_option maxRecDepth 100000

section
variable {α : Type}
theorem ss_zero : ∀ l : List α, (l.map fun _ => (0 : Int)).sum = 0
  | [] => rfl
  | a :: l => by simp only [List.map_cons, List.sum_cons, ss_zero l]; rfl
theorem ss_add (f h : α → Int) : ∀ l : List α, (l.map fun a => f a + h a).sum = (l.map f).sum + (l.map h).sum
  | [] => by simp
  | a :: l => by simp only [List.map_cons, List.sum_cons, ss_add f h l]; omega
theorem ss_mul (c : Int) (f : α → Int) : ∀ l : List α, (l.map fun a => c * f a).sum = c * (l.map f).sum
  | [] => by simp
  | a :: l => by simp only [List.map_cons, List.sum_cons, ss_mul c f l, Int.mul_add]
theorem ss_le {f h : α → Int} : ∀ {l : List α}, (∀ a ∈ l, f a ≤ h a) → (l.map f).sum ≤ (l.map h).sum
  | [], _ => by simp
  | a :: l, H => by
    have := ss_le (l := l) fun b hb => H b (by simp [hb])
    have := H a (by simp)
    simp only [List.map_cons, List.sum_cons]; omega
theorem ss_congr {f h : α → Int} {l : List α} (H : ∀ a ∈ l, f a = h a) : (l.map f).sum = (l.map h).sum := by rw [List.map_congr_left H]
theorem ss_pos {f : α → Int} : ∀ {l : List α}, (∀ a ∈ l, 0 < f a) → l ≠ [] → 0 < (l.map f).sum
  | [], _, h => absurd rfl h
  | a :: l, H, _ => by
    have := ss_le (f := fun _ => 0) (h := f) (l := l) fun b hb => by have := H b (by simp [hb]); omega
    have h0 := ss_zero l
    have := H a (by simp)
    simp only [List.map_cons, List.sum_cons]; omega
theorem ss_nonneg {f : α → Int} {l : List α} (H : ∀ a ∈ l, 0 ≤ f a) : 0 ≤ (l.map f).sum := by
  have := ss_le (f := fun _ => 0) (h := f) (l := l) H
  have h0 := ss_zero l
  omega
theorem ss_mem {f : α → Int} : ∀ {l : List α}, (∀ a ∈ l, 0 ≤ f a) → ∀ a ∈ l, f a ≤ (l.map f).sum
  | [], _, a, h => by cases h
  | b :: l, H, a, h => by
    have h1 := ss_nonneg (l := l) fun c hc => H c (by simp [hc])
    simp only [List.map_cons, List.sum_cons]
    rcases List.mem_cons.1 h with rfl | h
    · omega
    · have := ss_mem (l := l) (fun c hc => H c (by simp [hc])) a h
      have := H b (by simp)
      omega
end
/-- An item, whether it is held, its size. -/
abbrev Tr := GItem × Bool × Int
def xsT (L : List Tr) : List GItem := L.map (·.1)
def frT (L : List Tr) : List Bool := L.map (·.2.1)
def szT (L : List Tr) : List Int := L.map (·.2.2)
/-- Those not held, those held. -/
def unT (L : List Tr) : List GItem := (L.filter fun t => !t.2.1).map (·.1)
def heT (L : List Tr) : Int := ((L.filter fun t => t.2.1).map (·.2.2)).sum
theorem tr_split (h : GItem → Int) : ∀ L : List Tr, (L.map fun t => if t.2.1 then t.2.2 else h t.1).sum = heT L + ((unT L).map h).sum
  | [] => by simp [heT, unT]
  | ⟨x, f, s⟩ :: L => by
    have ih := tr_split h L
    simp only [heT, unT] at ih ⊢
    cases f with
    | true => simp only [List.map_cons, List.sum_cons, if_true, List.filter_cons, Bool.not_true, Bool.false_eq_true, if_false]; omega
    | false => simp only [List.map_cons, List.sum_cons, if_true, List.filter_cons, Bool.not_false, Bool.false_eq_true, if_false]; omega
theorem itA_mid (P : List GItem) (x : GItem) (xs : List GItem) : itA (P ++ x :: xs) (P.length : Int) = x := by simp [itA]
theorem fre_map {β : Type} (h : GItem → β) : ∀ (L : List Tr) (P : List GItem), (fre P.length (frT L)).map (fun j => h (itA (P ++ xsT L) j)) = (unT L).map h
  | [], P => by simp [fre, frT, unT]
  | ⟨x, f, s⟩ :: L, P => by
    have ih := fre_map h L (P ++ [x])
    simp only [List.append_assoc, List.cons_append, List.nil_append, List.length_append, List.length_cons, List.length_nil, Nat.zero_add, Int.natCast_add, Int.cast_ofNat_Int] at ih
    simp only [frT, xsT, unT, List.map_cons, fre, List.filter_cons] at ih ⊢
    cases f with
    | true => simpa using ih
    | false =>
      simp only [Bool.false_eq_true, if_false, List.map_cons, Bool.not_false, if_true]
      rw [itA_mid]
      exact congrArg _ ih
theorem fre_step (st : GItem → Option Int) : ∀ (L : List Tr) (P : List GItem) (Q : List Int), Q.length = P.length →
    setz ((fre P.length (frT L)).filterMap fun j => (st (itA (P ++ xsT L) j)).map fun v => (j, v)) (Q ++ szT L) = Q ++ L.map fun t => if t.2.1 then t.2.2 else (st t.1).getD t.2.2
  | [], P, Q, _ => by simp [fre, frT, szT, setz]
  | ⟨x, f, s⟩ :: L, P, Q, hQ => by
    have ih := fun v => fre_step st L (P ++ [x]) (Q ++ [v]) (by simp [hQ])
    simp only [List.append_assoc, List.cons_append, List.nil_append, List.length_append, List.length_cons, List.length_nil, Nat.zero_add, Int.natCast_add, Int.cast_ofNat_Int] at ih
    simp only [frT, xsT, szT, List.map_cons, fre] at ih ⊢
    cases f with
    | true => simpa using ih s
    | false =>
      simp only [Bool.false_eq_true, if_false, List.filterMap_cons]
      rw [itA_mid]
      cases hx : st x with
      | none => simpa using ih s
      | some v =>
        simp only [Option.map_some]
        show setz _ ((Q ++ s :: _).set _ _) = _
        have e : ∀ l : List Int, (Q ++ s :: l).set ((P.length : Int)).toNat v = Q ++ v :: l := fun l => by rw [Int.toNat_natCast, ← hQ]; simp
        rw [e]
        simpa using ih v
theorem fre_stepb (st : GItem → Option Int) : ∀ (L : List Tr) (P : List GItem) (Q : List Bool), Q.length = P.length →
    setb (((fre P.length (frT L)).filterMap fun j => (st (itA (P ++ xsT L) j)).map fun v => (j, v)).map (·.1)) (Q ++ frT L) = Q ++ L.map fun t => t.2.1 || (st t.1).isSome
  | [], P, Q, _ => by simp [fre, frT, setb]
  | ⟨x, f, s⟩ :: L, P, Q, hQ => by
    have ih := fun v => fre_stepb st L (P ++ [x]) (Q ++ [v]) (by simp [hQ])
    simp only [List.append_assoc, List.cons_append, List.nil_append, List.length_append, List.length_cons, List.length_nil, Nat.zero_add, Int.natCast_add, Int.cast_ofNat_Int] at ih
    simp only [frT, xsT, List.map_cons, fre] at ih ⊢
    cases f with
    | true => simpa using ih true
    | false =>
      simp only [Bool.false_eq_true, if_false, List.filterMap_cons]
      rw [itA_mid]
      cases hx : st x with
      | none => simpa using ih false
      | some v =>
        simp only [Option.map_some, List.map_cons]
        show setb _ ((Q ++ false :: _).set _ _) = _
        have e : ∀ l : List Bool, (Q ++ false :: l).set ((P.length : Int)).toNat true = Q ++ true :: l := fun l => by rw [Int.toNat_natCast, ← hQ]; simp
        rw [e]
        simpa using ih true
/-- The sizes after the last pass. -/
def put (c : GItem → Int → Int) : List Tr → List Int → List Int
  | [], _ => []
  | t :: L, vs => if t.2.1 then t.2.2 :: put c L vs else match vs with
    | [] => t.2.2 :: put c L []
    | v :: vs => c t.1 v :: put c L vs
theorem fre_put (c : GItem → Int → Int) : ∀ (L : List Tr) (P : List GItem) (Q : List Int) (vs : List Int), Q.length = P.length →
    setz (((fre P.length (frT L)).zip vs).map fun p => (p.1, c (itA (P ++ xsT L) p.1) p.2)) (Q ++ szT L) = Q ++ put c L vs
  | [], P, Q, vs, _ => by simp [fre, frT, szT, setz, put]
  | ⟨x, f, s⟩ :: L, P, Q, vs, hQ => by
    have ih := fun v vs => fre_put c L (P ++ [x]) (Q ++ [v]) vs (by simp [hQ])
    simp only [List.append_assoc, List.cons_append, List.nil_append, List.length_append, List.length_cons, List.length_nil, Nat.zero_add, Int.natCast_add, Int.cast_ofNat_Int] at ih
    simp only [frT, xsT, szT, List.map_cons, fre, put] at ih ⊢
    cases f with
    | true => simpa using ih s vs
    | false =>
      simp only [Bool.false_eq_true, if_false]
      cases vs with
      | nil =>
        have := ih s []
        simpa [setz] using this
      | cons v vs =>
        simp only [List.zip_cons_cons, List.map_cons]
        rw [itA_mid]
        show setz _ ((Q ++ s :: _).set _ _) = _
        have e : ∀ (l : List Int) u, (Q ++ s :: l).set ((P.length : Int)).toNat u = Q ++ u :: l := fun l u => by rw [Int.toNat_natCast, ← hQ]; simp
        rw [e]
        exact ih (c x v) vs
theorem fre_putb (c : GItem → Int → Int) : ∀ (L : List Tr) (P : List GItem) (Q : List Bool) (vs : List Int), Q.length = P.length → vs.length = (unT L).length →
    setb ((((fre P.length (frT L)).zip vs).map fun p => (p.1, c (itA (P ++ xsT L) p.1) p.2)).map (·.1)) (Q ++ frT L) = Q ++ L.map fun _ => true
  | [], P, Q, vs, _, _ => by simp [fre, frT, setb]
  | ⟨x, f, s⟩ :: L, P, Q, vs, hQ, hv => by
    have ih := fun v vs h => fre_putb c L (P ++ [x]) (Q ++ [v]) vs (by simp [hQ]) h
    simp only [List.append_assoc, List.cons_append, List.nil_append, List.length_append, List.length_cons, List.length_nil, Nat.zero_add, Int.natCast_add, Int.cast_ofNat_Int] at ih
    simp only [frT, xsT, unT, List.map_cons, fre, List.filter_cons] at ih ⊢ hv
    cases f with
    | true => simpa using ih true vs (by simpa using hv)
    | false =>
      simp only [Bool.false_eq_true, if_false, Bool.not_false, if_true, List.map_cons, List.length_cons] at hv ⊢
      cases vs with
      | nil => simp at hv
      | cons v vs =>
        simp only [List.zip_cons_cons, List.map_cons]
        show setb _ ((Q ++ false :: _).set _ _) = _
        have e : ∀ l : List Bool, (Q ++ false :: l).set ((P.length : Int)).toNat true = Q ++ true :: l := fun l => by rw [Int.toNat_natCast, ← hQ]; simp
        rw [e]
        exact ih true vs (by simpa using hv)
theorem fre_nil {L : List Tr} (h : fre 0 (frT L) = []) : unT L = [] := by
  have := fre_map (fun x => x) L []
  simp only [List.length_nil, Int.natCast_zero, h, List.map_nil, List.map_id'] at this
  exact this.symm
theorem un_mem {L : List Tr} {x : GItem} (h : x ∈ unT L) : ∃ s, (x, false, s) ∈ L := by
  simp only [unT, List.mem_map, List.mem_filter, Bool.not_eq_true'] at h
  obtain ⟨⟨y, f, s⟩, ⟨h1, h2⟩, rfl⟩ := h
  simp only at h2
  subst h2
  exact ⟨s, h1⟩
theorem un_of {L : List Tr} {x : GItem} {s : Int} (h : (x, false, s) ∈ L) : x ∈ unT L := by
  simp only [unT, List.mem_map, List.mem_filter, Bool.not_eq_true']
  exact ⟨_, ⟨h, rfl⟩, rfl⟩
/-- Within the item's bounds. -/
def inB (x : GItem) (s : Int) : Prop := x.least ≤ s ∧ (0 ≤ x.most → s ≤ uppI x)
def most0 (x : GItem) : Int := if 0 ≤ x.most then x.most else 0
def bigS (x : GItem) : Int := x.base + x.least + most0 x
theorem hyp_facts {x : GItem} (h : ItB x) : inB x (hyp x) ∧ hyp x ≤ bigS x ∧ (x.base < hyp x → hyp x = x.least) ∧ (hyp x < x.base → 0 ≤ x.most ∧ hyp x = uppI x) ∧ (0 ≤ x.most → uppI x ≤ bigS x ∧ x.least ≤ uppI x) ∧ x.least ≤ bigS x := by
  have := h.b0
  have := h.l0
  unfold inB hyp within uppI bigS most0
  grind
structure Pel (gr : Bool) (t : Tr) : Prop where
  ok : ItB t.1
  un : t.2.1 = false → 0 < wgt gr t.1 ∧ (gr = true → t.1.base ≤ hyp t.1) ∧ (gr = false → hyp t.1 ≤ t.1.base)
  he : t.2.1 = true → inB t.1 t.2.2 ∧ t.2.2 ≤ bigS t.1 ∧ (wgt gr t.1 = 0 ∨ atB t.1 t.2.2 = true)
/-- What a pass comes to for one item. -/
theorem ov_law {x : GItem} (h : ItB x) (gr : Bool) {A n : Int} (h0 : 0 < A) (h1 : A ≤ 12582912000) (h2 : -1048576 ≤ n) (h3 : n ≤ 1048576) :
    ∃ c, c = ovr gr A n x + (x.base * A + n * wgt gr x) ∧ (lowB gr A n x = true → c = A * x.least ∧ x.base * A + n * wgt gr x < A * x.least) ∧
      ((!lowB gr A n x && higB gr A n x) = true → c = A * uppI x ∧ 0 ≤ x.most ∧ A * uppI x < x.base * A + n * wgt gr x) ∧
      (lowB gr A n x = false → A * x.least ≤ x.base * A + n * wgt gr x) ∧
      (lowB gr A n x = false → higB gr A n x = false → 0 ≤ x.most → x.base * A + n * wgt gr x ≤ A * uppI x) ∧
      (lowB gr A n x = false → higB gr A n x = false → c = x.base * A + n * wgt gr x) := by
  have hw := wgt_bd h gr
  have h0' : 0 ≤ A := by omega
  obtain ⟨b1, b2⟩ := mul_bd h.b0 h.b1 h0' h1
  obtain ⟨c1, c2⟩ := mul_bd h.l0 h.l1 h0' h1
  obtain ⟨d1, d2⟩ := mul_bs h2 h3 hw.1 hw.2.1
  have hu0 : 0 ≤ uppI x := by have := h.l0; unfold uppI; split <;> omega
  have hu1 : uppI x ≤ 1048576 := by have := h.l1; have := h.m1; unfold uppI; split <;> omega
  obtain ⟨e1, e2⟩ := mul_bd hu0 hu1 h0' h1
  have et : tgt gr A n x = x.base * A + n * wgt gr x := by
    unfold tgt
    rw [show wrap64 (x.base * A) = x.base * A by unfold wrap64; omega, show wrap64 (n * wgt gr x) = n * wgt gr x by unfold wrap64; omega]
    unfold wrap64; omega
  have el : wrap64 (x.least * A) = x.least * A := by unfold wrap64; omega
  have eu : wrap64 (uppI x * A) = uppI x * A := by unfold wrap64; omega
  have hUS : 0 ≤ x.most → uppS x = uppI x := fun hm => by unfold uppS uppI; split <;> split <;> omega
  obtain ⟨t, ht⟩ : ∃ t, t = x.base * A + n * wgt gr x := ⟨_, rfl⟩
  have ht1 : -14000000000000000 ≤ t := by rw [ht]; omega
  have ht2 : t ≤ 16000000000000000 := by rw [ht]; omega
  rw [← ht] at et ⊢
  rw [Int.mul_comm A x.least, Int.mul_comm A (uppI x)]
  obtain ⟨lo, hlo⟩ : ∃ t, t = x.least * A := ⟨_, rfl⟩
  obtain ⟨hi, hhi⟩ : ∃ t, t = uppI x * A := ⟨_, rfl⟩
  have hlb : lowB gr A n x = decide (t < lo) := by unfold lowB; rw [el, et, ← hlo]
  have hhb : higB gr A n x = (decide (0 ≤ x.most) && decide (hi < t)) := by unfold higB; rw [eu, et, ← hhi]
  have hov : ovr gr A n x = if t < lo then lo - t else if 0 ≤ x.most ∧ hi < t then hi - t else 0 := by
    unfold ovr
    rw [hlb, el, et, ← hlo]
    simp only [decide_eq_true_eq]
    by_cases h1 : t < lo
    · rw [if_pos h1, if_pos h1]; unfold wrap64; omega
    · rw [if_neg h1, if_neg h1]
      by_cases hm : 0 ≤ x.most
      · rw [hUS hm, eu, ← hhi]
        by_cases h2 : hi < t
        · rw [if_pos ⟨hm, h2⟩, if_pos ⟨hm, h2⟩]; unfold wrap64; omega
        · rw [if_neg (by omega), if_neg (by omega)]
      · rw [if_neg (by omega), if_neg (by omega)]
  refine ⟨_, rfl, ?_⟩
  rw [hlb, hhb, hov, ← hlo, ← hhi]
  simp only [Bool.and_eq_true, Bool.not_eq_true', decide_eq_true_eq, decide_eq_false_iff_not, Bool.and_eq_false_iff]
  refine ⟨fun h => ?_, fun h => ?_, fun h => ?_, fun h h' h'' => ?_, fun h h' => ?_⟩
  · rw [if_pos h]; omega
  · rw [if_neg h.1, if_pos h.2]; omega
  · omega
  · rcases h' with h' | h' <;> omega
  · rw [if_neg h, if_neg (by rcases h' with h' | h' <;> omega)]; omega
theorem fdv_br {a b : Int} (h0 : 0 < b) (h1 : -4611686018427387904 ≤ a) (h2 : a ≤ 4611686018427387904) : b * fdv a b ≤ a ∧ a < b * fdv a b + b := by
  have e := Int.mul_tdiv_add_tmod a b
  have hq : -4611686018427387904 ≤ a.tdiv b ∧ a.tdiv b ≤ 4611686018427387904 := by
    have h3 := Int.natAbs_tdiv_le_natAbs a b
    omega
  have m1 : -b < a.tmod b := by have := Int.lt_tmod_of_pos a h0; omega
  have m2 : a.tmod b < b := Int.tmod_lt_of_pos a h0
  have w1 : wrap64 (a.tdiv b) = a.tdiv b := by unfold wrap64; omega
  have w2 : wrap64 (a.tdiv b - 1) = a.tdiv b - 1 := by unfold wrap64; omega
  unfold fdv
  rw [if_neg (by omega), w1, w2]
  split
  · rw [Int.mul_sub, Int.mul_one]; omega
  · by_cases hm : 0 ≤ a.tmod b
    · omega
    · omega
theorem mix_map : ∀ L : List Tr, mix (xsT L) (frT L) (szT L) = L.map fun t => if t.2.1 then t.2.2 else t.1.base
  | [] => rfl
  | t :: L => by
    have ih := mix_map L
    simp only [xsT, frT, szT, List.map_cons, mix] at ih ⊢
    rw [ih]
theorem fre_true : ∀ (l : List Bool) (i : Int), (∀ b ∈ l, b = true) → fre i l = []
  | [], _, _ => rfl
  | b :: l, i, h => by
    rw [fre, if_pos (h b (by simp)), fre_true l (i + 1) fun c hc => h c (by simp [hc])]
theorem filt_map {α β : Type} (p : α → Bool) (f : α → β) : ∀ l : List α, (l.filter p).map f = l.filterMap fun a => if p a then some (f a) else none
  | [] => rfl
  | a :: l => by
    simp only [List.filter_cons, List.filterMap_cons]
    cases p a <;> simp [filt_map p f l]
def Fx.mar (X : Fx) : Int := (X.xs.map lenB).sum + gapS X.gap X.xs.length
structure Fine (X : Fx) : Prop where
  ok : itsOk X.xs = true
  in0 : 0 ≤ X.inner
  in1 : X.inner ≤ 1048576
  b1 : X.inner - X.mar ≤ 500000
  b2 : X.mar + (X.xs.map bigS).sum - X.inner ≤ 500000
structure InvT (X : Fx) (L : List Tr) : Prop where
  xs : X.xs = xsT L
  el : ∀ t ∈ L, Pel X.gr t
  up : X.gr = true → heT L + ((unT L).map hyp).sum ≤ X.inner - X.mar
  dn : X.gr = false → X.inner - X.mar ≤ heT L + ((unT L).map hyp).sum
/-- The room that a pass parts. -/
def Fx.room (X : Fx) (L : List Tr) : Int := X.inner - X.mar - (heT L + ((unT L).map fun x => x.base).sum)
theorem un_pel {X : Fx} {L : List Tr} (hI : InvT X L) {x : GItem} (h : x ∈ unT L) : ItB x ∧ 0 < wgt X.gr x ∧ (X.gr = true → x.base ≤ hyp x) ∧ (X.gr = false → hyp x ≤ x.base) := by
  obtain ⟨s, hs⟩ := un_mem h
  have hp := hI.el _ hs
  exact ⟨hp.ok, (hp.un rfl).1, (hp.un rfl).2.1, (hp.un rfl).2.2⟩
theorem rest_eq {X : Fx} (hF : Fine X) {L : List Tr} (hI : InvT X L) :
    X.rI (frT L) (szT L) = X.room L ∧ -500000 ≤ X.room L ∧ X.room L ≤ 500000 ∧ (X.gr = true → 0 ≤ X.room L ∧ ∀ x ∈ unT L, x.base + X.room L ≤ 500000) ∧ (X.gr = false → X.room L ≤ 0) := by
  obtain ⟨S, hS⟩ : ∃ S, S = (L.map fun t => if t.2.1 then t.2.2 else t.1.base).sum := ⟨_, rfl⟩
  have hsp : S = heT L + ((unT L).map fun x => x.base).sum := by rw [hS]; exact tr_split _ L
  have h0 : ∀ t ∈ L, 0 ≤ (if t.2.1 then t.2.2 else t.1.base) ∧ (if t.2.1 then t.2.2 else t.1.base) ≤ bigS t.1 := fun t ht => by
    have hp := hI.el t ht
    have l0 := hp.ok.l0
    have b0 := hp.ok.b0
    cases hf : t.2.1 with
    | true =>
      obtain ⟨h1, h2, _⟩ := hp.he hf
      have := h1.1
      simp only [if_true]
      omega
    | false =>
      simp only [Bool.false_eq_true, if_false]
      refine ⟨b0, ?_⟩
      unfold bigS most0
      split <;> omega
  have hS0 : 0 ≤ S := by rw [hS]; exact ss_nonneg fun t ht => (h0 t ht).1
  have hS1 : S ≤ (X.xs.map bigS).sum := by
    rw [hS, hI.xs, xsT, List.map_map]
    exact ss_le fun t ht => (h0 t ht).2
  have hSm : ∀ x ∈ unT L, x.base ≤ S := fun x hx => by
    obtain ⟨s, hs⟩ := un_mem hx
    have := ss_mem (f := fun t : Tr => if t.2.1 then t.2.2 else t.1.base) (fun t ht => (h0 t ht).1) _ hs
    rw [← hS] at this
    simpa using this
  have hn : X.room L = X.inner - X.mar - S := by rw [hsp]; rfl
  have b1 := hF.b1
  have b2 := hF.b2
  have i0 := hF.in0
  have i1 := hF.in1
  have hu : X.gr = true → 0 ≤ X.room L := fun hg => by
    have := hI.up hg
    have := ss_le (l := unT L) (f := fun x => x.base) (h := hyp) fun x hx => (un_pel hI hx).2.2.1 hg
    unfold Fx.room; omega
  have hd : X.gr = false → X.room L ≤ 0 := fun hg => by
    have := hI.dn hg
    have := ss_le (l := unT L) (f := hyp) (h := fun x => x.base) fun x hx => (un_pel hI hx).2.2.2 hg
    unfold Fx.room; omega
  refine ⟨?_, by omega, by omega, fun hg => ⟨hu hg, fun x hx => by have := hSm x hx; omega⟩, hd⟩
  have hl := (itsOk_mem hF.ok).2
  have ho : outer X.xs (mix X.xs (frT L) (szT L)) X.gap = X.mar + S := by
    have em : mix X.xs (frT L) (szT L) = L.map fun t => if t.2.1 then t.2.2 else t.1.base := by rw [hI.xs]; exact mix_map L
    rw [em, outer, List.map_id, ← hS]; rfl
  have e1 : wrap64 (X.mar + S) = X.mar + S := by unfold wrap64; omega
  have e2 : wrap64 (X.inner - (X.mar + S)) = X.room L := by unfold wrap64; omega
  unfold Fx.rI
  simp only [rstN]
  rw [ho, e1, e2]
  cases hg : X.gr with
  | true =>
    have := hu hg
    rw [if_neg (by simp; omega)]
    unfold sg bro
    rw [if_neg (by omega)]
    split <;> omega
  | false =>
    have := hd hg
    rw [if_neg (by simp; omega)]
    unfold sg bro
    rw [if_neg (by omega)]
    split <;> omega
/-- What a pass that holds some sets. -/
def stepV (gr : Bool) (A n v : Int) (x : GItem) : Option Int :=
  if 0 ≤ v ∧ lowB gr A n x = true then some x.least else if v ≤ 0 ∧ (!lowB gr A n x && higB gr A n x) = true then some (uppI x) else none
def stp (st : GItem → Option Int) (L : List Tr) : List Tr := L.map fun t => (t.1, t.2.1 || (st t.1).isSome, if t.2.1 then t.2.2 else (st t.1).getD t.2.2)
theorem stp_set (gr : Bool) (A n v : Int) (L : List Tr) (ps : List (Int × Int))
    (hps : ps = (if 0 ≤ v then ((fre 0 (frT L)).filter fun i => lowB gr A n (itA (xsT L) i)).map fun i => (i, (itA (xsT L) i).least) else []) ++ (if v ≤ 0 then ((fre 0 (frT L)).filter fun i => !lowB gr A n (itA (xsT L) i) && higB gr A n (itA (xsT L) i)).map fun i => (i, uppI (itA (xsT L) i)) else [])) :
    setz ps (szT L) = szT (stp (stepV gr A n v) L) ∧ setb (ps.map (·.1)) (frT L) = frT (stp (stepV gr A n v) L) := by
  obtain ⟨s1, hs1⟩ : ∃ s : GItem → Option Int, s = fun x => if 0 ≤ v ∧ lowB gr A n x = true then some x.least else none := ⟨_, rfl⟩
  obtain ⟨s2, hs2⟩ : ∃ s : GItem → Option Int, s = fun x => if v ≤ 0 ∧ (!lowB gr A n x && higB gr A n x) = true then some (uppI x) else none := ⟨_, rfl⟩
  have e1 : (if 0 ≤ v then ((fre 0 (frT L)).filter fun i => lowB gr A n (itA (xsT L) i)).map fun i => (i, (itA (xsT L) i).least) else []) = (fre 0 (frT L)).filterMap fun j => (s1 (itA (xsT L) j)).map fun v => (j, v) := by
    rw [hs1]
    by_cases hv : 0 ≤ v
    · rw [if_pos hv, filt_map]
      refine fm_congr fun i _ => ?_
      by_cases hq : lowB gr A n (itA (xsT L) i) = true
      · rw [if_pos hq]; dsimp only; rw [if_pos ⟨hv, hq⟩]; rfl
      · rw [if_neg hq]; dsimp only; rw [if_neg fun h => hq h.2]; rfl
    · rw [if_neg hv]
      simp only [hv, false_and, if_false, Option.map_none]
      exact (List.filterMap_eq_nil_iff.2 fun _ _ => rfl).symm
  have e2 : (if v ≤ 0 then ((fre 0 (frT L)).filter fun i => !lowB gr A n (itA (xsT L) i) && higB gr A n (itA (xsT L) i)).map fun i => (i, uppI (itA (xsT L) i)) else []) = (fre 0 (frT L)).filterMap fun j => (s2 (itA (xsT L) j)).map fun v => (j, v) := by
    rw [hs2]
    by_cases hv : v ≤ 0
    · rw [if_pos hv, filt_map]
      refine fm_congr fun i _ => ?_
      by_cases hq : (!lowB gr A n (itA (xsT L) i) && higB gr A n (itA (xsT L) i)) = true
      · rw [if_pos hq]; dsimp only; rw [if_pos ⟨hv, hq⟩]; rfl
      · rw [if_neg hq]; dsimp only; rw [if_neg fun h => hq h.2]; rfl
    · rw [if_neg hv]
      simp only [hv, false_and, if_false, Option.map_none]
      exact (List.filterMap_eq_nil_iff.2 fun _ _ => rfl).symm
  have hst : ∀ x, stepV gr A n v x = (s1 x).orElse fun _ => s2 x := fun x => by
    rw [hs1, hs2]
    unfold stepV
    by_cases h : 0 ≤ v ∧ lowB gr A n x = true
    · simp [h]
    · simp [h]
  have hdis : ∀ x y, s1 x = some y → s2 x = none := fun x y h => by
    rw [hs1] at h
    rw [hs2]
    simp only at h ⊢
    by_cases h' : 0 ≤ v ∧ lowB gr A n x = true
    · simp [h'.2]
    · rw [if_neg h'] at h; cases h
  rw [e1, e2] at hps
  obtain ⟨L1, hL1⟩ : ∃ L1 : List Tr, L1 = L.map fun t => (t.1, t.2.1, if t.2.1 then t.2.2 else (s1 t.1).getD t.2.2) := ⟨_, rfl⟩
  obtain ⟨L2, hL2⟩ : ∃ L2 : List Tr, L2 = L.map fun t => (t.1, t.2.1 || (s1 t.1).isSome, t.2.2) := ⟨_, rfl⟩
  have x1 : xsT L1 = xsT L := by rw [hL1]; simp [xsT, Function.comp_def]
  have y1 : frT L1 = frT L := by rw [hL1]; simp [frT, Function.comp_def]
  have z1 : szT L1 = L.map fun t => if t.2.1 then t.2.2 else (s1 t.1).getD t.2.2 := by rw [hL1]; simp [szT, Function.comp_def]
  have f1 := fre_step s1 L [] [] rfl
  have f2 := fre_step s2 L1 [] [] rfl
  simp only [List.length_nil, Int.natCast_zero, List.nil_append] at f1 f2
  rw [x1, y1] at f2
  rw [← z1] at f1
  refine ⟨?_, ?_⟩
  · rw [hps, setz, List.foldl_append]
    show setz _ (setz _ _) = _
    rw [f1, f2, hL1, stp, szT, List.map_map, List.map_map]
    refine List.map_congr_left fun t ht => ?_
    simp only [Function.comp_def]
    cases hf : t.2.1 with
    | true => simp
    | false =>
      rw [hst]
      simp only [Bool.false_eq_true, if_false]
      cases h1 : s1 t.1 with
      | none => simp
      | some y => simp [hdis _ _ h1]
  · have hb : ∀ (ps : List Int) (qs : List Int) (l : List Bool), setb (ps ++ qs) l = setb qs (setb ps l) := fun ps qs l => by rw [setb, List.foldl_append]; rfl
    have key : ∀ (s : GItem → Option Int) (L : List Tr) (fr : List Bool), fr.length = L.length → setb (((fre 0 (frT L)).filterMap fun j => (s (itA (xsT L) j)).map fun v => (j, v)).map (·.1)) fr = (L.zip fr).map fun p => p.2 || (!p.1.2.1 && (s p.1.1).isSome) := by
      intro s L fr hl
      have go : ∀ (L : List Tr) (P : List GItem) (Q fr : List Bool), Q.length = P.length → fr.length = L.length → setb (((fre P.length (frT L)).filterMap fun j => (s (itA (P ++ xsT L) j)).map fun v => (j, v)).map (·.1)) (Q ++ fr) = Q ++ (L.zip fr).map fun p => p.2 || (!p.1.2.1 && (s p.1.1).isSome) := by
        intro L
        induction L with
        | nil => intro P Q fr _ h; have := List.eq_nil_of_length_eq_zero h; subst this; simp [fre, frT, setb]
        | cons t L ih =>
          obtain ⟨x, f, z⟩ := t
          intro P Q fr hQ hl
          match fr, hl with
          | b :: fr, hl =>
            have ih := fun v => ih (P ++ [x]) (Q ++ [v]) fr (by simp [hQ]) (by simpa using hl)
            simp only [List.append_assoc, List.cons_append, List.nil_append, List.length_append, List.length_cons, List.length_nil, Nat.zero_add, Int.natCast_add, Int.cast_ofNat_Int] at ih
            simp only [frT, xsT, List.map_cons, fre, List.zip_cons_cons] at ih ⊢
            cases f with
            | true => simpa using ih b
            | false =>
              simp only [Bool.false_eq_true, if_false, List.filterMap_cons]
              rw [itA_mid]
              cases hx : s x with
              | none => simpa using ih b
              | some v =>
                simp only [Option.map_some, List.map_cons]
                show setb _ ((Q ++ b :: _).set _ _) = _
                have e : ∀ l : List Bool, (Q ++ b :: l).set ((P.length : Int)).toNat true = Q ++ true :: l := fun l => by rw [Int.toNat_natCast, ← hQ]; simp
                rw [e]
                simpa using ih true
          | [], hl => simp at hl
      have := go L [] [] fr rfl hl
      simpa using this
    have hz : ∀ (h : Tr → Bool) (L : List Tr), L.zip (L.map h) = L.map fun t => (t, h t) := fun h L => by
      induction L with
      | nil => rfl
      | cons t L ih => simp only [List.map_cons, List.zip_cons_cons, ih]
    have hfl : (frT L).length = L.length := by simp [frT]
    have k1 := key s1 L (frT L) hfl
    rw [frT, hz, List.map_map] at k1
    have k2 := key s2 L (L.map fun t => t.2.1 || (!t.2.1 && (s1 t.1).isSome)) (by simp)
    rw [hz, List.map_map] at k2
    rw [hps, List.map_append, hb, frT, k1]
    rw [frT] at k2
    refine Eq.trans k2 ?_
    rw [stp, frT, List.map_map]
    refine List.map_congr_left fun t ht => ?_
    simp only [Function.comp_def]
    rw [hst]
    cases t.2.1 <;> cases s1 t.1 <;> cases s2 t.1 <;> rfl
theorem stp_xs (st : GItem → Option Int) (L : List Tr) : xsT (stp st L) = xsT L := by simp [xsT, stp, Function.comp_def]
theorem stp_sum (st : GItem → Option Int) (h : GItem → Int) (L : List Tr) : heT (stp st L) + ((unT (stp st L)).map h).sum = heT L + ((unT L).map fun x => (st x).getD (h x)).sum := by
  rw [← tr_split h (stp st L), ← tr_split _ L, stp, List.map_map]
  refine ss_congr fun t _ => ?_
  simp only [Function.comp_def]
  cases t.2.1 with
  | true => simp
  | false => cases st t.1 <;> simp
theorem ws_un {X : Fx} {L : List Tr} (hI : InvT X L) : X.ws (frT L) = (unT L).map (wgt X.gr) := by
  have := fre_map (wgt X.gr) L []
  simp only [List.length_nil, Int.natCast_zero, List.nil_append] at this
  rw [Fx.ws, hI.xs]; exact this
section
variable {X : Fx} (hF : Fine X) {L : List Tr} (hI : InvT X L)
include hF hI
theorem all_un (hne : unT L ≠ []) : X.all (frT L) = ((unT L).map (wgt X.gr)).sum ∧ 0 < X.all (frT L) ∧ X.all (frT L) ≤ 12582912000 := by
  have hl : (frT L).length = X.xs.length := by rw [hI.xs]; simp [frT, xsT]
  have := X.all_eq hF.ok hl
  rw [ws_un hI] at this
  refine ⟨this.1, ?_, this.2.2⟩
  rw [this.1]
  exact ss_pos (fun x hx => (un_pel hI hx).2.1) hne
theorem vio_un : X.vio (frT L) (X.room L) = ((unT L).map (ovr X.gr (X.all (frT L)) (X.room L))).sum := by
  have hl : (frT L).length = X.xs.length := by rw [hI.xs]; simp [frT, xsT]
  obtain ⟨_, r1, r2, _⟩ := rest_eq hF hI
  rw [(X.ovs_eq hF.ok hl (rest := X.room L) (by omega) (by omega)).2, Fx.ovs, hI.xs]
  have := fre_map (ovr X.gr (X.all (frT L)) (X.room L)) L []
  simp only [List.length_nil, Int.natCast_zero, List.nil_append] at this
  rw [this]
theorem inv_step (hne : unT L ≠ []) : InvT X (stp (stepV X.gr (X.all (frT L)) (X.room L) (X.vio (frT L) (X.room L))) L) := by
  obtain ⟨_, r1, r2, r3, r4⟩ := rest_eq hF hI
  obtain ⟨a1, a2, a3⟩ := all_un hF hI hne
  have hv := vio_un hF hI
  obtain ⟨A, hA⟩ : ∃ A, A = X.all (frT L) := ⟨_, rfl⟩
  obtain ⟨n, hn⟩ : ∃ n, n = X.room L := ⟨_, rfl⟩
  obtain ⟨v, hvv⟩ : ∃ v, v = X.vio (frT L) (X.room L) := ⟨_, rfl⟩
  rw [← hvv] at hv ⊢
  rw [← hA] at a1 a2 a3 hv ⊢
  rw [← hn] at r1 r2 r3 r4 hv ⊢
  have law := fun x (hx : x ∈ unT L) => ov_law (un_pel hI hx).1 X.gr a2 a3 (n := n) (by omega) (by omega)
  -- the sum of what the items would have
  have hc : ((unT L).map fun x => ovr X.gr A n x + (x.base * A + n * wgt X.gr x)).sum = v + A * ((unT L).map fun x => x.base).sum + n * A := by
    rw [ss_add, ← hv, ss_add]
    have e1 : ((unT L).map fun x => x.base * A).sum = A * ((unT L).map fun x => x.base).sum := by
      rw [← ss_mul]; exact ss_congr fun x _ => Int.mul_comm _ _
    rw [e1, ss_mul, a1]; omega
  have hroom : n = X.inner - X.mar - heT L - ((unT L).map fun x => x.base).sum := by rw [hn, Fx.room]; omega
  have facts := fun x (hx : x ∈ unT L) => hyp_facts (un_pel hI hx).1
  refine ⟨by rw [stp_xs]; exact hI.xs, fun t ht => ?_, fun hg => ?_, fun hg => ?_⟩
  · simp only [stp, List.mem_map] at ht
    obtain ⟨⟨x, f, s⟩, hm, rfl⟩ := ht
    have hp := hI.el _ hm
    cases f with
    | true => exact ⟨hp.ok, fun h => by simp at h, fun _ => by simpa using hp.he rfl⟩
    | false =>
      have hx := un_of hm
      obtain ⟨_, f2, f3, f4, f5, f6⟩ := facts x hx
      refine ⟨hp.ok, fun h => hp.un rfl, fun h => ?_⟩
      simp only [Bool.false_or, Bool.false_eq_true, if_false] at h ⊢
      unfold stepV at h ⊢
      split
      · rename_i h1
        simp only [Option.getD_some]
        exact ⟨⟨Int.le_refl _, fun hm => (f5 hm).2⟩, f6, .inr (by simp [atB])⟩
      · rename_i h1
        rw [if_neg h1] at h
        split
        · rename_i h2
          obtain ⟨c, _, _, l2, _⟩ := law x hx
          have hm := (l2 h2.2).2.1
          simp only [Option.getD_some]
          exact ⟨⟨(f5 hm).2, fun _ => Int.le_refl _⟩, (f5 hm).1, .inr (by simp [atB, hm])⟩
        · rename_i h2
          rw [if_neg h2] at h
          cases h
  · rw [stp_sum]
    have hn0 := (r3 hg).1
    have nw : ∀ x ∈ unT L, 0 ≤ n * wgt X.gr x := fun x hx => Int.mul_nonneg hn0 (by have := (un_pel hI hx).2.1; omega)
    have lowh : ∀ x ∈ unT L, lowB X.gr A n x = true → hyp x = x.least := fun x hx hl => by
      obtain ⟨c, _, l1, _⟩ := law x hx
      have h1 := (l1 hl).2
      have h2 := nw x hx
      have h3 : A * x.base < A * x.least := by rw [Int.mul_comm A x.base]; omega
      have h4 : x.base < x.least := Int.lt_of_mul_lt_mul_left h3 (by omega)
      obtain ⟨⟨g1, _⟩, _, g3, _⟩ := facts x hx
      exact g3 (by omega)
    by_cases hv0 : 0 < v
    · have e : ((unT L).map fun x => (stepV X.gr A n v x).getD (hyp x)).sum = ((unT L).map hyp).sum := ss_congr fun x hx => by
        unfold stepV
        by_cases hl : lowB X.gr A n x = true
        · rw [if_pos ⟨by omega, hl⟩]; exact (lowh x hx hl).symm
        · rw [if_neg fun h => hl h.2, if_neg fun h => by omega]; rfl
      rw [e]; exact hI.up hg
    · have key : ((unT L).map fun x => A * (stepV X.gr A n v x).getD (hyp x)).sum ≤ ((unT L).map fun x => ovr X.gr A n x + (x.base * A + n * wgt X.gr x)).sum := ss_le fun x hx => by
        obtain ⟨c, hc0, l1, l2, l3, l4, l5⟩ := law x hx
        rw [← hc0]
        have hnw := nw x hx
        unfold stepV
        by_cases hl : lowB X.gr A n x = true
        · have := lowh x hx hl
          have := (l1 hl).1
          split
          · simp only [Option.getD_some]; omega
          · rw [if_neg (by rw [hl]; simp)]
            simp only [Option.getD_none]
            rw [lowh x hx hl]; omega
        · have hl' : lowB X.gr A n x = false := by simpa using hl
          rw [if_neg fun h => hl h.2]
          by_cases hh : higB X.gr A n x = true
          · rw [if_pos ⟨by omega, by rw [hl', hh]; rfl⟩]
            have := (l2 (by rw [hl', hh]; rfl)).1
            simp only [Option.getD_some]; omega
          · have hh' : higB X.gr A n x = false := by simpa using hh
            rw [if_neg fun h => by rw [hh', hl'] at h; simp at h]
            simp only [Option.getD_none]
            have h5 := l5 hl' hh'
            have h3 := l3 hl'
            have hb := (un_pel hI hx).2.2.1 hg
            rcases Int.lt_or_le x.base (hyp x) with h | h
            · rw [(facts x hx).2.2.1 h]; omega
            · have e : hyp x = x.base := by omega
              rw [e, Int.mul_comm A x.base]; omega
      rw [ss_mul, hc] at key
      have k2 : A * ((unT L).map fun x => (stepV X.gr A n v x).getD (hyp x)).sum ≤ A * (((unT L).map fun x => x.base).sum + n) := by rw [Int.mul_add, Int.mul_comm A n]; omega
      have k3 := Int.le_of_mul_le_mul_left k2 a2
      omega
  · rw [stp_sum]
    have hn0 := r4 hg
    have nw : ∀ x ∈ unT L, n * wgt X.gr x ≤ 0 := fun x hx => Int.mul_nonpos_of_nonpos_of_nonneg hn0 (by have := (un_pel hI hx).2.1; omega)
    have higx : ∀ x ∈ unT L, (!lowB X.gr A n x && higB X.gr A n x) = true → hyp x = uppI x := fun x hx hl => by
      obtain ⟨c, _, _, l2, _⟩ := law x hx
      have h1 := (l2 hl).2.2
      have h2 := nw x hx
      have h3 : A * uppI x < A * x.base := by rw [Int.mul_comm A x.base]; omega
      have h4 : uppI x < x.base := Int.lt_of_mul_lt_mul_left h3 (by omega)
      obtain ⟨⟨_, g1⟩, _, _, g3, _⟩ := facts x hx
      have := g1 (l2 hl).2.1
      exact (g3 (by omega)).2
    by_cases hv0 : v < 0
    · have e : ((unT L).map fun x => (stepV X.gr A n v x).getD (hyp x)).sum = ((unT L).map hyp).sum := ss_congr fun x hx => by
        unfold stepV
        rw [if_neg fun h => by omega]
        by_cases hl : (!lowB X.gr A n x && higB X.gr A n x) = true
        · rw [if_pos ⟨by omega, hl⟩]; exact (higx x hx hl).symm
        · rw [if_neg fun h => hl h.2]; rfl
      rw [e]; exact hI.dn hg
    · have key : ((unT L).map fun x => ovr X.gr A n x + (x.base * A + n * wgt X.gr x)).sum ≤ ((unT L).map fun x => A * (stepV X.gr A n v x).getD (hyp x)).sum := ss_le fun x hx => by
        obtain ⟨c, hc0, l1, l2, l3, l4, l5⟩ := law x hx
        rw [← hc0]
        have hnw := nw x hx
        unfold stepV
        by_cases hl : lowB X.gr A n x = true
        · have := (l1 hl).1
          rw [if_pos ⟨by omega, hl⟩]
          simp only [Option.getD_some]; omega
        · have hl' : lowB X.gr A n x = false := by simpa using hl
          rw [if_neg fun h => hl h.2]
          by_cases hh : higB X.gr A n x = true
          · have hb : (!lowB X.gr A n x && higB X.gr A n x) = true := by rw [hl', hh]; rfl
            have h1 := (l2 hb).1
            have h2 := higx x hx hb
            split
            · simp only [Option.getD_some]; omega
            · simp only [Option.getD_none]; rw [h2]; omega
          · have hh' : higB X.gr A n x = false := by simpa using hh
            rw [if_neg fun h => by rw [hh', hl'] at h; simp at h]
            simp only [Option.getD_none]
            have h5 := l5 hl' hh'
            have h4 := l4 hl' hh'
            have hb := (un_pel hI hx).2.2.2 hg
            rcases Int.lt_or_le (hyp x) x.base with h | h
            · obtain ⟨g1, g2⟩ := (facts x hx).2.2.2.1 h
              rw [g2]; have := h4 g1; omega
            · have e : hyp x = x.base := by omega
              rw [e, Int.mul_comm A x.base]; omega
      rw [ss_mul, hc] at key
      have k2 : A * (((unT L).map fun x => x.base).sum + n) ≤ A * ((unT L).map fun x => (stepV X.gr A n v x).getD (hyp x)).sum := by rw [Int.mul_add, Int.mul_comm A n]; omega
      have k3 := Int.le_of_mul_le_mul_left k2 a2
      omega
end
theorem fin_put (gr : Bool) {n A : Int} (hA0 : 0 < A) (hA1 : A ≤ 12582912000) (hn0 : -500000 ≤ n) (hn1 : n ≤ 500000) : ∀ (L : List Tr) (s : Int), 0 ≤ s → s + ((unT L).map (wgt gr)).sum ≤ A →
    (∀ x ∈ unT L, ItB x ∧ 0 < wgt gr x ∧ A * x.least ≤ x.base * A + n * wgt gr x ∧ (0 ≤ x.most → x.base * A + n * wgt gr x ≤ A * uppI x) ∧ ((0 ≤ n ∧ x.base + n ≤ 500000) ∨ n ≤ 0)) → (∀ t ∈ L, t.2.1 = true → inB t.1 t.2.2) →
    (∀ p ∈ (xsT L).zip (put (fun x v => cl (wrap64 (x.base + v))) L (shG n A s ((unT L).map (wgt gr)))), inB p.1 p.2) ∧
    (put (fun x v => cl (wrap64 (x.base + v))) L (shG n A s ((unT L).map (wgt gr)))).sum = heT L + ((unT L).map fun x => x.base).sum + (fdv (n * (s + ((unT L).map (wgt gr)).sum)) A - fdv (n * s) A)
  | [], s, _, _, _, _ => by simp [put, xsT, heT, unT]
  | ⟨x, true, z⟩ :: L, s, h0, h1, hu, hh => by
    have hh' := hh (x, true, z) (by simp) rfl
    have e1 : unT ((x, true, z) :: L) = unT L := by simp [unT]
    have e2 : heT ((x, true, z) :: L) = z + heT L := by simp [heT]
    rw [e1] at h1 hu ⊢
    obtain ⟨i1, i2⟩ := fin_put gr hA0 hA1 hn0 hn1 L s h0 h1 hu fun t ht => hh t (by simp [ht])
    simp only [put, if_true, xsT, List.map_cons, List.zip_cons_cons, List.mem_cons, List.sum_cons] at i1 i2 ⊢
    refine ⟨fun p hp => ?_, by rw [i2, e2]; omega⟩
    rcases hp with rfl | hp
    · exact hh'
    · exact i1 p hp
  | ⟨x, false, z⟩ :: L, s, h0, h1, hu, hh => by
    have e1 : unT ((x, false, z) :: L) = x :: unT L := by simp [unT]
    have e2 : heT ((x, false, z) :: L) = heT L := by simp [heT]
    rw [e1] at h1 hu ⊢
    obtain ⟨x1, x2, x3, x4, x5⟩ := hu x (by simp)
    have hu' := fun y hy => hu y (List.mem_cons_of_mem _ hy)
    simp only [List.map_cons, List.sum_cons] at h1
    have hs0 : 0 ≤ ((unT L).map (wgt gr)).sum := ss_nonneg fun y hy => by have := (hu' y hy).2.1; omega
    obtain ⟨w, hw⟩ : ∃ w, w = wgt gr x := ⟨_, rfl⟩
    rw [← hw] at h1 x2 x3 x4
    have es : wrap64 (s + w) = s + w := by unfold wrap64; omega
    have b1 := mul_bs hn0 hn1 (show 0 ≤ s + w by omega) (show s + w ≤ 12582912000 by omega)
    have b0 := mul_bs hn0 hn1 h0 (show s ≤ 12582912000 by omega)
    have bw := mul_bs hn0 hn1 (show 0 ≤ w by omega) (show w ≤ 12582912000 by omega)
    have e3 : wrap64 (n * (s + w)) = n * (s + w) := by unfold wrap64; omega
    have e4 : wrap64 (n * s) = n * s := by unfold wrap64; omega
    obtain ⟨q1, hq1⟩ : ∃ q, q = fdv (n * (s + w)) A := ⟨_, rfl⟩
    obtain ⟨q0, hq0⟩ : ∃ q, q = fdv (n * s) A := ⟨_, rfl⟩
    obtain ⟨c1, c2⟩ := fdv_br hA0 (show -4611686018427387904 ≤ n * (s + w) by omega) (by omega)
    obtain ⟨d1, d2⟩ := fdv_br hA0 (show -4611686018427387904 ≤ n * s by omega) (by omega)
    rw [← hq1] at c1 c2
    rw [← hq0] at d1 d2
    obtain ⟨D, hD⟩ : ∃ D, D = q1 - q0 := ⟨_, rfl⟩
    have hAD : A * D = A * q1 - A * q0 := by rw [hD, Int.mul_sub]
    have hns : n * (s + w) = n * s + n * w := Int.mul_add _ _ _
    have u1 : A * D < n * w + A := by omega
    have u2 : n * w - A < A * D := by omega
    have hwA : w ≤ A := by omega
    have t1 : n * w ≤ 500000 * A ∧ -(500000 * A) ≤ n * w := by
      have := mul_bs hn0 hn1 (show 0 ≤ w by omega) hwA
      omega
    have v1 : D < 500001 := Int.lt_of_mul_lt_mul_left (a := A) (by rw [Int.mul_comm A 500001]; omega) (by omega)
    have v2 : -500001 < D := Int.lt_of_mul_lt_mul_left (a := A) (by rw [Int.mul_comm A (-500001)]; omega) (by omega)
    have ev : wrap64 (fdv (wrap64 (n * wrap64 (s + w))) A - fdv (wrap64 (n * s)) A) = D := by
      rw [es, e3, e4, ← hq1, ← hq0, ← hD]; unfold wrap64; omega
    have l1 : x.least ≤ x.base + D := by
      have : A * x.least < A * (x.base + D + 1) := by rw [Int.mul_add, Int.mul_add, Int.mul_one, Int.mul_comm A x.base]; omega
      have := Int.lt_of_mul_lt_mul_left this (by omega)
      omega
    have l2 : 0 ≤ x.most → x.base + D ≤ uppI x := fun hm => by
      have := x4 hm
      have : A * (x.base + D - 1) < A * uppI x := by rw [Int.mul_sub, Int.mul_add, Int.mul_one, Int.mul_comm A x.base]; omega
      have := Int.lt_of_mul_lt_mul_left this (by omega)
      omega
    have l3 : x.base + D ≤ 1048576 := by
      have := x1.b1
      rcases x5 with ⟨g1, g2⟩ | g1
      · have : n * w ≤ n * A := Int.mul_le_mul_of_nonneg_left hwA g1
        have : D < n + 1 := Int.lt_of_mul_lt_mul_left (a := A) (by rw [Int.mul_add, Int.mul_one, Int.mul_comm A n]; omega) (by omega)
        omega
      · have : n * w ≤ 0 := Int.mul_nonpos_of_nonpos_of_nonneg g1 (by omega)
        have : D < 1 := Int.lt_of_mul_lt_mul_left (a := A) (by rw [Int.mul_one]; omega) (by omega)
        omega
    have l0 := x1.l0
    have ec : cl (wrap64 (x.base + D)) = x.base + D := by
      have : wrap64 (x.base + D) = x.base + D := by have := x1.b0; unfold wrap64; omega
      rw [this]; unfold cl bro; rw [if_neg (by omega)]; split <;> omega
    obtain ⟨i1, i2⟩ := fin_put gr hA0 hA1 hn0 hn1 L (s + w) (by omega) (by omega) hu' fun t ht => hh t (by simp [ht])
    simp only [put, Bool.false_eq_true, if_false, xsT, List.map_cons, shG, List.zip_cons_cons, List.mem_cons, List.sum_cons] at i1 i2 ⊢
    rw [← hw, ev, es, ec]
    refine ⟨fun p hp => ?_, ?_⟩
    · rcases hp with rfl | hp
      · exact ⟨l1, l2⟩
      · exact i1 p hp
    · rw [i2, e2, ← hq0, ← hq1, Int.add_assoc s w]
      omega
theorem run_holds {X : Fx} (hF : Fine X) : ∀ (k : Nat) (L : List Tr), InvT X L → ∀ res, X.runI k (szT L) (frT L) = some res →
    (∀ p ∈ X.xs.zip res, inB p.1 p.2) ∧ ((∀ p ∈ X.xs.zip res, wgt X.gr p.1 = 0 ∨ atB p.1 p.2 = true) ∨ X.mar + res.sum = X.inner)
  | 0, _, _, _, h => by cases h
  | k + 1, L, hI, res, h => by
    rw [Fx.runI] at h
    by_cases hn : fre 0 (frT L) = []
    · rw [if_pos hn] at h
      cases h
      have hun := fre_nil hn
      have hz : X.xs.zip (szT L) = L.map fun t => (t.1, t.2.2) := by rw [hI.xs, xsT, szT, List.zip_map']
      have hall : ∀ t ∈ L, t.2.1 = true := fun t ht => by
        cases hf : t.2.1 with
        | true => rfl
        | false =>
          obtain ⟨x, f, s⟩ := t
          simp only at hf
          subst hf
          have := un_of ht
          rw [hun] at this; cases this
      rw [hz]
      refine ⟨fun p hp => ?_, .inl fun p hp => ?_⟩ <;> obtain ⟨t, ht, rfl⟩ := List.mem_map.1 hp
      · exact ((hI.el t ht).he (hall t ht)).1
      · exact ((hI.el t ht).he (hall t ht)).2.2
    · rw [if_neg hn] at h
      obtain ⟨r0, r1, r2, r3, r4⟩ := rest_eq hF hI
      rw [r0] at h
      have hne : unT L ≠ [] := fun hu => hn (by
        have e : ∀ (L : List Tr) (i : Int), unT L = [] → fre i (frT L) = [] := fun L => by
          induction L with
          | nil => intro i _; rfl
          | cons t L ih =>
            intro i hu
            obtain ⟨x, f, s⟩ := t
            cases f with
            | true => simpa [frT, fre] using ih (i + 1) (by simpa [unT] using hu)
            | false => simp [unT] at hu
        exact e L 0 hu)
      obtain ⟨a1, a2, a3⟩ := all_un hF hI hne
      by_cases hq : X.low (frT L) (X.room L) = [] ∧ X.hig (frT L) (X.room L) = []
      · have hset : X.setI (frT L) (X.room L) = X.shs (frT L) (X.room L) := by rw [Fx.setI, if_pos hq]
        rw [hset] at h
        have hsh : X.shs (frT L) (X.room L) = ((fre 0 (frT L)).zip (shr (X.room L) (X.ws (frT L)))).map fun p => (p.1, cl (wrap64 ((itA (xsT L) p.1).base + p.2))) := by rw [Fx.shs, hI.xs]
        have hl : (frT L).length = X.xs.length := by rw [hI.xs]; simp [frT, xsT]
        have hwl : (X.ws (frT L)).length ≤ 12 := by
          have := fre_len (frT L) 0
          have := (itsOk_mem hF.ok).2
          simp only [Fx.ws, List.length_map]; omega
        have hws : wsOk (X.ws (frT L)) = true := by
          have h1 := X.ws_bd hF.ok (frT L)
          simp only [wsOk, rng, Bool.and_eq_true, decide_eq_true_eq, List.all_eq_true]
          exact ⟨fun w hw => by have := h1 w hw; omega, by omega⟩
        have hsg : sg (X.room L) = X.room L := by unfold sg bro; rw [if_neg (by omega)]; split <;> omega
        have hshr : shr (X.room L) (X.ws (frT L)) = shG (X.room L) (X.all (frT L)) 0 ((unT L).map (wgt X.gr)) := by
          rw [shr, if_pos hws, hsg, ← ws_un hI]; rfl
        rw [hshr] at hsh
        obtain ⟨vs, hvs⟩ : ∃ vs, vs = shG (X.room L) (X.all (frT L)) 0 ((unT L).map (wgt X.gr)) := ⟨_, rfl⟩
        rw [← hvs] at hsh
        have hvl : vs.length = (unT L).length := by rw [hvs, shG_len, List.length_map]
        have f1 := fre_put (fun x v => cl (wrap64 (x.base + v))) L [] [] vs rfl
        have f2 := fre_putb (fun x v => cl (wrap64 (x.base + v))) L [] [] vs rfl hvl
        simp only [List.length_nil, Int.natCast_zero, List.nil_append] at f1 f2
        rw [hsh, f1, f2] at h
        have hres : res = put (fun x v => cl (wrap64 (x.base + v))) L vs := by
          cases k with
          | zero => cases h
          | succ k =>
            rw [Fx.runI, if_pos (fre_true _ 0 fun b hb => by obtain ⟨_, _, rfl⟩ := List.mem_map.1 hb; rfl)] at h
            cases h; rfl
        have hlow : ∀ x ∈ unT L, lowB X.gr (X.all (frT L)) (X.room L) x = false := fun x hx => by
          have hm := fre_map (lowB X.gr (X.all (frT L)) (X.room L)) L []
          simp only [List.length_nil, Int.natCast_zero, List.nil_append] at hm
          have h1 : lowB X.gr (X.all (frT L)) (X.room L) x ∈ (unT L).map (lowB X.gr (X.all (frT L)) (X.room L)) := List.mem_map.2 ⟨x, hx, rfl⟩
          rw [← hm] at h1
          obtain ⟨j, hj, he⟩ := List.mem_map.1 h1
          have h2 := hq.1
          rw [Fx.low, List.filter_eq_nil_iff] at h2
          have h3 := h2 j hj
          rw [hI.xs, he] at h3
          simpa using h3
        have hhig : ∀ x ∈ unT L, higB X.gr (X.all (frT L)) (X.room L) x = false := fun x hx => by
          have hm := fre_map (fun x => !lowB X.gr (X.all (frT L)) (X.room L) x && higB X.gr (X.all (frT L)) (X.room L) x) L []
          simp only [List.length_nil, Int.natCast_zero, List.nil_append] at hm
          have h1 : (!lowB X.gr (X.all (frT L)) (X.room L) x && higB X.gr (X.all (frT L)) (X.room L) x) ∈ (unT L).map (fun x => !lowB X.gr (X.all (frT L)) (X.room L) x && higB X.gr (X.all (frT L)) (X.room L) x) := List.mem_map.2 ⟨x, hx, rfl⟩
          rw [← hm] at h1
          obtain ⟨j, hj, he⟩ := List.mem_map.1 h1
          have h2 := hq.2
          rw [Fx.hig, List.filter_eq_nil_iff] at h2
          have h3 := h2 j hj
          rw [hI.xs, he, hlow x hx] at h3
          simpa using h3
        have fp := fin_put X.gr a2 a3 r1 r2 L 0 (by omega) (by rw [a1]; omega) (fun x hx => by
          obtain ⟨p1, p2, _, _⟩ := un_pel hI hx
          obtain ⟨c, _, _, _, l3, l4, _⟩ := ov_law p1 X.gr a2 a3 (n := X.room L) (by omega) (by omega)
          refine ⟨p1, p2, l3 (hlow x hx), l4 (hlow x hx) (hhig x hx), ?_⟩
          cases hg : X.gr with
          | true => exact .inl ⟨(r3 hg).1, (r3 hg).2 x hx⟩
          | false => exact .inr (r4 hg)) (fun t ht hf => ((hI.el t ht).he hf).1)
        rw [← hvs, ← hres] at fp
        rw [hI.xs]
        refine ⟨fp.1, .inr ?_⟩
        rw [fp.2, Int.zero_add, ← a1, Int.mul_zero]
        have hb := fdv_br a2 (a := X.room L * X.all (frT L)) (by have := mul_bs r1 r2 (show 0 ≤ X.all (frT L) by omega) a3; omega) (by have := mul_bs r1 r2 (show 0 ≤ X.all (frT L) by omega) a3; omega)
        have e0 : fdv 0 (X.all (frT L)) = 0 := by
          have := fdv_br a2 (a := 0) (by omega) (by omega)
          have h1 : X.all (frT L) * fdv 0 (X.all (frT L)) < X.all (frT L) * 1 := by rw [Int.mul_one]; omega
          have h2 := Int.lt_of_mul_lt_mul_left h1 (by omega)
          have h3 : X.all (frT L) * (-1) < X.all (frT L) * fdv 0 (X.all (frT L)) := by rw [Int.mul_neg, Int.mul_one]; omega
          have h4 := Int.lt_of_mul_lt_mul_left h3 (by omega)
          omega
        have e1 : fdv (X.room L * X.all (frT L)) (X.all (frT L)) = X.room L := by
          obtain ⟨q, hq⟩ : ∃ q, q = fdv (X.room L * X.all (frT L)) (X.all (frT L)) := ⟨_, rfl⟩
          rw [← hq] at hb ⊢
          rw [Int.mul_comm (X.room L)] at hb
          have h2 := Int.le_of_mul_le_mul_left hb.1 a2
          have h1 : X.all (frT L) * X.room L < X.all (frT L) * (q + 1) := by rw [Int.mul_add, Int.mul_one]; omega
          have h4 := Int.lt_of_mul_lt_mul_left h1 (by omega)
          omega
        rw [e0, e1, Fx.room]
        omega
      · have hset : X.setI (frT L) (X.room L) = (if 0 ≤ X.vio (frT L) (X.room L) then ((fre 0 (frT L)).filter fun i => lowB X.gr (X.all (frT L)) (X.room L) (itA (xsT L) i)).map fun i => (i, (itA (xsT L) i).least) else []) ++ (if X.vio (frT L) (X.room L) ≤ 0 then ((fre 0 (frT L)).filter fun i => !lowB X.gr (X.all (frT L)) (X.room L) (itA (xsT L) i) && higB X.gr (X.all (frT L)) (X.room L) (itA (xsT L) i)).map fun i => (i, uppI (itA (xsT L) i)) else []) := by
          rw [Fx.setI, if_neg hq, Fx.low, Fx.hig, hI.xs]
        obtain ⟨s1, s2⟩ := stp_set _ _ _ _ L _ hset
        rw [s1, s2] at h
        exact run_holds hF k _ (inv_step hF hI hne) res h
/-- What the guard of the law adds for an item. -/
def gterm (gap : Int) (x : GItem) : Int := x.base + x.least + 2 * gap + (if 0 < x.most then x.most else 0) + bro x.before 0 1048576 - bro x.before (-1048576) 0 + bro x.behind 0 1048576 - bro x.behind (-1048576) 0
theorem gterm_bd {x : GItem} (h : ItB x) {gap : Int} (hg : 0 ≤ gap) : lenB x + bigS x + gap ≤ gterm gap x ∧ -lenB x ≤ gterm gap x := by
  obtain ⟨h1, h2, h3, h4, h5, h6, h7, h8, h9, h10, h11, h12, h13, h14⟩ := h
  unfold gterm lenB bigS most0 bro
  grind
theorem gapS_bd (gap : Int) (hg : 0 ≤ gap) : ∀ xs : List GItem, 0 ≤ gapS gap xs.length ∧ gapS gap xs.length ≤ (xs.map fun _ => gap).sum
  | [] => by simp [gapS]
  | x :: xs => by
    obtain ⟨h1, h2⟩ := gapS_bd gap hg xs
    have e : gapS gap ((xs.length : Int) + 1) = gapS gap xs.length + if 0 < (xs.length : Int) then gap else 0 := gapS_succ (by omega)
    rw [List.length_cons, Int.natCast_add, Int.cast_ofNat_Int, e, List.map_cons, List.sum_cons]
    split <;> omega
theorem fine_of {xs : List GItem} {gap inner : Int} (hok : itsOk xs = true) (hg0 : 0 ≤ gap) (hi0 : 0 ≤ inner) (hs : inner + (xs.map (gterm gap)).sum ≤ 500000) : Fine (Fx.of xs gap inner) := by
  have hb := (itsOk_mem hok).1
  obtain ⟨g1, g2⟩ := gapS_bd gap hg0 xs
  have t1 := ss_le (l := xs) (f := fun x => lenB x + bigS x + gap) (h := gterm gap) fun x hx => (gterm_bd (hb x hx) hg0).1
  have t2 := ss_le (l := xs) (f := fun x => -1 * lenB x) (h := gterm gap) fun x hx => by have := (gterm_bd (hb x hx) hg0).2; omega
  have t3 := ss_nonneg (l := xs) (f := bigS) fun x hx => by have := (hb x hx).b0; have := (hb x hx).l0; unfold bigS most0; split <;> omega
  rw [ss_add, ss_add] at t1
  rw [ss_mul] at t2
  have t0 := ss_nonneg (l := xs) (f := gterm gap) fun x hx => by
    obtain ⟨h1, h2⟩ := gterm_bd (hb x hx) hg0
    have := (hb x hx).b0
    have := (hb x hx).l0
    have : 0 ≤ bigS x := by unfold bigS most0; split <;> omega
    omega
  have em : (Fx.of xs gap inner).mar = (xs.map lenB).sum + gapS gap xs.length := rfl
  refine ⟨hok, hi0, ?_, ?_, ?_⟩
  · show inner ≤ 1048576
    omega
  · rw [em]; show inner - _ ≤ 500000
    omega
  · rw [em]; show _ + (xs.map bigS).sum - inner ≤ 500000
    omega
/-- The program's and the reference's InBounds. -/
def inbB (xs : List GItem) (ys : List Int) : Bool := decide (xs.length = ys.length) && (xs.zip ys).all fun p => !(decide (p.2 < p.1.least) || (decide (0 ≤ p.1.most) && decide (uppI p.1 < p.2)))
theorem inbB_of {xs : List GItem} {ys : List Int} (hl : xs.length = ys.length) (h : ∀ p ∈ xs.zip ys, inB p.1 p.2) : inbB xs ys = true := by
  simp only [inbB, Bool.and_eq_true, decide_eq_true_eq, List.all_eq_true]
  refine ⟨hl, fun p hp => ?_⟩
  obtain ⟨h1, h2⟩ := h p hp
  simp only [Bool.not_eq_true', Bool.or_eq_false_iff, Bool.and_eq_false_iff, decide_eq_false_iff_not]
  refine ⟨by omega, ?_⟩
  by_cases hm : 0 ≤ p.1.most
  · exact .inr (by have := h2 hm; omega)
  · exact .inl hm
theorem flx_holds {xs : List GItem} {gap inner : Int} (hok : itsOk xs = true) (hg0 : 0 ≤ gap) (hg1 : gap ≤ 1048576) (hi0 : 0 ≤ inner) (hs : inner + (xs.map (gterm gap)).sum ≤ 500000) :
    inbB xs (flx xs gap inner) = true ∧ (canF xs gap inner = true → wrap64 (outer xs (flx xs gap inner) gap) = inner) := by
  have hF := fine_of hok hg0 hi0 hs
  have hi1 : inner ≤ 1048576 := hF.in1
  have hb := (itsOk_mem hok).1
  have hlen := flx_len xs gap inner
  have hfl : flx xs gap inner = ((Fx.of xs gap inner).runI 13 (xs.map hyp) (xs.map (held (groB xs gap inner)))).getD [] := by
    rw [flx, if_pos (by rw [hok]; simp [inL]; omega)]
  obtain ⟨G, hG⟩ : ∃ G, G = groB xs gap inner := ⟨_, rfl⟩
  obtain ⟨L, hL⟩ : ∃ L : List Tr, L = xs.map fun x => (x, held G x, hyp x) := ⟨_, rfl⟩
  have l1 : xsT L = xs := by rw [hL]; simp [xsT, Function.comp_def]
  have l2 : frT L = xs.map (held G) := by rw [hL]; simp [frT, Function.comp_def]
  have l3 : szT L = xs.map hyp := by rw [hL]; simp [szT, Function.comp_def]
  have hh0 : 0 ≤ (xs.map hyp).sum := ss_nonneg fun x hx => by have := (hyp_facts (hb x hx)).1.1; have := (hb x hx).l0; omega
  have hh1 : (xs.map hyp).sum ≤ (xs.map bigS).sum := ss_le fun x hx => (hyp_facts (hb x hx)).2.1
  have hsum : heT L + ((unT L).map hyp).sum = (xs.map hyp).sum := by
    rw [← tr_split, hL, List.map_map]
    refine ss_congr fun x _ => ?_
    simp only [Function.comp_def]
    split <;> rfl
  have hgr : G = decide ((Fx.of xs gap inner).mar + (xs.map hyp).sum < inner) := by
    have e : outer xs (xs.map hyp) gap = (Fx.of xs gap inner).mar + (xs.map hyp).sum := by rw [outer, List.map_id]; rfl
    have b1 := hF.b1
    have b2 := hF.b2
    have b3 : (Fx.of xs gap inner).inner = inner := rfl
    have b4 : (Fx.of xs gap inner).xs = xs := rfl
    rw [b3] at b1 b2
    rw [b4] at b2
    rw [hG, groB, e]
    have : wrap64 ((Fx.of xs gap inner).mar + (xs.map hyp).sum) = (Fx.of xs gap inner).mar + (xs.map hyp).sum := by unfold wrap64; omega
    rw [this]
  have hXg : (Fx.of xs gap inner).gr = G := hG.symm
  have hI : InvT (Fx.of xs gap inner) L := by
    refine ⟨l1.symm, fun t ht => ?_, fun h => ?_, fun h => ?_⟩
    · rw [hL] at ht
      obtain ⟨x, hx, rfl⟩ := List.mem_map.1 ht
      obtain ⟨f1, f2, f3, f4, f5, f6⟩ := hyp_facts (hb x hx)
      have hw := wgt_bd (hb x hx) G
      rw [hXg]
      refine ⟨hb x hx, fun h => ?_, fun h => ?_⟩
      · simp only [held] at h
        by_cases hz : wgt G x = 0
        · rw [if_pos hz] at h; cases h
        · rw [if_neg hz] at h
          refine ⟨by show 0 < wgt G x; omega, fun hg => ?_, fun hg => ?_⟩
          · rw [hg, if_pos rfl, decide_eq_false_iff_not] at h; show x.base ≤ hyp x; omega
          · rw [hg, if_neg (by decide), decide_eq_false_iff_not] at h; show hyp x ≤ x.base; omega
      · refine ⟨f1, f2, ?_⟩
        simp only [held] at h
        by_cases hz : wgt G x = 0
        · exact .inl hz
        · rw [if_neg hz] at h
          refine .inr ?_
          show atB x (hyp x) = true
          unfold atB
          cases hg : G with
          | true =>
            rw [hg, if_pos rfl, decide_eq_true_eq] at h
            obtain ⟨g1, g2⟩ := f4 h
            simp [g1, g2]
          | false =>
            rw [hg, if_neg (by decide), decide_eq_true_eq] at h
            simp [f3 h]
    · rw [hXg] at h
      rw [h] at hgr
      have := of_decide_eq_true hgr.symm
      rw [hsum]; show _ ≤ inner - _
      omega
    · rw [hXg] at h
      rw [h] at hgr
      have := of_decide_eq_false hgr.symm
      rw [hsum]; show inner - _ ≤ _
      omega
  obtain ⟨r, hr1, hr2⟩ := Fx.run_some (X := Fx.of xs gap inner) hok 13 (szT L) (frT L) (by rw [l2]; simp; rfl) (by have := fre_len (frT L) 0; have := (itsOk_mem hok).2; rw [l2, List.length_map] at *; omega)
  obtain ⟨h1, h2⟩ := run_holds hF 13 L hI r hr1
  have hfr : flx xs gap inner = r := by
    rw [hfl, ← hG, ← l2, ← l3, hr1]; rfl
  rw [hfr] at hlen ⊢
  refine ⟨inbB_of hlen.symm h1, fun hc => ?_⟩
  have h3 : (Fx.of xs gap inner).mar + r.sum = inner := by
    rcases h2 with h2 | h2
    · exfalso
      rw [canF, hfr, List.any_eq_true] at hc
      obtain ⟨p, hp, hq⟩ := hc
      rw [canT, Bool.and_eq_true, decide_eq_true_eq, Bool.not_eq_true'] at hq
      rcases h2 p hp with h4 | h4
      · have := hq.1
        have h4 : wgt (groB xs gap inner) p.1 = 0 := h4
        omega
      · rw [hq.2] at h4; cases h4
    · exact h2
  have e : outer xs r gap = inner := by rw [outer, List.map_id, ← h3]; rfl
  rw [e]; unfold wrap64; omega

end Go.Proofs.Ytcohgnecmgcajaa
