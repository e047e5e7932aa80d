/- A part of AM, a framework of the prover own: functions of any program as maps of data. -/
import Derived.WalkKit
import Derived.ProofKit
import Derived.Lib.Hide
import Derived.StillTail
import Derived.Below
import Derived.Laws.Cells
namespace Go.Proofs.YtgcofllgbdcicaaGreat.Am
open Go.RowKit
set_option linter.unusedVariables false

/-- A value of one cell. -/
def one : Value → Bool
  | .agg _ | .tuple _ => false
  | _ => true

/-- What a cell holds, as data: an immediate value; a slice that nobody writes; the slice over an own row; a pointer into an own block; a pointer into an element that nobody writes; anything. -/
inductive AC where
  | imm (v : Value)
  | view (xs : List (List AC))
  | own (r : Nat)
  | sub (r lo n : Nat)
  | ptr (r i off : Nat)
  | eptr (cs : List AC) (off : Nat)
  | dead
  deriving Inhabited

inductive AT where
  | c (x : AC)
  | agg (xs : List AC)
  deriving Inhabited

inductive AV where
  | t (x : AT)
  | tup (xs : List AT)
  deriving Inhabited

/-- A block of one's own: elements of k cells each; a row (of a slice, with room behind it) or a variable. -/
structure AB where
  ty : TypeId
  k : Nat
  es : List (List AC)

/-- A place of one's own heap: a block; one that is gone (what points there tells nothing); one that is not there yet. -/
inductive AE where
  | live (ab : AB)
  | gone
  | hole

abbrev AH := List AE
/-- Where the own blocks lie, and how much room each has; none: a row without a block (nil), which is empty. -/
abbrev AM := List (Option (Nat × Nat))

section
variable (F : Nat → Prop) (w : World)
mutual
/-- Data that nobody writes. -/
def RP : AC → Value → Prop
  | .imm u, v => v = u
  | .view xs, v => ∃ p cap, v = .slice p xs.length cap ∧ xs.length ≤ cap ∧ cap ≤ maxLen ∧ (xs = [] ∨ ∃ b o k, p = some ⟨b, o, none⟩ ∧ F b ∧ RPE b k o xs)
  | .dead, _ => True
  | _, _ => False
def RPE (b k : Nat) : Nat → List (List AC) → Prop
  | _, [] => True
  | o, x :: xs => x.length = k ∧ RPL b o x ∧ RPE b k (o + k) xs
def RPL (b : Nat) : Nat → List AC → Prop
  | _, [] => True
  | o, c :: cs => (∃ u, w.cell? ⟨b, o, none⟩ = some u ∧ one u = true ∧ RP c u) ∧ RPL b (o + 1) cs
end
end

theorem cell_block {w w' : World} {b o : Nat} (h : w'.heap[b]? = w.heap[b]?) : w'.cell? ⟨b, o, none⟩ = w.cell? ⟨b, o, none⟩ := by
  unfold World.cell?; rw [h]

section
variable {F F' : Nat → Prop} {w w' : World}
mutual
theorem RP.ext (hF : ∀ b, F b → F' b) (hw : ∀ b, F b → w'.heap[b]? = w.heap[b]?) : ∀ {c : AC} {v : Value}, RP F w c v → RP F' w' c v
  | .imm u, v, h => h
  | .view xs, v, h => by
    unfold RP at h ⊢
    obtain ⟨p, cap, hv, h1, h2, h3⟩ := h
    refine ⟨p, cap, hv, h1, h2, ?_⟩
    rcases h3 with h3 | ⟨b, o, k, hp, hb, he⟩
    · exact .inl h3
    · exact .inr ⟨b, o, k, hp, hF b hb, RPE.ext hF hw hb he⟩
  | .dead, v, h => by unfold RP; trivial
  | .own r, v, h => by unfold RP at h; exact h.elim
  | .sub r l n, v, h => by unfold RP at h; exact h.elim
  | .ptr r i o, v, h => by unfold RP at h; exact h.elim
  | .eptr cs o, v, h => by unfold RP at h; exact h.elim
theorem RPE.ext (hF : ∀ b, F b → F' b) (hw : ∀ b, F b → w'.heap[b]? = w.heap[b]?) {b k : Nat} (hb : F b) : ∀ {o : Nat} {xs : List (List AC)}, RPE F w b k o xs → RPE F' w' b k o xs
  | o, [], h => by unfold RPE; trivial
  | o, x :: xs, h => by
    unfold RPE at h ⊢
    exact ⟨h.1, RPL.ext hF hw hb h.2.1, RPE.ext hF hw hb h.2.2⟩
theorem RPL.ext (hF : ∀ b, F b → F' b) (hw : ∀ b, F b → w'.heap[b]? = w.heap[b]?) {b : Nat} (hb : F b) : ∀ {o : Nat} {cs : List AC}, RPL F w b o cs → RPL F' w' b o cs
  | o, [], h => by unfold RPL; trivial
  | o, c :: cs, h => by
    unfold RPL at h ⊢
    obtain ⟨⟨u, hu, h1, hc⟩, h2⟩ := h
    exact ⟨⟨u, by rw [cell_block (hw b hb)]; exact hu, h1, RP.ext hF hw hc⟩, RPL.ext hF hw hb h2⟩
end
theorem RPL.get {b : Nat} : ∀ {cs : List AC} {o j : Nat} {c : AC}, RPL F w b o cs → cs[j]? = some c → ∃ u, w.cell? ⟨b, o + j, none⟩ = some u ∧ one u = true ∧ RP F w c u
  | [], o, j, c, _, h => by simp at h
  | c0 :: cs, o, 0, c, h, hj => by
    unfold RPL at h
    simp only [List.getElem?_cons_zero, Option.some.injEq] at hj
    subst hj
    simpa using h.1
  | c0 :: cs, o, j + 1, c, h, hj => by
    unfold RPL at h
    simp only [List.getElem?_cons_succ] at hj
    have := RPL.get h.2 hj
    rwa [show o + 1 + j = o + (j + 1) by omega] at this
theorem RPE.get {b k : Nat} : ∀ {xs : List (List AC)} {o i : Nat} {x : List AC}, RPE F w b k o xs → xs[i]? = some x → x.length = k ∧ RPL F w b (o + i * k) x
  | [], o, i, x, _, h => by simp at h
  | x0 :: xs, o, 0, x, h, hi => by
    unfold RPE at h
    simp only [List.getElem?_cons_zero, Option.some.injEq] at hi
    subst hi
    exact ⟨h.1, by simpa using h.2.1⟩
  | x0 :: xs, o, i + 1, x, h, hi => by
    unfold RPE at h
    simp only [List.getElem?_cons_succ] at hi
    have := RPE.get h.2.2 hi
    rwa [show o + k + i * k = o + (i + 1) * k by rw [Nat.add_mul]; omega] at this
theorem RPE.drop {b k : Nat} : ∀ {xs : List (List AC)} {o : Nat} (n : Nat), RPE F w b k o xs → RPE F w b k (o + n * k) (xs.drop n)
  | xs, o, 0, h => by simpa using h
  | [], o, n + 1, h => by simp; unfold RPE; trivial
  | x :: xs, o, n + 1, h => by
    unfold RPE at h
    have := RPE.drop n h.2.2
    rwa [show o + k + n * k = o + (n + 1) * k by rw [Nat.add_mul]; omega] at this
theorem RPE.take {b k : Nat} : ∀ {xs : List (List AC)} {o : Nat} (n : Nat), RPE F w b k o xs → RPE F w b k o (xs.take n)
  | xs, o, 0, h => by simp; unfold RPE; trivial
  | [], o, n + 1, h => by simp; unfold RPE; trivial
  | x :: xs, o, n + 1, h => by
    unfold RPE at h
    simp only [List.take_succ_cons]
    unfold RPE
    exact ⟨h.1, h.2.1, RPE.take n h.2.2⟩
end

/-! ### Values over one's own blocks -/
/-- What an abstract cell means, given the own blocks (h: what they hold; m: where they lie, and how much room they have). -/
def RC (F : Nat → Prop) (w : World) (m : AM) (h : AH) : AC → Value → Prop
  | .imm u, v => v = u
  | .view xs, v => RP F w (.view xs) v
  | .own r, v => h[r]? = some .gone ∨ ∃ ab, h[r]? = some (.live ab) ∧ ((∃ b cap, m[r]? = some (some (b, cap)) ∧ v = .slice (some ⟨b, 0, none⟩) ab.es.length cap) ∨ (m[r]? = some none ∧ ab.es.length = 0 ∧ v = .slice none 0 0))
  | .sub r lo n, v => h[r]? = some .gone ∨ ∃ ab c p, h[r]? = some (.live ab) ∧ lo + n ≤ ab.es.length ∧ n ≤ c ∧ c ≤ maxLen ∧ v = .slice p n c ∧ (0 < n → ∃ b cap, m[r]? = some (some (b, cap)) ∧ p = some ⟨b, lo * ab.k, none⟩)
  | .ptr r i off, v => h[r]? = some .gone ∨ ∃ ab b cap, h[r]? = some (.live ab) ∧ m[r]? = some (some (b, cap)) ∧ v = .pointer (some ⟨b, i * ab.k + off, none⟩)
  | .eptr cs off, v => ∃ b o, v = .pointer (some ⟨b, o + off, none⟩) ∧ F b ∧ RPL F w b o cs
  | .dead, _ => True
def RT (F : Nat → Prop) (w : World) (m : AM) (h : AH) : AT → Value → Prop
  | .c x, v => RC F w m h x v
  | .agg xs, v => ∃ vs : List Value, v = .agg vs.toArray ∧ vs.length = xs.length ∧ ∀ (j : Nat) (x : AC), xs[j]? = some x → ∃ u, vs[j]? = some u ∧ one u = true ∧ RC F w m h x u
def RV (F : Nat → Prop) (w : World) (m : AM) (h : AH) : AV → Value → Prop
  | .t x, v => RT F w m h x v
  | .tup xs, v => ∃ vs : List Value, v = .tuple vs.toArray ∧ vs.length = xs.length ∧ ∀ (j : Nat) (x : AT), xs[j]? = some x → ∃ u, vs[j]? = some u ∧ RT F w m h x u

/-- One own block, as it lies. -/
def RB (F : Nat → Prop) (w : World) (m : AM) (h : AH) (b cap : Nat) (ab : AB) : Prop :=
  ∃ cur : Array Value, w.heap[b]? = some (.cells cur ab.ty (0, 0)) ∧ cur.size = cap * ab.k ∧ ab.es.length ≤ cap ∧ cap ≤ maxLen ∧
    ∀ (i : Nat) (x : List AC), ab.es[i]? = some x → x.length = ab.k ∧ ∀ (j : Nat) (c : AC), x[j]? = some c → ∃ u, cur[i * ab.k + j]? = some u ∧ one u = true ∧ RC F w m h c u
/-- The own heap, as it lies: each block in its place, no two in one, none among the others' blocks. -/
structure RH (F : Nat → Prop) (w : World) (m : AM) (h : AH) : Prop where
  at_ : ∀ (r : Nat) (ab : AB), h[r]? = some (.live ab) → (m[r]? = some none ∧ ab.es.length = 0) ∨ ∃ b cap, m[r]? = some (some (b, cap)) ∧ ¬ F b ∧ RB F w m h b cap ab
  inj : ∀ (r r' : Nat) (ab ab' : AB) (b cap cap' : Nat), h[r]? = some (.live ab) → h[r']? = some (.live ab') → m[r]? = some (some (b, cap)) → m[r']? = some (some (b, cap')) → r = r'
  len : m.length = h.length
  old : ∀ b, F b → b < w.heap.size

/-- What the second heap keeps of the first one: each block's shape and place (not what it holds); what is gone stays gone. -/
def Keeps (m : AM) (h : AH) (m' : AM) (h' : AH) : Prop :=
  ∀ (r : Nat), (h[r]? = some .gone → h'[r]? = some .gone) ∧ ∀ ab, h[r]? = some (.live ab) → h'[r]? = some .gone ∨ ∃ ab', h'[r]? = some (.live ab') ∧ ab'.k = ab.k ∧ ab'.es.length = ab.es.length ∧ m'[r]? = m[r]?
theorem Keeps.refl (m : AM) (h : AH) : Keeps m h m h := fun r => ⟨id, fun ab hr => .inr ⟨ab, hr, rfl, rfl, rfl⟩⟩
section
variable {F F' : Nat → Prop} {w w' : World} {m m' : AM} {h h' : AH}
theorem RC.ext (hF : ∀ b, F b → F' b) (hw : ∀ b, F b → w'.heap[b]? = w.heap[b]?) (hk : Keeps m h m' h') {c : AC} {v : Value} (hc : RC F w m h c v) : RC F' w' m' h' c v := by
  cases c with
  | imm u => exact hc
  | view xs => exact RP.ext hF hw hc
  | own r =>
    rcases hc with hg | ⟨ab, h1, h2⟩
    · exact .inl ((hk r).1 hg)
    · rcases (hk r).2 ab h1 with hg | ⟨ab', h4, h5, h6, h7⟩
      · exact .inl hg
      · refine .inr ⟨ab', h4, ?_⟩
        rw [h6, h7]
        exact h2
  | sub r lo n =>
    rcases hc with hg | ⟨ab, c, p, h1, h3, h8, h9, h10, h11⟩
    · exact .inl ((hk r).1 hg)
    · rcases (hk r).2 ab h1 with hg | ⟨ab', h4, h5, h6, h7⟩
      · exact .inl hg
      · exact .inr ⟨ab', c, p, h4, by rw [h6]; exact h3, h8, h9, h10, by rw [h5, h7]; exact h11⟩
  | ptr r i off =>
    rcases hc with hg | ⟨ab, b, cap, h1, h2, h3⟩
    · exact .inl ((hk r).1 hg)
    · rcases (hk r).2 ab h1 with hg | ⟨ab', h4, h5, h6, h7⟩
      · exact .inl hg
      · exact .inr ⟨ab', b, cap, h4, by rw [h7]; exact h2, by rw [h5]; exact h3⟩
  | eptr cs off =>
    obtain ⟨b, o, h1, h2, h3⟩ := hc
    exact ⟨b, o, h1, hF b h2, RPL.ext hF hw h2 h3⟩
  | dead => trivial
theorem RT.ext (hF : ∀ b, F b → F' b) (hw : ∀ b, F b → w'.heap[b]? = w.heap[b]?) (hk : Keeps m h m' h') {c : AT} {v : Value} (hc : RT F w m h c v) : RT F' w' m' h' c v := by
  cases c with
  | c x => exact RC.ext hF hw hk hc
  | agg xs =>
    obtain ⟨vs, h1, h2, h3⟩ := hc
    exact ⟨vs, h1, h2, fun j x hj => let ⟨u, hu, ho, hr⟩ := h3 j x hj; ⟨u, hu, ho, RC.ext hF hw hk hr⟩⟩
theorem RV.ext (hF : ∀ b, F b → F' b) (hw : ∀ b, F b → w'.heap[b]? = w.heap[b]?) (hk : Keeps m h m' h') {c : AV} {v : Value} (hc : RV F w m h c v) : RV F' w' m' h' c v := by
  cases c with
  | t x => exact RT.ext hF hw hk hc
  | tup xs =>
    obtain ⟨vs, h1, h2, h3⟩ := hc
    exact ⟨vs, h1, h2, fun j x hj => let ⟨u, hu, hr⟩ := h3 j x hj; ⟨u, hu, RT.ext hF hw hk hr⟩⟩
theorem RB.ext (hF : ∀ b, F b → F' b) (hw : ∀ b, F b → w'.heap[b]? = w.heap[b]?) (hk : Keeps m h m' h') {b cap : Nat} {ab : AB} (hb : w'.heap[b]? = w.heap[b]?) (hc : RB F w m h b cap ab) : RB F' w' m' h' b cap ab := by
  obtain ⟨cur, h1, h2, h3, h4, h5⟩ := hc
  exact ⟨cur, by rw [hb]; exact h1, h2, h3, h4, fun i x hx => ⟨(h5 i x hx).1, fun j c hj => let ⟨u, hu, ho, hr⟩ := (h5 i x hx).2 j c hj; ⟨u, hu, ho, RC.ext hF hw hk hr⟩⟩⟩
end
end Go.Proofs.YtgcofllgbdcicaaGreat.Am
