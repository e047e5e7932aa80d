/- A part of AM, a framework of the prover own: functions of any program as maps of data. -/
import Derived.Test.YtgcofllgbdcicaaGreatAmR
namespace Go.Proofs.YtgcofllgbdcicaaGreat.Am
open Go.RowKit
set_option linter.unusedVariables false
set_option linter.unusedSimpArgs false

/-- What is to be shown of code over abstract states. -/
def VC (P : Program) (n0 N : Nat) (c : Code) (Q : Exit → (Nat → AV) → AH → Prop) (T : Nat → AV) (h : AH) : Prop :=
  ∀ (F : Nat → Prop) (w0 : World) (m0 : AM) (h0 : AH) (a : Act) (w : World) (m : AM), h0.length = n0 → Rel F w0 m0 h0 N T h a w m → c.wp P (Meets F w0 m0 h0 N Q) a w
def thenQ (K : (Nat → AV) → AH → Prop) (Q : Exit → (Nat → AV) → AH → Prop) : Exit → (Nat → AV) → AH → Prop
  | .normal, T, h => K T h
  | e, T, h => Q e T h
def blockQ (id : Nat) (Q : Exit → (Nat → AV) → AH → Prop) : Exit → (Nat → AV) → AH → Prop
  | .exit i, T, h => if i = id then Q .normal T h else Q (.exit i) T h
  | e, T, h => Q e T h
section
variable {P : Program} {n0 N : Nat} {Q : Exit → (Nat → AV) → AH → Prop} {T : Nat → AV} {h : AH}
theorem vc_skip (hq : Q .normal T h) : VC P n0 N .skip Q T h := fun F w0 m0 h0 a w m _ r => wp_skip ⟨T, h, m, F, hq, Grow.refl _ _ _ _, r⟩
theorem vc_ret (hq : Q .ret T h) : VC P n0 N .ret Q T h := fun F w0 m0 h0 a w m _ r => wp_ret ⟨T, h, m, F, hq, Grow.refl _ _ _ _, r⟩
theorem vc_exit {id : Nat} (hq : Q (.exit id) T h) : VC P n0 N (.exit id) Q T h := fun F w0 m0 h0 a w m _ r => wp_exit ⟨T, h, m, F, hq, Grow.refl _ _ _ _, r⟩
theorem vc_seq {x y : Code} (hx : VC P n0 N x (thenQ (VC P n0 N y Q) Q) T h) : VC P n0 N (.seq x y) Q T h := fun F w0 m0 h0 a w m hn r =>
  wp_seq (Code.wp_mono (fun e a' w' ⟨T', h', m', F1, hq, hG, r'⟩ => by
    cases e <;> first | exact Code.wp_mono (fun e a w hm => Meets.grow hG hm) (hq F1 w0 m0 h0 a' w' m' hn r') | exact ⟨T', h', m', F1, hq, hG, r'⟩) (hx F w0 m0 h0 a w m hn r))
theorem vc_cond {c : Operand} {x y : Code} {b : Bool} (hc : ev T c = .t (.c (.imm (.bool b)))) (h1 : b = true → VC P n0 N x Q T h) (h2 : b = false → VC P n0 N y Q T h) : VC P n0 N (.cond c x y) Q T h := fun F w0 m0 h0 a w m hn r =>
  wp_cond_split (t := b) (ev_imm r.tm hc) (fun hb => h1 hb F w0 m0 h0 a w m hn r) (fun hb => h2 hb F w0 m0 h0 a w m hn r)
theorem vc_block {id : Nat} {c : Code} (hx : VC P n0 N c (blockQ id Q) T h) : VC P n0 N (.block id c) Q T h := fun F w0 m0 h0 a w m hn r =>
  wp_block (Code.wp_mono (fun e a' w' ⟨T', h', m', F1, hq, hG, r'⟩ => by
    cases e <;> first
      | exact ⟨T', h', m', F1, hq, hG, r'⟩
      | (rename_i i
         simp only [blockQ] at hq
         simp only [Exit.inBlock]
         split at hq
         · rw [if_pos (by assumption)]; exact ⟨T', h', m', F1, hq, hG, r'⟩
         · rw [if_neg (by assumption)]; exact ⟨T', h', m', F1, hq, hG, r'⟩)) (hx F w0 m0 h0 a w m hn r))
/-- A region's own text: its slots are the function's. -/
def textOk (N : Nat) (ops : Array Oper) : Bool := guardOk N ops && ops.toList.all (dstOk N)
theorem vc_region {id : Nat} {l : List Oper} (hok : textOk N l.toArray = true) (hs : seqA P l.toArray (Q .normal) l T h) : VC P n0 N (.region id l.toArray false) Q T h := fun F w0 m0 h0 a w m hn r => by
  unfold textOk at hok
  simp only [Bool.and_eq_true] at hok
  exact wp_region_list (seqA_sound hok.1 _ F T h a w m (fun o ho => ho) hok.2 (Grow.refl _ _ _ _) r hs)
theorem vc_draw {id : Nat} {l : List Oper} (mm : Nat) (hm : P.follows .mixedOrders = true) (hok : textOk N l.toArray = true) (hB : drawB l.toArray mm = true) (hs : headA P l.toArray (fun T h => seqA P l.toArray (Q .normal) (l.drop mm) T h) (l.take mm) T h) :
    VC P n0 N (.region id l.toArray true) Q T h := fun F w0 m0 h0 a w m hn r => by
  unfold textOk at hok
  simp only [Bool.and_eq_true] at hok
  exact draw_sound hm hB hok.1 hok.2 r hs id
theorem vc_mono {c : Code} {Q' : Exit → (Nat → AV) → AH → Prop} (hq : ∀ e T h, Q e T h → Q' e T h) (hv : VC P n0 N c Q T h) : VC P n0 N c Q' T h := fun F w0 m0 h0 a w m hn r =>
  Code.wp_mono (fun e a' w' ⟨T', h', m', F1, h1, hG, r'⟩ => ⟨T', h', m', F1, hq _ _ _ h1, hG, r'⟩) (hv F w0 m0 h0 a w m hn r)
end

/-! ### Less told: temporaries forgotten, the heap named anew -/
def lkT : List (Nat × AV) → Nat → AV
  | [], _ => .t (.c .dead)
  | (k, v) :: l, d => if d = k then v else lkT l d
/-- Cells that point to no own block. -/
def plain : AC → Bool
  | .own _ | .sub _ _ _ | .ptr _ _ _ => false
  | _ => true
/-- The new cell c' for the old one c; ρ: for each new place the old one ('none': an empty row). -/
def rnC (ρ : List (Option Nat)) (h' : AH) (c' c : AC) : Prop :=
  match c' with
  | .dead => True
  | .own i => match h'[i]?, ρ[i]? with | some (.live _), some (some j) => c = .own j | some (.live _), some none => c = .imm (.slice none 0 0) | _, _ => False
  | .sub i l n => match h'[i]?, ρ[i]? with | some (.live _), some (some j) => c = .sub j l n | _, _ => False
  | .ptr i e o => match h'[i]?, ρ[i]? with | some (.live _), some (some j) => c = .ptr j e o | _, _ => False
  | c' => c = c'
def rnL (ρ : List (Option Nat)) (h' : AH) : List AC → List AC → Prop
  | [], [] => True
  | c' :: l', c :: l => rnC ρ h' c' c ∧ rnL ρ h' l' l
  | _, _ => False
def rnE (ρ : List (Option Nat)) (h' : AH) : List (List AC) → List (List AC) → Prop
  | [], [] => True
  | x' :: l', x :: l => rnL ρ h' x' x ∧ rnE ρ h' l' l
  | _, _ => False
def rnT (ρ : List (Option Nat)) (h' : AH) (x' x : AT) : Prop :=
  match x', x with
  | .c c', .c c => rnC ρ h' c' c
  | .c .dead, _ => True
  | .agg l', .agg l => (l' = l ∧ l.all plain = true) ∨ rnL ρ h' l' l
  | _, _ => False
def rnTs (ρ : List (Option Nat)) (h' : AH) : List AT → List AT → Prop
  | [], [] => True
  | x' :: l', x :: l => rnT ρ h' x' x ∧ rnTs ρ h' l' l
  | _, _ => False
def rnV (ρ : List (Option Nat)) (h' : AH) (x' x : AV) : Prop :=
  match x', x with
  | .t (.c .dead), _ => True
  | .t x', .t x => rnT ρ h' x' x
  | .tup l', .tup l => rnTs ρ h' l' l
  | _, _ => False
def rnK (ρ : List (Option Nat)) (h' : AH) (T : Nat → AV) : List (Nat × AV) → Prop
  | [] => True
  | (k, v) :: l => rnV ρ h' v (T k) ∧ rnK ρ h' T l
/-- The new heap's blocks from place i on. -/
def rnH (n0 : Nat) (ρ : List (Option Nat)) (h' h : AH) : Nat → AH → Prop
  | _, [] => True
  | i, e :: es => (i < n0 → ρ[i]? = some (some i)) ∧ (match e with
      | .live ab' => match ρ[i]? with
        | some none => ab'.es.length = 0
        | some (some j) => match h[j]? with
          | some (.live ab) => ab'.ty = ab.ty ∧ ab'.k = ab.k ∧ ((ab'.es = ab.es ∧ (ab.es.all fun x => x.all plain) = true) ∨ rnE ρ h' ab'.es ab.es)
          | _ => False
        | none => False
      | .gone => True
      | .hole => i < n0 → h[i]? = some .hole) ∧ rnH n0 ρ h' h (i + 1) es
/-- All that naming anew asks. -/
def Wk (n0 : Nat) (T : Nat → AV) (h : AH) (l : List (Nat × AV)) (h' : AH) (ρ : List (Option Nat)) : Prop :=
  n0 ≤ h'.length ∧ (∀ i, i < n0 → h[i]? = some .gone → h'[i]? = some .gone) ∧ (ρ.filterMap id).Nodup ∧ rnH n0 ρ h' h 0 h' ∧ rnK ρ h' T l
end Go.Proofs.YtgcofllgbdcicaaGreat.Am
