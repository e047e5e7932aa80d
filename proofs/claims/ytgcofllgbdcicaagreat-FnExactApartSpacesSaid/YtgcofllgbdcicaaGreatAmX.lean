/- A part of AM, a framework of the prover own: functions of any program as maps of data. -/
import Derived.Test.YtgcofllgbdcicaaGreatAmW
namespace Go.Proofs.YtgcofllgbdcicaaGreat.Am
open Go.RowKit
set_option linter.unusedVariables false
set_option linter.unusedSimpArgs false

/-! ### What the evaluator says holds: operations -/
theorem lenL_eq {α : Type} : ∀ (l : List α), lenL l = l.length
  | [] => rfl
  | _ :: l => by simp [lenL, lenL_eq l]
theorem setL_eq {α : Type} : ∀ (l : List α) (n : Nat) (y : α), setL l n y = l.set n y
  | [], n, y => by simp [setL]
  | _ :: l, 0, y => by simp [setL]
  | _ :: l, n + 1, y => by simp [setL, setL_eq l n y]
theorem mapImm_eq : ∀ (l : List Value), mapImm l = l.map .imm
  | [] => rfl
  | v :: l => by simp [mapImm, mapImm_eq l]
theorem allOne_eq : ∀ (l : List Value), allOne l = l.all one
  | [] => rfl
  | v :: l => by simp only [allOne, List.all_cons]; cases one v <;> simp [allOne_eq l]
theorem repL_eq (x : List AC) : ∀ (n : Nat), repL x n = List.replicate n x
  | 0 => rfl
  | n + 1 => by simp [repL, repL_eq x n, List.replicate_succ]
theorem putC_eq : ∀ (cs : List AC) (d : Nat) (ys : List AC), d + ys.length ≤ cs.length → putC cs d ys = setAt cs d ys
  | cs, d, [], _ => by cases cs <;> cases d <;> simp [putC, setAt]
  | [], d, y :: ys, h => by simp at h
  | c :: cs, 0, y :: ys, h => by
    have := putC_eq cs 0 ys (by simp at h ⊢; omega)
    simp only [putC, this, setAt]
    simp
  | c :: cs, d + 1, y :: ys, h => by
    have := putC_eq cs d (y :: ys) (by simp at h ⊢; omega)
    simp only [putC, this, setAt]
    simp [Nat.add_right_comm]
    rw [show d + 1 + (ys.length + 1) = d + (ys.length + 1) + 1 by omega]
    simp
theorem cutL_eq : ∀ (x : List AC) (d k : Nat), cutL x d k = (x.drop d).take k
  | x, 0, k => by simp [cutL]
  | [], d + 1, k => by simp [cutL]
  | c :: x, d + 1, k => by simp [cutL, cutL_eq x d k]
theorem toH_len (h : EH) : (toH h).length = h.length := by simp [toH]
theorem toH_app (h h' : EH) : toH (h ++ h') = toH h ++ toH h' := by simp [toH]
theorem toH_set (h : EH) (r : Nat) (e : EE) : toH (h.set r e) = (toH h).set r e.e := by simp [toH, List.map_set]
theorem nth_bx {h : EH} {r t k : Nat} {x : List AC} (he : nth h r = some (.bx t k x)) : (toH h)[r]? = some (.live ⟨t, k, [x]⟩) := by
  rw [nth_eq] at he; simp [toH, he, EE.e]
theorem nth_rw {h : EH} {r : Nat} {ab : AB} (he : nth h r = some (.rw ab)) : (toH h)[r]? = some (.live ab) := by
  rw [nth_eq] at he; simp [toH, he, EE.e]
theorem isLive_e {h : EH} {r : Nat} (he : EE.isLive (nth h r) = true) : ∃ ab, (toH h)[r]? = some (.live ab) := by
  unfold EE.isLive at he
  split at he
  · exact ⟨_, nth_bx (by assumption)⟩
  · exact ⟨_, nth_rw (by assumption)⟩
  · cases he
theorem okG_eq (h : EH) (c : AC) : okG h c = okc (toH h) c := by
  have key : ∀ r, EE.isLive (nth h r) = (match (toH h)[r]? with | some (.live _) => true | _ => false) := fun r => by
    rw [nth_eq]
    simp only [toH, List.getElem?_map]
    cases h[r]? with
    | none => rfl
    | some e => cases e <;> rfl
  cases c <;> simp only [okG, okc] <;> exact key _
theorem allOk_eq (h : EH) : ∀ (l : List AC), allOk h l = l.all (okc (toH h))
  | [] => rfl
  | c :: l => by simp only [allOk, List.all_cons, okG_eq]; cases okc (toH h) c <;> simp [allOk_eq h l]
theorem bt {a b : Nat} (h : Nat.beq a b = true) : a = b := Nat.eq_of_beq_eq_true h
theorem bl {a b : Nat} (h : Nat.ble a b = true) : a ≤ b := Nat.le_of_ble_eq_true h
theorem blt {a b : Nat} (h : Nat.blt a b = true) : a < b := Nat.le_of_ble_eq_true h
section
variable {P : Program} {tab : List (TypeId × TI)} {n0 N : Nat} {T : Nat → AV} {h : EH} {n : Nat}
theorem Fits.info (hf : Fits P tab) {t : TypeId} {i : TI} (h : ti tab t = some i) : infoOf P t = some i := Fits.at_ hf.ok h
theorem Fits.fld (hf : Fits P tab) {t : TypeId} {i d : Nat} {u : TypeId} (h : ((ti tab t).bind fun j => nth j.flds i) = some (some (d, u))) : fieldOf P t i = some (d, u) := by
  cases hi : ti tab t with
  | none => rw [hi] at h; cases h
  | some j => rw [hi] at h; exact (info_inv (hf.info hi)).2.2.2.1 i d u h
theorem Fits.elem (hf : Fits P tab) {t : TypeId} {e : TypeId × Nat × Nat} (h : ((ti tab t).bind (·.elem)) = some e) : elemOfT P t = some e := by
  cases hi : ti tab t with
  | none => rw [hi] at h; cases h
  | some j => rw [hi] at h; exact (info_inv (hf.info hi)).2.2.2.2.1.trans h
theorem Fits.int (hf : Fits P tab) {t : TypeId} {k : IntKind} (h : ((ti tab t).bind (·.kd)) = some (some k)) : P.underlying t = some (.int k) := by
  cases hi : ti tab t with
  | none => rw [hi] at h; cases h
  | some j => rw [hi] at h; exact (info_inv (hf.info hi)).2.2.2.2.2.2.2 k h
theorem ldG_sound {q : Option Nat} {x : List AC} {off : Nat} {K K' : AV → Prop} (hl : ldG q x off K) (hk : ∀ v, K v → K' v) : ldA q x off K' := by
  unfold ldG at hl
  unfold ldA
  split at hl
  · rename_i q
    split at hl
    · rename_i c hc; exact ⟨c, by rw [← nth_eq]; exact hc, hk _ hl⟩
    · exact hl.elim
  · rename_i q k
    split at hl
    · rename_i hb; rw [cutL_eq] at hl; exact ⟨by have := bl hb; rwa [lenL_eq] at this, hk _ hl⟩
    · exact hl.elim
theorem fillG_sound (hf : Fits P tab) {t : TypeId} {i : TI} (hi : ti tab t = some i) : ∀ (ps : List (Nat × Operand)) (cs : List AC) (K : List AC → Prop) (K' : List AC → Prop), (∀ cs, K cs → K' cs) → fillG tab T h i.flds ps cs K → fillA P T (toH h) t ps cs K'
  | [], cs, K, K', hk, hp => hk _ hp
  | (j, x) :: ps, cs, K, K', hk, hp => by
    unfold fillG at hp
    unfold fillA
    split at hp
    · rename_i y hy
      rw [hy]
      split at hp
      · rename_i d u hd
        rw [(info_inv (hf.info hi)).2.2.2.1 j d u hd]
        split at hp
        · rename_i l hl
          split at hp
          · rename_i h1
            split at hp
            · rename_i h2
              split at hp
              · rename_i h3
                have h1 := bt h1
                have h2 := bl h2
                simp only [lenL_eq] at h1 h2
                rw [putC_eq _ _ _ h2] at hp
                rw [allOk_eq] at h3
                exact ⟨by rw [(info_inv (hf.info hl)).2.2.1, h1], h2, h3, fillG_sound hf hi ps _ K K' hk hp⟩
              · exact hp.elim
            · exact hp.elim
          · exact hp.elim
        · exact hp.elim
      · exact hp.elim
    · exact hp.elim
theorem fillEG_sound {k : Nat} : ∀ (ps : List (Nat × Operand)) (es : List (List AC)) (K K' : List (List AC) → Prop), (∀ es, K es → K' es) → fillEG T h k ps es K → fillE T (toH h) k ps es K'
  | [], cs, K, K', hk, hp => hk _ hp
  | (j, x) :: ps, cs, K, K', hk, hp => by
    unfold fillEG at hp
    unfold fillE
    split at hp
    · rename_i y hy
      rw [hy]
      split at hp
      · rename_i h1
        split at hp
        · rename_i h2
          split at hp
          · rename_i h3
            have h1 := bt h1
            have h2 := blt h2
            simp only [lenL_eq] at h1 h2
            rw [setL_eq] at hp
            rw [allOk_eq] at h3
            exact ⟨h1, h2, h3, fillEG_sound ps _ K K' hk hp⟩
          · exact hp.elim
        · exact hp.elim
      · exact hp.elim
    · exact hp.elim
/-- The answer to the question as the machine's law asks it. -/
def Kof (K : AV → EH → Prop) (res : AV) (rows : List AB) : Prop := ∃ es : EH, toH es = rows.map .live ∧ K res es
theorem Kof.nil {K : AV → EH → Prop} {res : AV} (h : K res []) : Kof K res [] := ⟨[], rfl, h⟩
theorem Kof.bx {K : AV → EH → Prop} {res : AV} {t k : Nat} {x : List AC} (h : K res [.bx t k x]) : Kof K res [⟨t, k, [x]⟩] := ⟨_, rfl, h⟩
theorem Kof.rw {K : AV → EH → Prop} {res : AV} {ab : AB} (h : K res [.rw ab]) : Kof K res [ab] := ⟨_, rfl, h⟩
theorem opI_none {lo : Option Operand} (h : opI T lo = some none) : lo = none := by
  cases lo with
  | none => rfl
  | some x => simp only [opI] at h; split at h <;> cases h
theorem opI_some {lo : Option Operand} {z : Int} (h : opI T lo = some (some z)) : ∃ x k, lo = some x ∧ ev T x = .t (.c (.imm (.int k z))) := by
  cases lo with
  | none => cases h
  | some x =>
    simp only [opI] at h
    split at h
    · rename_i k z' hx; cases h; exact ⟨x, k, rfl, hx⟩
    · cases h
theorem slice_lo {lo : Option Operand} {zo : Option Int} (h : opI T lo = some zo) {a : Nat} (ha : match (generalizing := false) zo with | none => a = 0 | some z => 0 ≤ z ∧ a = z.toNat) : (match (generalizing := false) lo with | none => a = 0 | some l => match ev T l with | .t (.c (.imm (.int _ z))) => 0 ≤ z ∧ a = z.toNat | _ => False) := by
  cases zo with
  | none => rw [opI_none h]; exact ha
  | some z => obtain ⟨x, k, rfl, hx⟩ := opI_some h; simp only [hx]; exact ha
theorem slice_hi {hi : Option Operand} {zo : Option Int} (h : opI T hi = some zo) {b len : Nat} (ha : match (generalizing := false) zo with | none => b = len | some z => 0 ≤ z ∧ b = z.toNat) : (match (generalizing := false) hi with | none => b = len | some l => match ev T l with | .t (.c (.imm (.int _ z))) => 0 ≤ z ∧ b = z.toNat | _ => False) := by
  cases zo with
  | none => rw [opI_none h]; exact ha
  | some z => obtain ⟨x, k, rfl, hx⟩ := opI_some h; simp only [hx]; exact ha
set_option maxHeartbeats 1600000 in
theorem popG_binOp (hf : Fits P tab) {op : BinOp} {t u : TypeId} {x y : Operand} {K : AV → EH → Prop} (hp : popG (G0 P n0 N) tab T h n (.binOp op t x y u) K) : pop P T (toH h) n (.binOp op t x y u) (Kof K) := by
  simp only [popG] at hp
  simp only [pop]
  split at hp
  · rename_i k a hx
    split at hp
    · rename_i k' b hy
      rw [hx, hy]
      simp only
      split at hp
      · rename_i hk
        obtain rfl := kEq_eq hk
        cases op <;> first
          | exact hp.elim
          | exact ⟨_, by simp only [bo]; rw [if_pos trivial]; rfl, Kof.nil hp⟩
          | exact ⟨_, by simp only [bo]; rw [if_pos trivial, if_neg hp.1]; rfl, Kof.nil hp.2⟩
      · exact hp.elim
    · exact hp.elim
  · rename_i a hx
    split at hp
    · rename_i b hy
      rw [hx, hy]
      simp only
      split at hp
      · rename_i hk
        have hu : P.underlying t = some .bool := by
          cases hi : ti tab t with
          | none => rw [hi] at hk; cases hk
          | some j => rw [hi] at hk; exact (info_inv (hf.info hi)).2.2.2.2.2.2.1 (by simpa using hk)
        cases op <;> first
          | exact hp.elim
          | exact ⟨hu, _, rfl, Kof.nil hp⟩
      · exact hp.elim
    · exact hp.elim
  · rename_i xs hx
    split at hp
    · rename_i ys hy
      rw [hx, hy]
      obtain ⟨h1, h2, us, vs, r, h3, h4, h5, h6⟩ := hp
      refine ⟨h1, h2, us, vs, r, h3, h4, h5, ?_⟩
      cases op <;> first
        | exact h6.elim
        | exact Kof.nil h6
    · exact hp.elim
  · exact hp.elim
theorem popG_load (hf : Fits P tab) {t : TypeId} {x : Operand} {K : AV → EH → Prop} (hp : popG (G0 P n0 N) tab T h n (.load t x) K) : pop P T (toH h) n (.load t x) (Kof K) := by
  simp only [popG] at hp
  simp only [pop]
  split at hp
  · rename_i i hi
    rw [(info_inv (hf.info hi)).1]
    split at hp
    · rename_i r e off hx
      rw [hx]
      simp only
      split at hp
      · rename_i a b y hr
        rw [nth_bx hr]
        split at hp
        · exact ⟨y, rfl, ldG_sound hp fun v hv => Kof.nil hv⟩
        · exact hp.elim
      · rename_i ab hr
        rw [nth_rw hr]
        obtain ⟨y, hy, hp⟩ := hp
        exact ⟨y, hy, ldG_sound hp fun v hv => Kof.nil hv⟩
      · exact hp.elim
    · rename_i cs off hx
      rw [hx]
      exact ldG_sound hp fun v hv => Kof.nil hv
    · exact hp.elim
  · exact hp.elim
theorem popG_fieldAddr (hf : Fits P tab) {t : TypeId} {x : Operand} {i : Nat} {K : AV → EH → Prop} (hp : popG (G0 P n0 N) tab T h n (.fieldAddr t x i) K) : pop P T (toH h) n (.fieldAddr t x i) (Kof K) := by
  simp only [popG] at hp
  simp only [pop]
  split at hp
  · rename_i d u hd
    rw [hf.fld hd]
    split at hp
    · rename_i r j off hx
      rw [hx]
      split at hp
      · rename_i hl
        obtain ⟨ab, hab⟩ := isLive_e hl
        simp only [hab]
        exact Kof.nil hp
      · exact hp.elim
    · rename_i cs off hx
      rw [hx]
      exact Kof.nil hp
    · exact hp.elim
  · exact hp.elim
theorem popG_field (hf : Fits P tab) {t : TypeId} {x : Operand} {i : Nat} {K : AV → EH → Prop} (hp : popG (G0 P n0 N) tab T h n (.field t x i) K) : pop P T (toH h) n (.field t x i) (Kof K) := by
  simp only [popG] at hp
  simp only [pop]
  split at hp
  · rename_i d u hd
    rw [hf.fld hd]
    split at hp
    · rename_i xs hx
      rw [hx]
      split at hp
      · rename_i j hj
        simp only [(info_inv (hf.info hj)).1]
        exact ldG_sound hp fun v hv => Kof.nil hv
      · exact hp.elim
    · exact hp.elim
  · exact hp.elim
theorem popG_indexAddr (hf : Fits P tab) {t : TypeId} {x i : Operand} {K : AV → EH → Prop} (hp : popG (G0 P n0 N) tab T h n (.indexAddr t x i) K) : pop P T (toH h) n (.indexAddr t x i) (Kof K) := by
  simp only [popG] at hp
  simp only [pop]
  split at hp
  · rename_i e k by_ hd
    rw [hf.elem hd]
    split at hp
    · rename_i kk z hz
      rw [hz]
      split at hp
      · rename_i xs hx
        rw [hx]
        obtain ⟨h1, y, h2, h3, h4⟩ := hp
        exact ⟨h1, y, h2, h3, Kof.nil h4⟩
      · rename_i r hx
        rw [hx]
        split at hp
        · rename_i ab hr
          split at hp
          · rename_i hb
            simp only [nth_rw hr]
            exact ⟨bt hb, hp.1, hp.2.1, Kof.nil hp.2.2⟩
          · exact hp.elim
        · exact hp.elim
      · rename_i r lo m hx
        rw [hx]
        split at hp
        · rename_i ab hr
          split at hp
          · rename_i hb
            simp only [nth_rw hr]
            exact ⟨bt hb, hp.1, hp.2.1, Kof.nil hp.2.2⟩
          · exact hp.elim
        · exact hp.elim
      · exact hp.elim
    · exact hp.elim
  · exact hp.elim
theorem popG_make (hf : Fits P tab) {t : TypeId} {x y : Operand} {K : AV → EH → Prop} (hp : popG (G0 P n0 N) tab T h n (.makeSlice t x y) K) : pop P T (toH h) n (.makeSlice t x y) (Kof K) := by
  simp only [popG] at hp
  simp only [pop]
  split at hp
  · rename_i a hx
    split at hp
    · rename_i b hy
      rw [hx, hy]
      split at hp
      · rename_i e k by_ hd
        rw [hf.elem hd]
        split at hp
        · rename_i j hj
          split at hp
          · rename_i h1
            split at hp
            · rename_i h2
              split at hp
              · rename_i h3
                obtain ⟨⟨g1, g2, g3, g4⟩, hp⟩ := hp
                have h1 := bt h1
                have h2 := blt h2
                rw [lenL_eq] at h1
                rw [allOne_eq] at h3
                refine ⟨g1, g2, g3, g4, j.zero, (info_inv (hf.info hj)).2.1, h1, h2, h3, ?_⟩
                rw [mapImm_eq] at hp
                exact Kof.rw hp
              · exact hp.elim
            · exact hp.elim
          · exact hp.elim
        · exact hp.elim
      · exact hp.elim
    · exact hp.elim
  · exact hp.elim
theorem popG_build (hf : Fits P tab) {t : TypeId} {ps : Array (Nat × Operand)} {K : AV → EH → Prop} (hp : popG (G0 P n0 N) tab T h n (.build t ps) K) : pop P T (toH h) n (.build t ps) (Kof K) := by
  simp only [popG] at hp
  simp only [pop]
  split at hp
  · rename_i i hi
    split at hp
    · rename_i h1
      split at hp
      · rename_i h2
        rw [allOne_eq] at h2
        rw [mapImm_eq] at hp
        rw [(info_inv (hf.info hi)).2.1, (info_inv (hf.info hi)).2.2.2.2.2.1]
        exact ⟨h1, h2, fillG_sound hf hi _ _ _ _ (fun cs hc => Kof.nil hc) hp⟩
      · exact hp.elim
    · exact hp.elim
  · exact hp.elim
theorem popG_buildSlice (hf : Fits P tab) {t : TypeId} {len : Nat} {ps : Array (Nat × Operand)} {K : AV → EH → Prop} (hp : popG (G0 P n0 N) tab T h n (.buildSlice t len ps) K) : pop P T (toH h) n (.buildSlice t len ps) (Kof K) := by
  simp only [popG] at hp
  simp only [pop]
  split at hp
  · rename_i e k by_ hd
    rw [hf.elem hd]
    split at hp
    · rename_i j hj
      split at hp
      · rename_i h1
        split at hp
        · rename_i h2
          split at hp
          · rename_i h3
            split at hp
            · rename_i h4
              have h1 := bt h1
              have h2 := blt h2
              have h3 := bl h3
              rw [lenL_eq] at h1
              rw [allOne_eq] at h4
              rw [repL_eq, mapImm_eq] at hp
              exact ⟨j.zero, (info_inv (hf.info hj)).2.1, h1, h2, h3, h4, fillEG_sound _ _ _ _ (fun es he => Kof.rw he) hp⟩
            · exact hp.elim
          · exact hp.elim
        · exact hp.elim
      · exact hp.elim
    · exact hp.elim
  · exact hp.elim
theorem popG_slice (hf : Fits P tab) {t : TypeId} {x : Operand} {lo hi mx : Option Operand} {K : AV → EH → Prop} (hp : popG (G0 P n0 N) tab T h n (.slice t x lo hi mx) K) : pop P T (toH h) n (.slice t x lo hi mx) (Kof K) := by
  cases mx with
  | some _ => exact hp.elim
  | none =>
    simp only [popG] at hp
    simp only [pop]
    split at hp
    · rename_i e k by_ hd
      rw [hf.elem hd]
      split at hp
      · rename_i zlo hlo
        split at hp
        · rename_i zhi hhi
          split at hp
          · rename_i hx
            rw [hx]
            obtain ⟨h1, a, b, h2, h3, h4, h5, h6⟩ := hp
            exact ⟨a, b, slice_lo hlo h2, slice_hi hhi h3, h4, h5, Kof.nil h6⟩
          · rename_i xs hx
            rw [hx]
            obtain ⟨h1, a, b, h2, h3, h4, h5, h6⟩ := hp
            exact ⟨a, b, slice_lo hlo h2, slice_hi hhi h3, h4, h5, h1, Kof.nil h6⟩
          · rename_i r hx
            rw [hx]
            split at hp
            · rename_i ab hr
              split at hp
              · rename_i hb
                obtain ⟨a, b, h2, h3, h4, h5, h6⟩ := hp
                simp only [lenA, nth_rw hr]
                exact ⟨a, b, slice_lo hlo h2, slice_hi hhi h3, h4, h5, bt hb, Kof.nil h6⟩
              · exact hp.elim
            · exact hp.elim
          · exact hp.elim
        · exact hp.elim
      · exact hp.elim
    · exact hp.elim
theorem popG_call (hf : Fits P tab) {c : Call} {K : AV → EH → Prop} (hp : popG (G0 P n0 N) tab T h n (.call c) K) : pop P T (toH h) n (.call c) (Kof K) := by
  simp only [popG] at hp
  simp only [pop]
  split at hp
  · rename_i hc
    split at hp
    · rename_i x hx
      split at hp
      · rename_i t ht
        rw [hc, hx, ht]
        split at hp
        · rename_i e he
          simp only [hf.elem he]
          split at hp
          · rename_i hv; rw [hv]; exact ⟨0, rfl, Kof.nil hp⟩
          · rename_i xs hv; rw [hv]; exact ⟨_, rfl, Kof.nil hp⟩
          · rename_i r hv
            rw [hv]
            split at hp
            · rename_i ab hr
              exact ⟨ab.es.length, by simp only [lenA, nth_rw hr], Kof.nil hp⟩
            · exact hp.elim
          · rename_i r lo m hv
            rw [hv]
            split at hp
            · rename_i ab hr
              exact ⟨m, by simp only [lenA, nth_rw hr], Kof.nil hp⟩
            · exact hp.elim
          · exact hp.elim
        · exact hp.elim
      · exact hp.elim
    · exact hp.elim
  · rename_i hc
    split at hp
    · rename_i x y hxy
      split at hp
      · rename_i a hx
        split at hp
        · rename_i b hy
          simp only [hc, hxy, hx, hy]
          exact Kof.nil hp
        · exact hp.elim
      · exact hp.elim
    · exact hp.elim
  · rename_i hc
    split at hp
    · rename_i x y hxy
      split at hp
      · rename_i a hx
        split at hp
        · rename_i b hy
          simp only [hc, hxy, hx, hy]
          exact Kof.nil hp
        · exact hp.elim
      · exact hp.elim
    · exact hp.elim
  · exact hp.elim
theorem popG_sound (hf : Fits P tab) {o : Op} {K : AV → EH → Prop} (hp : popG (G0 P n0 N) tab T h n o K) : pop P T (toH h) n o (Kof K) := by
  cases o <;> first
    | exact hp.elim
    | exact popG_binOp hf hp
    | exact popG_load hf hp
    | exact popG_fieldAddr hf hp
    | exact popG_field hf hp
    | exact popG_indexAddr hf hp
    | exact popG_make hf hp
    | exact popG_build hf hp
    | exact popG_buildSlice hf hp
    | exact popG_slice hf hp
    | exact popG_call hf hp
    | exact Kof.nil hp
    | skip
  case pick c a b =>
    simp only [popG] at hp
    simp only [pop]
    split at hp
    · rename_i q hq
      rw [hq]
      cases q
      · exact ⟨fun hb => (by cases hb), fun _ => Kof.nil hp⟩
      · exact ⟨fun _ => Kof.nil hp, fun hb => (by cases hb)⟩
    · exact hp.elim
  case alloc t =>
    simp only [popG] at hp
    simp only [pop]
    split at hp
    · rename_i i hi
      split at hp
      · rename_i h1
        split at hp
        · rename_i h2
          have h1 := bt h1
          rw [lenL_eq] at h1
          rw [allOne_eq] at h2
          rw [mapImm_eq] at hp
          rw [(info_inv (hf.info hi)).2.1, (info_inv (hf.info hi)).2.2.1]
          exact ⟨h1, h2, Kof.bx hp⟩
        · exact hp.elim
      · exact hp.elim
    · exact hp.elim
  case box t x =>
    simp only [popG] at hp
    simp only [pop]
    split at hp
    · rename_i y hy
      split at hp
      · rename_i i hi
        split at hp
        · rename_i h1
          split at hp
          · rename_i h2
            have h1 := bt h1
            rw [lenL_eq] at h1
            rw [allOk_eq] at h2
            rw [hy, (info_inv (hf.info hi)).2.2.1]
            exact ⟨h1, h2, Kof.bx hp⟩
          · exact hp.elim
        · exact hp.elim
      · exact hp.elim
    · exact hp.elim
  case unOp op t x =>
    simp only [popG] at hp
    simp only [pop]
    split at hp
    · rename_i k a hx
      rw [hx]
      split at hp
      · exact ⟨_, rfl, Kof.nil hp⟩
      · exact hp.elim
    · rename_i a hx
      rw [hx]
      split at hp
      · refine ⟨_, rfl, ?_⟩
        cases a <;> exact Kof.nil hp
      · exact hp.elim
    · exact hp.elim
  case extract x i =>
    simp only [popG] at hp
    simp only [pop]
    split at hp
    · rename_i xs hx
      rw [hx]
      split at hp
      · rename_i y hy
        exact ⟨y, by rw [← nth_eq]; exact hy, Kof.nil hp⟩
      · exact hp.elim
    · exact hp.elim
  case nilCheck x =>
    simp only [popG] at hp
    simp only [pop]
    split at hp
    · rename_i r i off hx
      rw [hx]
      split at hp
      · rename_i hl
        obtain ⟨ab, hab⟩ := isLive_e hl
        simp only [hab]
        exact Kof.nil hp
      · exact hp.elim
    · rename_i cs off hx
      rw [hx]
      exact Kof.nil hp
    · exact hp.elim
  case convert s d x =>
    simp only [popG] at hp
    simp only [pop]
    split at hp
    · rename_i kk a hx
      rw [hx]
      split at hp
      · rename_i k1 h1
        split at hp
        · rename_i k2 h2
          rw [hf.int h1, hf.int h2]
          exact Kof.nil hp
        · exact hp.elim
      · exact hp.elim
    · exact hp.elim
end
end Go.Proofs.YtgcofllgbdcicaaGreat.Am
