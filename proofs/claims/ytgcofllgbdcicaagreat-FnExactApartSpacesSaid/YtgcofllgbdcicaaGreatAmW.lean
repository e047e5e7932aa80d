/- A part of AM, a framework of the prover own: functions of any program as maps of data. -/
import Derived.Test.YtgcofllgbdcicaaGreatAmV
namespace Go.Proofs.YtgcofllgbdcicaaGreat.Am
open Go.RowKit
set_option linter.unusedVariables false
set_option linter.unusedSimpArgs false

/-! ### An evaluator that reckons ('cbv'): the same questions, answered from a table of types -/
structure TI where
  agg : Option Nat
  zero : List Value
  size : Nat
  flds : List (Option (Nat × TypeId))
  elem : Option (TypeId × Nat × Nat)
  sok : Bool
  kd : Option (Option IntKind)
def infoOf (P : Program) (t : TypeId) : Option TI :=
  match aggOf P t, zeroOf P t, sizeOfT P t, P.underlying t with
  | some a, some z, some s, some u => some ⟨a, z, s, (match u with | .struct fs => (List.range fs.size).map (fieldOf P t) | _ => []), elemOfT P t, structOk P t, match u with | .bool => some none | .int k => some (some k) | _ => none⟩
  | _, _, _, _ => none
def nth {α : Type} : List α → Nat → Option α
  | [], _ => none
  | x :: _, 0 => some x
  | _ :: l, n + 1 => nth l n
theorem nth_eq {α : Type} : ∀ (l : List α) (n : Nat), nth l n = l[n]?
  | [], n => by simp [nth]
  | x :: l, 0 => by simp [nth]
  | x :: l, n + 1 => by simp [nth, nth_eq l n]
def ti : List (TypeId × TI) → TypeId → Option TI
  | [], _ => none
  | (k, i) :: l, t => match Nat.beq k t with | true => some i | false => ti l t
structure Fits (P : Program) (tab : List (TypeId × TI)) : Prop where
  ok : tab.map (fun e => infoOf P e.1) = tab.map (fun e => some e.2)
  mix : P.follows .mixedOrders = true
theorem Fits.at_ {P : Program} {tab : List (TypeId × TI)} (hf : tab.map (fun e => infoOf P e.1) = tab.map (fun e => some e.2)) {t : TypeId} {i : TI} (h : ti tab t = some i) : infoOf P t = some i := by
  induction tab with
  | nil => cases h
  | cons e l ih =>
    obtain ⟨k, j⟩ := e
    simp only [List.map_cons, List.cons.injEq] at hf
    unfold ti at h
    split at h
    · rename_i hb
      have := Nat.eq_of_beq_eq_true hb
      subst this
      cases h
      exact hf.1
    · exact ih hf.2 h
section
variable {P : Program} {t : TypeId} {i : TI}
theorem info_inv (h : infoOf P t = some i) : aggOf P t = some i.agg ∧ zeroOf P t = some i.zero ∧ sizeOfT P t = some i.size ∧ (∀ j d u, nth i.flds j = some (some (d, u)) → fieldOf P t j = some (d, u)) ∧ elemOfT P t = i.elem ∧ structOk P t = i.sok ∧
    (i.kd = some none → P.underlying t = some .bool) ∧ ∀ k, i.kd = some (some k) → P.underlying t = some (.int k) := by
  unfold infoOf at h
  split at h
  · rename_i a z s u h1 h2 h3 h4
    cases h
    refine ⟨h1, h2, h3, fun j d u' hj => ?_, rfl, rfl, fun hk => ?_, fun k hk => ?_⟩
    · simp only [nth_eq] at hj
      split at hj
      · simp only [List.getElem?_map, Option.map_eq_some_iff] at hj
        obtain ⟨j', h5, h6⟩ := hj
        have := (List.getElem?_eq_some_iff.1 h5).2
        simp at this
        subst this
        exact h6
      · simp at hj
    · simp only at hk; rw [h4]; split at hk <;> first | rfl | cases hk
    · simp only at hk; rw [h4]; split at hk <;> first | (cases hk; rfl) | cases hk
  · cases h
end
/-- An abstract block, a variable's own or a row. -/
inductive EE where
  | bx (t k : Nat) (x : List AC)
  | rw (ab : AB)
  | gn
abbrev EH := List EE
def EE.e : EE → AE
  | .bx t k x => .live ⟨t, k, [x]⟩
  | .rw ab => .live ab
  | .gn => .gone
def toH (h : EH) : AH := h.map EE.e
def EE.isLive : Option EE → Bool
  | some (.bx _ _ _) => true
  | some (.rw _) => true
  | _ => false
/-- What is not to be reckoned: it stands as a variable while 'cbv' runs. -/
inductive GK where
  | w | q | qb | ng | cv | mn | mx | ln | nc | rp | ap | tk | st | N | X | Y | Z | S | SO | E | C | PC | L
@[reducible] def GT : GK → Type
  | .w => BinOp → IntKind → Int → Int → Int
  | .q => BinOp → Int → Int → Bool
  | .qb => BinOp → Bool → Bool → Bool
  | .ng => IntKind → Int → Int
  | .cv => IntKind → Int → Int
  | .mn => Int → Int → Int
  | .mx => Int → Int → Int
  | .ln => List (List AC) → Int
  | .nc => Nat → Int
  | .rp => Int → List AC → List (List AC)
  | .ap => List (List AC) → List (List AC) → List (List AC)
  | .tk => List (List AC) → Nat → Nat → List (List AC)
  | .st => List (List AC) → Nat → List AC → List (List AC)
  | .N => Prop → Prop → Prop
  | .X => List (List AC) → Int → Nat → (List AC → Prop) → Prop
  | .Y => Nat → List (List AC) → Int → (Nat → Prop) → Prop
  | .Z => Nat → Nat → Int → (Nat → Prop) → Prop
  | .S => List (List AC) → Nat → Option Int → Option Int → (List (List AC) → Prop) → Prop
  | .SO => List (List AC) → Option Int → Option Int → (Nat → Nat → Prop) → Prop
  | .E => BinOp → TypeId → List AC → List AC → (Bool → Prop) → Prop
  | .C => FuncId → EH → List AT → (AV → EH → Prop) → Prop
  | .PC => FuncId → EH → Nat → List AT → (AV → EH → Prop) → Prop
  | .L => Code → (Exit → List (Nat × AV) → EH → Prop) → List (Nat × AV) → EH → Prop
abbrev Gd := (k : GK) → GT k
def sliceB (len : Nat) (lo hi : Option Int) (K : Nat → Nat → Prop) : Prop :=
  ∃ a b : Nat, (match lo with | none => a = 0 | some z => 0 ≤ z ∧ a = z.toNat) ∧ (match hi with | none => b = len | some z => 0 ≤ z ∧ b = z.toNat) ∧ a ≤ b ∧ b ≤ len ∧ K a b
def G0 (P : Program) (n0 N : Nat) : Gd := fun k => match k with
  | .w => ((fun op k a b => match op with | .add => k.wrap (a + b) | .sub => k.wrap (a - b) | .mul => k.wrap (a * b) | .quo => k.wrap (a.tdiv b) | .rem => a.tmod b | _ => 0) : BinOp → IntKind → Int → Int → Int)
  | .q => ((fun op a b => match op with | .eql => a == b | .neq => a != b | .lss => decide (a < b) | .leq => decide (a ≤ b) | .gtr => decide (a > b) | .geq => decide (a ≥ b) | _ => false) : BinOp → Int → Int → Bool)
  | .qb => ((fun op a b => match op with | .eql => a == b | .neq => a != b | _ => false) : BinOp → Bool → Bool → Bool)
  | .ng => ((fun k a => k.wrap (0 - a)) : IntKind → Int → Int)
  | .cv => ((fun k a => k.wrap a) : IntKind → Int → Int)
  | .mn => ((fun a b => if b < a then b else a) : Int → Int → Int)
  | .mx => ((fun a b => if a < b then b else a) : Int → Int → Int)
  | .ln => ((fun xs => (xs.length : Int)) : List (List AC) → Int)
  | .nc => ((fun n => (n : Int)) : Nat → Int)
  | .rp => ((fun n x => List.replicate n.toNat x) : Int → List AC → List (List AC))
  | .ap => ((fun xs ys => xs ++ ys) : List (List AC) → List (List AC) → List (List AC))
  | .tk => ((fun xs a n => (xs.drop a).take n) : List (List AC) → Nat → Nat → List (List AC))
  | .st => ((fun xs i x => xs.set i x) : List (List AC) → Nat → List AC → List (List AC))
  | .N => ((fun p q => p ∧ q) : Prop → Prop → Prop)
  | .X => ((fun xs z k K => 0 ≤ z ∧ ∃ y, xs[z.toNat]? = some y ∧ y.length = k ∧ K y) : List (List AC) → Int → Nat → (List AC → Prop) → Prop)
  | .Y => ((fun k xs z K => 0 ≤ z ∧ z.toNat < xs.length ∧ K z.toNat) : Nat → List (List AC) → Int → (Nat → Prop) → Prop)
  | .Z => ((fun lo n z K => 0 ≤ z ∧ z.toNat < n ∧ K (lo + z.toNat)) : Nat → Nat → Int → (Nat → Prop) → Prop)
  | .S => ((fun xs k lo hi K => (∀ x ∈ xs, x.length = k) ∧ sliceB xs.length lo hi fun a b => K ((xs.take b).drop a)) : List (List AC) → Nat → Option Int → Option Int → (List (List AC) → Prop) → Prop)
  | .SO => ((fun es lo hi K => sliceB es.length lo hi fun a b => K a (b - a)) : List (List AC) → Option Int → Option Int → (Nat → Nat → Prop) → Prop)
  | .E => ((fun op t xs ys K => P.eqGuardType P.depth t = false ∧ (∃ fs, P.underlying t = some (.struct fs)) ∧ ∃ us vs r, xs = us.map .imm ∧ ys = vs.map .imm ∧ eqT P 8 t us vs = some r ∧ (match op with | .eql => K r | .neq => K (!r) | _ => False)) : BinOp → TypeId → List AC → List AC → (Bool → Prop) → Prop)
  | .C => ((fun f h args K => Con P f (toH h) args fun res h' => ∃ eh, toH eh = h' ∧ K res eh) : FuncId → EH → List AT → (AV → EH → Prop) → Prop)
  | .PC => ((fun f h n args K => ∃ res rows, pcall P f (toH h) n args (fun r s => r = res ∧ s = rows) ∧ ∃ es : EH, toH es = rows.map .live ∧ K res es) : FuncId → EH → Nat → List AT → (AV → EH → Prop) → Prop)
  | .L => ((fun c Q l h => VC P n0 N (.loop c) (fun e T h => ∃ l eh, T = lkT l ∧ h = toH eh ∧ Q e l eh) (lkT l) (toH h)) : Code → (Exit → List (Nat × AV) → EH → Prop) → List (Nat × AV) → EH → Prop)

def okG (h : EH) : AC → Bool
  | .imm u => one u
  | .dead => false
  | .own r | .sub r _ _ | .ptr r _ _ => EE.isLive (nth h r)
  | _ => true
def allOk (h : EH) : List AC → Bool
  | [] => true
  | c :: cs => match okG h c with | true => allOk h cs | false => false
def lenL {α : Type} : List α → Nat
  | [] => 0
  | _ :: l => (lenL l).succ
def setL {α : Type} : List α → Nat → α → List α
  | [], _, _ => []
  | _ :: l, 0, y => y :: l
  | x :: l, n + 1, y => x :: setL l n y
/-- A row of cells with ys put in at d; false: they do not fit. -/
def putC : List AC → Nat → List AC → List AC
  | cs, _, [] => cs
  | [], _, _ :: _ => []
  | _ :: cs, 0, y :: ys => y :: putC cs 0 ys
  | c :: cs, d + 1, y :: ys => c :: putC cs d (y :: ys)
def cutL (x : List AC) : Nat → Nat → List AC
  | 0, k => x.take k
  | d + 1, k => match x with | [] => [] | _ :: l => cutL l d k
def ldG (q : Option Nat) (x : List AC) (off : Nat) (K : AV → Prop) : Prop :=
  match q with
  | none => match nth x off with | some c => K (.t (.c c)) | none => False
  | some k => match Nat.ble (off + k) (lenL x) with | true => K (.t (.agg (cutL x off k))) | false => False
def fillG (tab : List (TypeId × TI)) (T : Nat → AV) (h : EH) (flds : List (Option (Nat × TypeId))) : List (Nat × Operand) → List AC → (List AC → Prop) → Prop
  | [], cs, K => K cs
  | (i, x) :: ps, cs, K => match ev T x with
    | .t y => match nth flds i with
      | some (some (d, u)) => match ti tab u with
        | some j => match Nat.beq j.size (lenL y.cells) with
          | true => match Nat.ble (d + lenL y.cells) (lenL cs) with
            | true => match allOk h y.cells with
              | true => fillG tab T h flds ps (putC cs d y.cells) K
              | false => False
            | false => False
          | false => False
        | none => False
      | _ => False
    | _ => False
def fillEG (T : Nat → AV) (h : EH) (k : Nat) : List (Nat × Operand) → List (List AC) → (List (List AC) → Prop) → Prop
  | [], es, K => K es
  | (i, x) :: ps, es, K => match ev T x with
    | .t y => match Nat.beq (lenL y.cells) k with
      | true => match Nat.blt i (lenL es) with
        | true => match allOk h y.cells with
          | true => fillEG T h k ps (setL es i y.cells) K
          | false => False
        | false => False
      | false => False
    | _ => False
def mapImm : List Value → List AC
  | [] => []
  | v :: l => .imm v :: mapImm l
def allOne : List Value → Bool
  | [] => true
  | v :: l => match one v with | true => allOne l | false => false
def repL (x : List AC) : Nat → List (List AC)
  | 0 => []
  | n + 1 => x :: repL x n
/-- The row of a slice. -/
def rowG (g : Gd) (h : EH) : AC → Option (List (List AC))
  | .imm (.slice none 0 0) => some []
  | .view xs => some xs
  | .own r => match nth h r with | some (.rw ab) => some ab.es | _ => none
  | .sub r lo n => match nth h r with | some (.rw ab) => some (g .tk ab.es lo n) | _ => none
  | _ => none
def opI (T : Nat → AV) : Option Operand → Option (Option Int)
  | none => some none
  | some x => match ev T x with | .t (.c (.imm (.int _ z))) => some (some z) | _ => none
def kEq : IntKind → IntKind → Bool
  | .i64, .i64 => true
  | .u64, .u64 => true
  | .u8, .u8 => true
  | .i32, .i32 => true
  | .u32, .u32 => true
  | _, _ => false
theorem kEq_eq {k k' : IntKind} (h : kEq k k' = true) : k = k' := by cases k <;> cases k' <;> first | rfl | cases h
def popG (g : Gd) (tab : List (TypeId × TI)) (T : Nat → AV) (h : EH) (n : Nat) (o : Op) (K : AV → EH → Prop) : Prop :=
  match o with
  | .move x => K (ev T x) []
  | .assign x => K (ev T x) []
  | .pick c a b => match ev T c with | .t (.c (.imm (.bool q))) => (match q with | true => K (ev T a) [] | false => K (ev T b) []) | _ => False
  | .alloc t => match ti tab t with
    | some i => match Nat.beq (lenL i.zero) i.size with
      | true => match allOne i.zero with
        | true => K (.t (.c (.ptr n 0 0))) [.bx t i.size (mapImm i.zero)]
        | false => False
      | false => False
    | none => False
  | .box t x => match ev T x with
    | .t y => match ti tab t with
      | some i => match Nat.beq (lenL y.cells) i.size with
        | true => match allOk h y.cells with
          | true => K (.t (.c (.ptr n 0 0))) [.bx t i.size y.cells]
          | false => False
        | false => False
      | none => False
    | _ => False
  | .load t a => match ti tab t with
    | some i => match ev T a with
      | .t (.c (.ptr r e off)) => match nth h r with
        | some (.bx _ _ x) => (match e with | 0 => ldG i.agg x off (fun v => K v []) | _ => False)
        | some (.rw ab) => ∃ x, ab.es[e]? = some x ∧ ldG i.agg x off (fun v => K v [])
        | _ => False
      | .t (.c (.eptr cs off)) => ldG i.agg cs off (fun v => K v [])
      | _ => False
    | none => False
  | .binOp op t x y _ => match ev T x with
    | .t (.c (.imm (.int k a))) => match ev T y with
      | .t (.c (.imm (.int k' b))) => (match kEq k k' with
        | true => match op with
          | .add => K (.t (.c (.imm (.int k (g .w .add k a b))))) []
          | .sub => K (.t (.c (.imm (.int k (g .w .sub k a b))))) []
          | .mul => K (.t (.c (.imm (.int k (g .w .mul k a b))))) []
          | .quo => g .N (b ≠ 0) (K (.t (.c (.imm (.int k (g .w .quo k a b))))) [])
          | .rem => g .N (b ≠ 0) (K (.t (.c (.imm (.int k (g .w .rem k a b))))) [])
          | .eql => K (.t (.c (.imm (.bool (g .q .eql a b))))) []
          | .neq => K (.t (.c (.imm (.bool (g .q .neq a b))))) []
          | .lss => K (.t (.c (.imm (.bool (g .q .lss a b))))) []
          | .leq => K (.t (.c (.imm (.bool (g .q .leq a b))))) []
          | .gtr => K (.t (.c (.imm (.bool (g .q .gtr a b))))) []
          | .geq => K (.t (.c (.imm (.bool (g .q .geq a b))))) []
          | _ => False
        | false => False)
      | _ => False
    | .t (.c (.imm (.bool a))) => match ev T y with
      | .t (.c (.imm (.bool b))) => match (ti tab t).map (·.kd) with
        | some (some none) => match op with
          | .eql => K (.t (.c (.imm (.bool (g .qb .eql a b))))) []
          | .neq => K (.t (.c (.imm (.bool (g .qb .neq a b))))) []
          | _ => False
        | _ => False
      | _ => False
    | .t (.agg xs) => match ev T y with
      | .t (.agg ys) => g .E op t xs ys (fun r => K (.t (.c (.imm (.bool r)))) [])
      | _ => False
    | _ => False
  | .unOp op _ x => match ev T x with
    | .t (.c (.imm (.int k a))) => (match op with | .neg => K (.t (.c (.imm (.int k (g .ng k a))))) [] | _ => False)
    | .t (.c (.imm (.bool a))) => (match op with | .not => K (.t (.c (.imm (.bool (match a with | true => false | false => true))))) [] | _ => False)
    | _ => False
  | .fieldAddr t x i => match (ti tab t).bind (fun j => nth j.flds i) with
    | some (some (d, _)) => match ev T x with
      | .t (.c (.ptr r j off)) => (match EE.isLive (nth h r) with | true => K (.t (.c (.ptr r j (off + d)))) [] | false => False)
      | .t (.c (.eptr cs off)) => K (.t (.c (.eptr cs (off + d)))) []
      | _ => False
    | _ => False
  | .field t x i => match (ti tab t).bind (fun j => nth j.flds i) with
    | some (some (d, u)) => match ev T x with
      | .t (.agg xs) => match ti tab u with | some j => ldG j.agg xs d (fun v => K v []) | none => False
      | _ => False
    | _ => False
  | .indexAddr t x i => match (ti tab t).bind (·.elem) with
    | some (_, k, _) => match ev T i with
      | .t (.c (.imm (.int _ z))) => match ev T x with
        | .t (.c (.view xs)) => g .X xs z k (fun y => K (.t (.c (.eptr y 0))) [])
        | .t (.c (.own r)) => match nth h r with | some (.rw ab) => (match Nat.beq ab.k k with | true => g .Y k ab.es z (fun j => K (.t (.c (.ptr r j 0))) []) | false => False) | _ => False
        | .t (.c (.sub r lo m)) => match nth h r with | some (.rw ab) => (match Nat.beq ab.k k with | true => g .Z lo m z (fun j => K (.t (.c (.ptr r j 0))) []) | false => False) | _ => False
        | _ => False
      | _ => False
    | none => False
  | .extract x i => match ev T x with | .tup xs => (match nth xs i with | some y => K (.t y) [] | none => False) | _ => False
  | .nilCheck x => match ev T x with
    | .t (.c (.ptr r i off)) => (match EE.isLive (nth h r) with | true => K (.t (.c (.ptr r i off))) [] | false => False)
    | .t (.c (.eptr cs off)) => K (.t (.c (.eptr cs off))) []
    | _ => False
  | .convert s d x => match ev T x with
    | .t (.c (.imm (.int _ a))) => match (ti tab s).bind (·.kd) with
      | some (some _) => match (ti tab d).bind (·.kd) with
        | some (some k) => K (.t (.c (.imm (.int k (g .cv k a))))) []
        | _ => False
      | _ => False
    | _ => False
  | .makeSlice t l c => match ev T l with
    | .t (.c (.imm (.int .i64 a))) => match ev T c with
      | .t (.c (.imm (.int .i64 b))) => match (ti tab t).bind (·.elem) with
        | some (e, k, by_) => match ti tab e with
          | some j => match Nat.beq (lenL j.zero) k with
            | true => match Nat.blt 0 k with
              | true => match allOne j.zero with
                | true => g .N (a = b ∧ 0 ≤ a ∧ (by_ : Int) * a ≤ 140737488355328 ∧ a ≤ 4611686018427387904) (K (.t (.c (.own n))) [.rw ⟨e, k, g .rp a (mapImm j.zero)⟩])
                | false => False
              | false => False
            | false => False
          | none => False
        | none => False
      | _ => False
    | _ => False
  | .build t parts => match ti tab t with
    | some i => match i.sok with
      | true => match allOne i.zero with
        | true => fillG tab T h i.flds parts.toList (mapImm i.zero) (fun cs => K (.t (.agg cs)) [])
        | false => False
      | false => False
    | none => False
  | .buildSlice t len parts => match (ti tab t).bind (·.elem) with
    | some (e, k, _) => match ti tab e with
      | some j => match Nat.beq (lenL j.zero) k with
        | true => match Nat.blt 0 k with
          | true => match Nat.ble (len * k) 16777216 with
            | true => match allOne j.zero with
              | true => fillEG T h k parts.toList (repL (mapImm j.zero) len) (fun es => K (.t (.c (.own n))) [.rw ⟨e, k, es⟩])
              | false => False
            | false => False
          | false => False
        | false => False
      | none => False
    | none => False
  | .slice t x lo hi none => match (ti tab t).bind (·.elem) with
    | some (e, k, _) => match opI T lo with
      | some lo => match opI T hi with
        | some hi => match ev T x with
          | .t (.c (.imm (.slice none 0 0))) => g .S [] k lo hi (fun ys => K (.t (.c (.view []))) [])
          | .t (.c (.view xs)) => g .S xs k lo hi (fun ys => K (.t (.c (.view ys))) [])
          | .t (.c (.own r)) => match nth h r with | some (.rw ab) => (match Nat.beq ab.k k with | true => g .SO ab.es lo hi (fun a m => K (.t (.c (.sub r a m))) []) | false => False) | _ => False
          | _ => False
        | none => False
      | none => False
    | none => False
  | .call c => match c.callee with
    | .builtin .len => match c.args.toList with
      | [x] => match c.argTypes.toList with
        | [t] => match (ti tab t).bind (·.elem) with
          | some _ => match ev T x with
            | .t (.c (.imm (.slice none 0 0))) => K (.t (.c (.imm (.int .i64 0)))) []
            | .t (.c (.view xs)) => K (.t (.c (.imm (.int .i64 (g .ln xs))))) []
            | .t (.c (.own r)) => match nth h r with | some (.rw ab) => K (.t (.c (.imm (.int .i64 (g .ln ab.es))))) [] | _ => False
            | .t (.c (.sub r lo m)) => match nth h r with | some (.rw ab) => K (.t (.c (.imm (.int .i64 (g .nc m))))) [] | _ => False
            | _ => False
          | none => False
        | _ => False
      | _ => False
    | .builtin .min => match c.args.toList with
      | [x, y] => match ev T x with
        | .t (.c (.imm (.int .i64 a))) => match ev T y with
          | .t (.c (.imm (.int .i64 b))) => K (.t (.c (.imm (.int .i64 (g .mn a b))))) []
          | _ => False
        | _ => False
      | _ => False
    | .builtin .max => match c.args.toList with
      | [x, y] => match ev T x with
        | .t (.c (.imm (.int .i64 a))) => match ev T y with
          | .t (.c (.imm (.int .i64 b))) => K (.t (.c (.imm (.int .i64 (g .mx a b))))) []
          | _ => False
        | _ => False
      | _ => False
    | _ => False
  | _ => False
def stG (g : Gd) (tab : List (TypeId × TI)) (T : Nat → AV) (h : EH) (t : TypeId) (x y : Operand) (K : EH → Prop) : Prop :=
  match ev T x with
  | .t (.c (.ptr r i off)) => match ev T y with
    | .t v => match ti tab t with
      | some j => match Nat.beq (lenL v.cells) j.size with
        | true => match allOk h v.cells with
          | true => match nth h r with
            | some (.bx t' k e) => (match i with
              | 0 => match Nat.ble (off + j.size) (lenL e) with
                | true => K (setL h r (.bx t' k (putC e off v.cells)))
                | false => False
              | _ => False)
            | some (.rw ab) => (match Nat.beq j.size ab.k with
              | true => (match off with
                | 0 => g .N (∃ e, ab.es[i]? = some e ∧ e.length = ab.k) (K (setL h r (.rw ⟨ab.ty, ab.k, g .st ab.es i v.cells⟩)))
                | _ => False)
              | false => ∃ e, ab.es[i]? = some e ∧ (match Nat.ble (off + j.size) (lenL e) with
                | true => K (setL h r (.rw ⟨ab.ty, ab.k, g .st ab.es i (putC e off v.cells)⟩))
                | false => False))
            | _ => False
          | false => False
        | false => False
      | none => False
    | _ => False
  | _ => False
def apG (g : Gd) (tab : List (TypeId × TI)) (T : Nat → AV) (h : EH) (c : Call) (K : AV → EH → Prop) : Prop :=
  match c.args.toList with
  | [s, x] => match c.argTypes.toList with
    | [t, t'] => match Nat.beq t t' with
      | true => match (ti tab t).bind (·.elem) with
        | some (e, k, by_) => match (ti tab e) with
          | some j => match Nat.beq (lenL j.zero) k with
            | true => match Nat.blt 0 k with
              | true => match ev T x with
                | .t (.c z) => match rowG g h z with
                  | some ys => match ev T s with
                    | .t (.c (.imm (.slice none 0 0))) => g .N ((∀ x ∈ ys, x.length = k) ∧ ys.length * by_ ≤ 140737488355328 ∧ ys.length ≤ 4611686018427387904) (K (.t (.c (.own (lenL h)))) (h ++ [.rw ⟨e, k, g .ap [] ys⟩]))
                    | .t (.c (.own r)) => match nth h r with
                      | some (.rw ab) => match Nat.beq ab.ty e with
                        | true => match Nat.beq ab.k k with
                          | true => g .N ((∀ x ∈ ys, x.length = k) ∧ (ab.es.length + ys.length) * by_ ≤ 140737488355328 ∧ ab.es.length + ys.length ≤ 4611686018427387904) (K (.t (.c (.own (lenL h)))) (setL h r .gn ++ [.rw ⟨e, k, g .ap ab.es ys⟩]))
                          | false => False
                        | false => False
                      | _ => False
                    | _ => False
                  | none => False
                | _ => False
              | false => False
            | false => False
          | none => False
        | none => False
      | false => False
    | _ => False
  | _ => False
def argsG (T : Nat → AV) : List Operand → Option (List AT)
  | [] => some []
  | x :: l => match ev T x with | .t y => (match argsG T l with | some ys => some (y :: ys) | none => none) | _ => none
def opG (g : Gd) (tab : List (TypeId × TI)) (T : Nat → AV) (h : EH) (o : Op) (K : AV → EH → Prop) : Prop :=
  match o with
  | .store t x y => stG g tab T h t x y (fun h' => K (.t (.c (.imm undef))) h')
  | .call c => match c.callee with
    | .builtin .append => apG g tab T h c K
    | .value (.func f) => match argsG T c.args.toList with | some args => g .C f h args K | none => False
    | _ => popG g tab T h (lenL h) (.call c) (fun res rows => K res (h ++ rows))
  | o => popG g tab T h (lenL h) o (fun res rows => K res (h ++ rows))
def hopG (g : Gd) (tab : List (TypeId × TI)) (T : Nat → AV) (h : EH) (o : Op) (K : AV → EH → Prop) : Prop :=
  match o with
  | .call c => match c.callee with
    | .value (.func f) => match argsG T c.args.toList with | some args => g .PC f h (lenL h) args (fun res rows => K res (h ++ rows)) | none => False
    | _ => popG g tab T h (lenL h) (.call c) (fun res rows => K res (h ++ rows))
  | o => popG g tab T h (lenL h) o (fun res rows => K res (h ++ rows))
def putT (l : List (Nat × AV)) : Option Tmp → AV → List (Nat × AV)
  | none, _ => l
  | some d, v => (d, v) :: l
def opDst (ops : List Oper) (i : Nat) : Option Tmp := match nth ops i with | some o => o.dst | none => none
/-- The operations in turn; 'hd' many of them at the head of a region that draws its order. -/
def runS (g : Gd) (tab : List (TypeId × TI)) (ops : List Oper) (Q : List (Nat × AV) → EH → Prop) : List Oper → Nat → List (Nat × AV) → EH → Prop
  | [], _, l, h => Q l h
  | o :: os, hd, l, h =>
    match o.guard with
    | none => (match hd with
      | 0 => opG g tab (lkT l) h o.op (fun res h' => runS g tab ops Q os 0 (putT l o.dst res) h')
      | hd + 1 => hopG g tab (lkT l) h o.op (fun res h' => runS g tab ops Q os hd (putT l o.dst res) h'))
    | some (gi, want) => match opDst ops gi with
      | none => runS g tab ops Q os hd.pred (putT l o.dst (.t (.c (.imm undef)))) h
      | some t => match lkT l t with
        | .t (.c (.imm (.bool b))) => (match want with
          | true => (match b with
            | true => (match hd with
              | 0 => opG g tab (lkT l) h o.op (fun res h' => runS g tab ops Q os 0 (putT l o.dst res) h')
              | hd + 1 => hopG g tab (lkT l) h o.op (fun res h' => runS g tab ops Q os hd (putT l o.dst res) h'))
            | false => runS g tab ops Q os hd.pred (putT l o.dst (.t (.c (.imm undef)))) h)
          | false => (match b with
            | false => (match hd with
              | 0 => opG g tab (lkT l) h o.op (fun res h' => runS g tab ops Q os 0 (putT l o.dst res) h')
              | hd + 1 => hopG g tab (lkT l) h o.op (fun res h' => runS g tab ops Q os hd (putT l o.dst res) h'))
            | true => runS g tab ops Q os hd.pred (putT l o.dst (.t (.c (.imm undef)))) h))
        | .t (.c (.imm _)) => runS g tab ops Q os hd.pred (putT l o.dst (.t (.c (.imm undef)))) h
        | _ => False
def readT (d : Tmp) : List Operand → Bool
  | [] => false
  | .tmp t :: l => match Nat.beq t d with | true => true | false => readT d l
  | _ :: l => readT d l
def readB (d : Tmp) : List Oper → Bool
  | [] => false
  | o :: os => match readT d o.op.operands.toList with | true => true | false => readB d os
/-- How many operations stand ahead of the first that is drawn no more: a store. -/
def headN (all : List Oper) : List Oper → Nat
  | [] => 0
  | o :: os => match o.op with
    | .store _ _ _ => 0
    | .assign _ => (match o.dst with | some d => (match readB d all with | true => 0 | false => (headN all os).succ) | none => (headN all os).succ)
    | _ => (headN all os).succ
def runC (g : Gd) (tab : List (TypeId × TI)) : Code → (Exit → List (Nat × AV) → EH → Prop) → List (Nat × AV) → EH → Prop
  | .skip, Q, l, h => Q .normal l h
  | .ret, Q, l, h => Q .ret l h
  | .exit id, Q, l, h => Q (.exit id) l h
  | .seq x y, Q, l, h => runC g tab x (fun e l h => match e with | .normal => runC g tab y Q l h | e => Q e l h) l h
  | .cond c x y, Q, l, h => match ev (lkT l) c with
    | .t (.c (.imm (.bool b))) => (match b with | true => runC g tab x Q l h | false => runC g tab y Q l h)
    | _ => False
  | .block id c, Q, l, h => runC g tab c (fun e l h => match e with | .exit i => (match Nat.beq i id with | true => Q .normal l h | false => Q (.exit i) l h) | e => Q e l h) l h
  | .region _ ops draw, Q, l, h => match draw with
    | false => runS g tab ops.toList (fun l h => Q .normal l h) ops.toList 0 l h
    | true => runS g tab ops.toList (fun l h => Q .normal l h) ops.toList (headN ops.toList ops.toList) l h
  | .loop c, Q, l, h => g .L c Q l h
  | _, _, _, _ => False
def codeOk (N : Nat) : Code → Bool
  | .seq x y => codeOk N x && codeOk N y
  | .cond _ x y => codeOk N x && codeOk N y
  | .block _ c => codeOk N c
  | .region _ ops draw => textOk N ops && (!draw || drawB ops (headN ops.toList ops.toList))
  | .loop c => codeOk N c
  | _ => true
end Go.Proofs.YtgcofllgbdcicaaGreat.Am
