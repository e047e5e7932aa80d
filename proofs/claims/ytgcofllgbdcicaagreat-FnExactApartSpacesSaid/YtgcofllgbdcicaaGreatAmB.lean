/- A part of AM, a framework of the prover own: functions of any program as maps of data. -/
import Derived.Test.YtgcofllgbdcicaaGreatAmA
import Derived.Laws.AppendOwn
import Derived.Laws.MakeOwn
import Derived.Laws.StructEq
import Derived.Laws.Slices
import Derived.Lib.QuietBelow
namespace Go.Proofs.YtgcofllgbdcicaaGreat.Am
open Go.RowKit
set_option linter.unusedVariables false
set_option linter.unusedSimpArgs false

/-! ### What is asked of types -/
/-- none: a variable of this type is one cell; some k: k cells, its value an aggregate. -/
def aggOf (P : Program) (t : TypeId) : Option (Option Nat) :=
  match P.underlying t, P.info? t with
  | some (.struct _), some i => some (some i.size)
  | some (.array _ _), some i => some (some i.size)
  | some _, some _ => some none
  | _, _ => none
/-- The cells of the zero value. -/
def zeroOf (P : Program) (t : TypeId) : Option (List Value) := ((P.info? t).bind (·.zero)).map (·.cells.toList)
def sizeOfT (P : Program) (t : TypeId) : Option Nat := (P.info? t).map (·.size)
/-- A struct's field: where it lies, its type; it has cells. -/
def fieldOf (P : Program) (t : TypeId) (i : Nat) : Option (Nat × TypeId) :=
  match P.underlying t with
  | some (.struct fs) => (fs[i]?).bind fun f => match P.info? f.type with | some j => if j.size = 0 then none else some (f.offset, f.type) | none => none
  | _ => none
/-- A slice's element: its type, its cells, its bytes. -/
def elemOfT (P : Program) (t : TypeId) : Option (TypeId × Nat × Nat) :=
  match P.underlying t with
  | some (.slice e) => (P.info? e).map fun i => (e, i.size, i.bytes)
  | _ => none
/-- Two values of a type of scalars, by their cells, compared field by field. -/
def eqFl (P : Program) (E : TypeId → List Value → List Value → Option Bool) (xs ys : List Value) : List Field → Option Bool
  | [] => some true
  | f :: fs => if f.name = "_" then none else
    match (P.info? f.type).map (·.size) with
    | some k => match E f.type ((xs.drop f.offset).take k) ((ys.drop f.offset).take k), eqFl P E xs ys fs with | some a, some b => some (a && b) | _, _ => none
    | none => none
def eqT (P : Program) : Nat → TypeId → List Value → List Value → Option Bool
  | 0, _, _, _ => none
  | d + 1, t, xs, ys =>
    match P.underlying t with
    | some .bool => match xs, ys with | [.bool a], [.bool b] => some (a == b) | _, _ => none
    | some (.int _) => match xs, ys with | [.int k a], [.int k' b] => if k = k' then some (a == b) else none | _, _ => none
    | some (.struct fs) => if P.stoodInHeld t then none else eqFl P (eqT P d) xs ys fs.toList
    | _ => none

/-! ### Operands -/
def ev (T : Nat → AV) : Operand → AV
  | .tmp t => T t
  | .const v => .t (.c (.imm v))
  | .func f => .t (.c (.imm (.func (.func f) #[] #[])))
  | .global _ => .t (.c .dead)
def RTm (F : Nat → Prop) (w : World) (m : AM) (h : AH) (T : Nat → AV) (a : Act) : Prop := ∀ d, RV F w m h (T d) (a.tmps.getD d undef)
theorem ev_sound {F : Nat → Prop} {w : World} {m : AM} {h : AH} {T : Nat → AV} {a : Act} (hT : RTm F w m h T a) (x : Operand) : RV F w m h (ev T x) (a.eval x) := by
  cases x with
  | tmp t => exact hT t
  | const v => exact (rfl : v = v)
  | func f => exact (rfl : Value.func (.func f) #[] #[] = Value.func (.func f) #[] #[])
  | global g => trivial

/-- A cell whose value is surely one cell. -/
def okc (h : AH) : AC → Bool
  | .imm u => one u
  | .dead => false
  | .own r | .sub r _ _ | .ptr r _ _ => match h[r]? with | some (.live _) => true | _ => false
  | _ => true
/-- What the heap g says is live, is live in h, too, and the same; or is not there yet. -/
def Cp (g h : AH) : Prop := ∀ (r : Nat) (ab : AB), g[r]? = some (.live ab) → h[r]? ≠ some .gone ∧ ∀ ab', h[r]? = some (.live ab') → ab' = ab
theorem Cp.refl (h : AH) : Cp h h := fun r ab hr => ⟨(by rw [hr]; intro he; cases he), (fun ab' h' => by rw [hr] at h'; cases h'; rfl)⟩
theorem Cp.gone {g h : AH} (hC : Cp g h) {r : Nat} {ab : AB} (hr : g[r]? = some (.live ab)) (hg : h[r]? = some .gone) : False := (hC r ab hr).1 hg
theorem Cp.live {g h : AH} (hC : Cp g h) {r : Nat} {ab ab' : AB} (hr : g[r]? = some (.live ab)) (hl : h[r]? = some (.live ab')) : ab' = ab := (hC r ab hr).2 ab' hl
theorem okc_live {g : AH} {r : Nat} (ho : (match g[r]? with | some (.live _) => true | _ => false) = true) : ∃ ab, g[r]? = some (.live ab) := by
  split at ho
  · exact ⟨_, by assumption⟩
  · cases ho
theorem RC.one {F : Nat → Prop} {w : World} {m : AM} {g h : AH} (hC : Cp g h) {c : AC} {v : Value} (hc : RC F w m h c v) (ho : okc g c = true) : one v = true := by
  cases c with
  | imm u => have : v = u := hc; subst this; exact ho
  | view xs =>
    have h1 : RP F w (.view xs) v := hc
    unfold RP at h1
    obtain ⟨p, cap, rfl, _⟩ := h1
    rfl
  | own r => rcases hc with h1 | ⟨ab, h1, ⟨b, cap, h2, rfl⟩ | ⟨h2, h3, rfl⟩⟩; (obtain ⟨ab, hab⟩ := okc_live ho; exact (hC.gone hab h1).elim); rfl; rfl
  | sub r lo n => rcases hc with h1 | ⟨ab, c, p, h1, h3, h8, h9, rfl, h11⟩; (obtain ⟨ab, hab⟩ := okc_live ho; exact (hC.gone hab h1).elim); rfl
  | ptr r i off => rcases hc with h1 | ⟨ab, b, cap, h1, h2, rfl⟩; (obtain ⟨ab, hab⟩ := okc_live ho; exact (hC.gone hab h1).elim); rfl
  | eptr cs off => obtain ⟨b, o, rfl, _⟩ := hc; rfl
  | dead => cases ho

/-! ### What an operation yields that writes nothing -/
def bo (op : BinOp) (x y : Value) : Option Value :=
  match x, y with
  | .int k a, .int k' b =>
    if k = k' then
      match op with
      | .add => some (.int k (k.wrap (a + b)))
      | .sub => some (.int k (k.wrap (a - b)))
      | .mul => some (.int k (k.wrap (a * b)))
      | .quo => if b = 0 then none else some (.int k (k.wrap (a.tdiv b)))
      | .rem => if b = 0 then none else some (.int k (a.tmod b))
      | .eql => some (.bool (a == b))
      | .neq => some (.bool (a != b))
      | .lss => some (.bool (a < b))
      | .leq => some (.bool (a ≤ b))
      | .gtr => some (.bool (a > b))
      | .geq => some (.bool (a ≥ b))
      | _ => none
    else none
  | _, _ => none
def bob (op : BinOp) (x y : Bool) : Option Value :=
  match op with
  | .eql => some (.bool (x == y))
  | .neq => some (.bool (x != y))
  | _ => none
def uo (op : UnOp) (x : Value) : Option Value :=
  match op, x with
  | .neg, .int k n => some (.int k (k.wrap (0 - n)))
  | .not, .bool b => some (.bool !b)
  | _, _ => none
def AT.cells : AT → List AC
  | .c x => [x]
  | .agg xs => xs
/-- The length of a slice. -/
def lenA (h : AH) : AC → Option Nat
  | .imm (.slice none 0 0) => some 0
  | .view xs => some xs.length
  | .own r => match h[r]? with | some (.live ab) => some ab.es.length | _ => none
  | .sub r lo n => match h[r]? with | some (.live ab) => some n | _ => none
  | _ => none
/-- A part of a row of cells. -/
def ldA (q : Option Nat) (x : List AC) (off : Nat) (K : AV → Prop) : Prop :=
  match q with
  | none => ∃ c, x[off]? = some c ∧ K (.t (.c c))
  | some k => off + k ≤ x.length ∧ K (.t (.agg ((x.drop off).take k)))
def structOk (P : Program) (t : TypeId) : Bool :=
  match P.underlying t with
  | some (.struct fs) => (fs.toList.mapM fun f => (P.info? f.type).map fun i => (f.offset, i.size)).isSome
  | _ => false
/-- A row of cells with a part of it put anew. -/
def setAt (cs : List AC) (d : Nat) (ys : List AC) : List AC := cs.take d ++ ys ++ cs.drop (d + ys.length)
/-- A struct's cells, its fields put in turn. -/
def fillA (P : Program) (T : Nat → AV) (h : AH) (t : TypeId) : List (Nat × Operand) → List AC → (List AC → Prop) → Prop
  | [], cs, K => K cs
  | (i, x) :: ps, cs, K => match ev T x, fieldOf P t i with
    | .t y, some (d, u) => sizeOfT P u = some y.cells.length ∧ d + y.cells.length ≤ cs.length ∧ y.cells.all (okc h) = true ∧ fillA P T h t ps (setAt cs d y.cells) K
    | _, _ => False
def fillE (T : Nat → AV) (h : AH) (k : Nat) : List (Nat × Operand) → List (List AC) → (List (List AC) → Prop) → Prop
  | [], es, K => K es
  | (i, x) :: ps, es, K => match ev T x with
    | .t y => y.cells.length = k ∧ i < es.length ∧ y.cells.all (okc h) = true ∧ fillE T h k ps (es.set i y.cells) K
    | _ => False
def pop (P : Program) (T : Nat → AV) (h : AH) (n : Nat) (o : Op) (K : AV → List AB → Prop) : Prop :=
  match o with
  | .move x => K (ev T x) []
  | .assign x => K (ev T x) []
  | .pick c a b => match ev T c with | .t (.c (.imm (.bool q))) => (q = true → K (ev T a) []) ∧ (q = false → K (ev T b) []) | _ => False
  | .alloc t => match zeroOf P t, sizeOfT P t with | some z, some k => z.length = k ∧ z.all one = true ∧ K (.t (.c (.ptr n 0 0))) [⟨t, k, [z.map .imm]⟩] | _, _ => False
  | .box t x => match ev T x, sizeOfT P t with | .t y, some k => y.cells.length = k ∧ y.cells.all (okc h) = true ∧ K (.t (.c (.ptr n 0 0))) [⟨t, k, [y.cells]⟩] | _, _ => False
  | .load t a => match ev T a, aggOf P t with
    | .t (.c (.ptr r i off)), some q => match h[r]? with | some (.live ab) => ∃ x, ab.es[i]? = some x ∧ ldA q x off (fun v => K v []) | _ => False
    | .t (.c (.eptr cs off)), some q => ldA q cs off (fun v => K v [])
    | _, _ => False
  | .binOp op t x y _ => match ev T x, ev T y with
    | .t (.c (.imm (.int k a))), .t (.c (.imm (.int k' b))) => ∃ z, bo op (.int k a) (.int k' b) = some z ∧ K (.t (.c (.imm z))) []
    | .t (.c (.imm (.bool a))), .t (.c (.imm (.bool b))) => P.underlying t = some .bool ∧ ∃ z, bob op a b = some z ∧ K (.t (.c (.imm z))) []
    | .t (.agg xs), .t (.agg ys) => P.eqGuardType P.depth t = false ∧ (∃ fs, P.underlying t = some (.struct fs)) ∧ ∃ us vs r, xs = us.map .imm ∧ ys = vs.map .imm ∧ eqT P 8 t us vs = some r ∧
        (match op with | .eql => K (.t (.c (.imm (.bool r)))) [] | .neq => K (.t (.c (.imm (.bool (!r))))) [] | _ => False)
    | _, _ => False
  | .unOp op _ x => match ev T x with | .t (.c (.imm u)) => ∃ z, uo op u = some z ∧ K (.t (.c (.imm z))) [] | _ => False
  | .fieldAddr t x i => match ev T x, fieldOf P t i with
    | .t (.c (.ptr r j off)), some (d, _) => (match h[r]? with | some (.live ab) => K (.t (.c (.ptr r j (off + d)))) [] | _ => False)
    | .t (.c (.eptr cs off)), some (d, _) => K (.t (.c (.eptr cs (off + d)))) []
    | _, _ => False
  | .field t x i => match ev T x, fieldOf P t i with
    | .t (.agg xs), some (d, u) => match aggOf P u with | some q => ldA q xs d (fun v => K v []) | none => False
    | _, _ => False
  | .indexAddr t x i => match ev T x, ev T i, elemOfT P t with
    | .t (.c (.view xs)), .t (.c (.imm (.int _ z))), some (_, k, _) => 0 ≤ z ∧ ∃ y, xs[z.toNat]? = some y ∧ y.length = k ∧ K (.t (.c (.eptr y 0))) []
    | .t (.c (.own r)), .t (.c (.imm (.int _ z))), some (_, k, _) => match h[r]? with | some (.live ab) => ab.k = k ∧ 0 ≤ z ∧ z.toNat < ab.es.length ∧ K (.t (.c (.ptr r z.toNat 0))) [] | _ => False
    | .t (.c (.sub r lo n)), .t (.c (.imm (.int _ z))), some (_, k, _) => match h[r]? with | some (.live ab) => ab.k = k ∧ 0 ≤ z ∧ z.toNat < n ∧ K (.t (.c (.ptr r (lo + z.toNat) 0))) [] | _ => False
    | _, _, _ => False
  | .extract x i => match ev T x with | .tup xs => ∃ y, xs[i]? = some y ∧ K (.t y) [] | _ => False
  | .nilCheck x => match ev T x with
    | .t (.c (.ptr r i off)) => (match h[r]? with | some (.live ab) => K (.t (.c (.ptr r i off))) [] | _ => False)
    | .t (.c (.eptr cs off)) => K (.t (.c (.eptr cs off))) []
    | _ => False
  | .convert s d x => match ev T x, P.underlying s, P.underlying d with
    | .t (.c (.imm (.int _ n))), some (.int _), some (.int k) => K (.t (.c (.imm (.int k (k.wrap n))))) []
    | _, _, _ => False
  | .makeSlice t l c => match ev T l, ev T c, elemOfT P t with
    | .t (.c (.imm (.int .i64 a))), .t (.c (.imm (.int .i64 b))), some (e, k, by_) => a = b ∧ 0 ≤ a ∧ (by_ : Int) * a ≤ 140737488355328 ∧ a ≤ 4611686018427387904 ∧ ∃ z, zeroOf P e = some z ∧ z.length = k ∧ 0 < k ∧ z.all one = true ∧ K (.t (.c (.own n))) [⟨e, k, List.replicate a.toNat (z.map .imm)⟩]
    | _, _, _ => False
  | .build t parts => structOk P t = true ∧ (match zeroOf P t with | some z => z.all one = true ∧ fillA P T h t parts.toList (z.map .imm) (fun cs => K (.t (.agg cs)) []) | none => False)
  | .buildSlice t len parts => match elemOfT P t with
    | some (e, k, _) => ∃ z, zeroOf P e = some z ∧ z.length = k ∧ 0 < k ∧ len * k ≤ 16777216 ∧ z.all one = true ∧ fillE T h k parts.toList (List.replicate len (z.map .imm)) (fun es => K (.t (.c (.own n))) [⟨e, k, es⟩])
    | none => False
  | .slice t x lo hi none => match ev T x, elemOfT P t with
    | .t (.c y), some (e, k, _) => match lenA h y with
      | some len => ∃ a b : Nat, (match lo with | none => a = 0 | some l => match ev T l with | .t (.c (.imm (.int _ z))) => 0 ≤ z ∧ a = z.toNat | _ => False) ∧
          (match hi with | none => b = len | some l => match ev T l with | .t (.c (.imm (.int _ z))) => 0 ≤ z ∧ b = z.toNat | _ => False) ∧ a ≤ b ∧ b ≤ len ∧
          (match y with
            | .imm _ => K (.t (.c (.view []))) []
            | .view xs => (∀ x ∈ xs, x.length = k) ∧ K (.t (.c (.view ((xs.take b).drop a)))) []
            | .own r => (match h[r]? with | some (.live ab) => ab.k = k ∧ K (.t (.c (.sub r a (b - a)))) [] | _ => False)
            | _ => False)
      | none => False
    | _, _ => False
  | .call c => match c.callee, c.args.toList, c.argTypes.toList with
    | .builtin .len, [x], [t] => match ev T x, elemOfT P t with | .t (.c y), some _ => ∃ n, lenA h y = some n ∧ K (.t (.c (.imm (.int .i64 (n : Int))))) [] | _, _ => False
    | .builtin .min, [x, y], _ => match ev T x, ev T y with | .t (.c (.imm (.int .i64 a))), .t (.c (.imm (.int .i64 b))) => K (.t (.c (.imm (.int .i64 (if b < a then b else a))))) [] | _, _ => False
    | .builtin .max, [x, y], _ => match ev T x, ev T y with | .t (.c (.imm (.int .i64 a))), .t (.c (.imm (.int .i64 b))) => K (.t (.c (.imm (.int .i64 (if a < b then b else a))))) [] | _, _ => False
    | _, _, _ => False
  | _ => False

/-- What came of an operation that writes nothing: what was there is as it was; its rows lie in new blocks; its result means what it says, in every heap that holds them at n, n + 1, .. -/
def Out (F : Nat → Prop) (w : World) (m : AM) (h : AH) (n : Nat) (res : AV) (rows : List AB) (v : Value) (w' : World) : Prop :=
  Below w.heap.size w w' ∧ ∃ nb : AM, nb.length = rows.length ∧ (∀ (j b c : Nat), nb[j]? = some (some (b, c)) → w.heap.size ≤ b ∧ b < w'.heap.size) ∧
    (∀ (j j' b c c' : Nat), nb[j]? = some (some (b, c)) → nb[j']? = some (some (b, c')) → j = j') ∧
    ∀ (m' : AM) (h' : AH), Keeps m h m' h' → (∀ (j : Nat) (ab : AB), rows[j]? = some ab → h'[n + j]? = some (.live ab) ∧ m'[n + j]? = nb[j]?) →
      RV F w' m' h' res v ∧ (∀ (j : Nat) (ab : AB), rows[j]? = some ab → nb[j]? = some none → ab.es.length = 0) ∧ ∀ (j : Nat) (ab : AB) (b c : Nat), rows[j]? = some ab → nb[j]? = some (some (b, c)) → RB F w' m' h' b c ab
section
variable {P : Program} {F : Nat → Prop} {w : World} {m : AM} {h : AH} {n : Nat}
theorem out0 {res : AV} {v : Value} (hr : RV F w m h res v) : Out F w m h n res [] v w :=
  ⟨Below.refl _ _, [], rfl, fun j b c hj => by simp at hj, fun j j' b c c' hj => by simp at hj, fun m' h' hk _ => ⟨RV.ext (fun _ hb => hb) (fun _ _ => rfl) hk hr, fun j ab hj => by simp at hj, fun j ab b c hj => by simp at hj⟩⟩
theorem alloc_old (w : World) (o : Obj) (b : Nat) (hb : b < w.heap.size) : (w.alloc o).heap[b]? = w.heap[b]? := by
  show (w.heap.push o)[b]? = _
  rw [Array.getElem?_push, if_neg (by omega)]
theorem alloc_new (w : World) (o : Obj) : (w.alloc o).heap[w.heap.size]? = some o := by
  show (w.heap.push o)[w.heap.size]? = _
  simp
/-- One new block. -/
theorem out1 (hH : RH F w m h) {t : TypeId} {k cap : Nat} {cur : Array Value} {es : List (List AC)} {res : AV} {v : Value} (hs : cur.size = cap * k) (hc : es.length ≤ cap) (hm : cap ≤ maxLen)
    (he : ∀ (i : Nat) (x : List AC), es[i]? = some x → x.length = k ∧ ∀ (j : Nat) (c : AC), x[j]? = some c → ∃ u, cur[i * k + j]? = some u ∧ one u = true ∧ RC F w m h c u)
    (hr : ∀ (m' : AM) (h' : AH), h'[n]? = some (.live ⟨t, k, es⟩) → m'[n]? = some (some (w.heap.size, cap)) → RV F (w.alloc (.cells cur t)) m' h' res v) :
    Out F w m h n res [⟨t, k, es⟩] v (w.alloc (.cells cur t)) := by
  refine ⟨(Below.refl _ _).alloc (Nat.le_refl _) _, [some (w.heap.size, cap)], rfl, fun j b c hj => ?_, fun j j' b c c' hj hj' => ?_, fun m' h' hk hp => ?_⟩
  · cases j with
    | zero => simp at hj; obtain ⟨rfl, rfl⟩ := hj; simp
    | succ j => simp at hj
  · cases j <;> cases j' <;> simp at hj hj' <;> rfl
  · obtain ⟨h1, h2⟩ := hp 0 _ rfl
    simp only [Nat.add_zero, List.getElem?_cons_zero] at h1 h2
    refine ⟨hr m' h' h1 h2, fun j ab hj hb => by cases j <;> simp at hb, fun j ab b c hj hb => ?_⟩
    cases j with
    | succ j => simp at hj
    | zero =>
      simp at hj hb
      obtain ⟨rfl, rfl⟩ := hb
      subst hj
      exact ⟨cur, alloc_new w _, hs, hc, hm, fun i x hx => ⟨(he i x hx).1, fun j c hj => let ⟨u, hu, ho, hru⟩ := (he i x hx).2 j c hj; ⟨u, hu, ho, RC.ext (fun _ hb => hb) (fun b hb => alloc_old w _ b (hH.old b hb)) hk hru⟩⟩⟩
theorem all_one {vs : List Value} (h : vs.all one = true) {j : Nat} {u : Value} (hj : vs[j]? = some u) : one u = true := List.all_eq_true.1 h u (List.mem_of_getElem? hj)
/-- A value as a row of cells. -/
theorem cells_of {g : AH} (hC : Cp g h) {x : AT} {v : Value} (hr : RT F w m h x v) (hok : x.cells.all (okc g) = true) : v.cells.size = x.cells.length ∧ ∀ (j : Nat) (c : AC), x.cells[j]? = some c → ∃ u, v.cells[j]? = some u ∧ one u = true ∧ RC F w m h c u := by
  cases x with
  | c y =>
    have ho := RC.one hC (c := y) hr (by simpa [AT.cells] using hok)
    have hv : v.cells = #[v] := by cases v <;> first | rfl | cases ho
    refine ⟨by rw [hv]; rfl, fun j c hj => ?_⟩
    cases j with
    | zero => simp [AT.cells] at hj; subst hj; exact ⟨v, by rw [hv]; rfl, ho, hr⟩
    | succ j => simp [AT.cells] at hj
  | agg xs =>
    obtain ⟨vs, rfl, hl, hc⟩ := hr
    exact ⟨by simp [Value.cells, AT.cells, hl], fun j c hj => let ⟨u, hu, ho, hr⟩ := hc j c hj; ⟨u, by simpa [Value.cells] using hu, ho, hr⟩⟩
end
end Go.Proofs.YtgcofllgbdcicaaGreat.Am
