/- Plain lemmas of this seat's proofs: a law's row from its walk; arguments opened cell by cell; small facts on worlds. From values as they came in to data of the framework AM; a law's call from its contract. An argument of whatever shape (numbers, bools, slices of such rows, in one another) opened as data. -/
import Derived.Test.YtenbloaopcfdlaaGreatProg
import Derived.WalkKit
import Derived.ProofKit
import Derived.Lib.Hide
import Derived.Deep.QuietTactic
import Derived.BigQuiet
import Derived.Deep.RegionHeld3
import Derived.Handy
import Derived.Deep.Slices
import Derived.WalkSpells
import Derived.Lib.QuietBelow
import Derived.Test.YtenbloaopcfdlaaGreatRam
namespace Go.Proofs.YtenbloaopcfdlaaGreat
open Go.ChangeShapes Go.WideShapes Go.ChangeAt Go.RowKit
set_option linter.unusedVariables false
theorem own : ownKnob Tryz.prog.godebug = none := by kernel_rfl
theorem laidOut : laidOutB Tryz.prog = true := by kernel_rfl
theorem ext_cell {w w' : World} (h : Below w.heap.size w w') {a : Addr} {v : Value} (hc : w.cell? a = some v) : w'.cell? a = some v := by
  rw [h.cell (World.block_lt_of_cell? w a hc)]; exact hc
open Go.Sort in
@[go_sem] theorem cell_grown (w : World) (d : Nat) (os : Array Obj) (b o : Nat) (h : b < w.heap.size) : (grow (redrawn w d) os).cell? ⟨b, o, none⟩ = w.cell? ⟨b, o, none⟩ :=
  (below_regrown w d os).cell (p := ⟨b, o, none⟩) h
theorem keep {W w' : World} (h : Below W.heap.size W w') : (∀ b o, b < W.heap.size → w'.cell? ⟨b, o, none⟩ = W.cell? ⟨b, o, none⟩) ∧ (∀ b o, b < W.heap.size → w'.frozen? ⟨b, o, none⟩ = W.frozen? ⟨b, o, none⟩) ∧ (∀ b, b < W.heap.size → b < w'.heap.size) ∧ W.heap.size ≤ w'.heap.size :=
  ⟨fun b o hb => h.cell (p := ⟨b, o, none⟩) hb, fun b o hb => h.frozen (p := ⟨b, o, none⟩) hb, fun b hb => Nat.lt_of_lt_of_le hb h.size, h.size⟩
def R64 (n : Int) : Prop := -9223372036854775808 ≤ n ∧ n ≤ 9223372036854775807
theorem r64_of_wf {n : Int} (h : (Lit.int .i64 n).wf = true) : R64 n := by
  have := bounds_i64 h
  exact this
theorem trodAll_below {H : Type} {enc : TypeId × Value → H} {P : Program} (hl : laidOutB P = true) {W W' : World} (hb : Below W.heap.size W W') :
    ∀ (ts : List TypeId) (vs : List Value) (ds : List (DataW H)) (ps : List MemPlace), ts.all (fun t => P.readableRec t && decide (t < P.types.size)) = true →
      DataW.TrodAll enc P W 0 (fun _ => true) true ts vs ds ps → (∀ x ∈ ps, x.block < W.heap.size) →
      DataW.TrodAll enc P W' 0 (fun b => decide (b < W.heap.size)) true ts vs ds ps
  | [], [], [], ps, _, h, _ => h
  | t :: ts, v :: vs, d :: ds, ps, hr, h, hp => by
    obtain ⟨p, q, h1, h2, rfl⟩ := h
    simp only [List.all_cons, Bool.and_eq_true, decide_eq_true_eq] at hr
    exact ⟨p, q, Below.trod hl hr.1.1 hr.1.2 h1 hb (fun x hx => hp x (List.mem_append.2 (.inl hx))), trodAll_below hl hb ts vs ds q hr.2 h2 (fun x hx => hp x (List.mem_append.2 (.inr hx))), rfl⟩
  | [], _ :: _, _, _, _, h, _ => h.elim
  | [], [], _ :: _, _, _, h, _ => h.elim
  | _ :: _, [], _, _, _, h, _ => h.elim
  | _ :: _, _ :: _, [], _, _, h, _ => h.elim
theorem law_post {H : Type} {enc : TypeId × Value → H} {P : Program} {f : Func} {s : ChangeSpec} {W W' : World} {args : Array Value} {ds gs : List (DataW H)} {before : List MemPlace} {t : TypeId}
    (hl : laidOutB P = true) (hf : f.params.toList.all (fun t => P.readableRec t && decide (t < P.types.size)) = true)
    (hvars : s.vars = []) (hfn : s.fn H (ds ++ gs) = { results := [.lit (.bool true)], args := ds })
    (hres : f.resultTypes = #[t]) (hb : P.underlying t = some .bool)
    (hW : DataW.Whole enc P f.params.toList s.vars false W args.toList ds gs before)
    (hx : Below W.heap.size W W') : s.post enc P f false true false false W args (.bool true) W' := by
  have hlt := hW.lt
  have hW0 := hW
  obtain ⟨p, q, hA, hV, rfl, hfz, hnd⟩ := hW
  refine ⟨ds, gs, _, [], p, [], hW0, ?_, ?_, ?_, hx.frame _, fun h => by cases h⟩
  · rw [hfn, hres]
    exact trodAll_cons_mk (shut_bool hb true) trodAll_mk0
  · rw [hfn]
    exact trodAll_below hl hx _ _ _ _ hf hA (fun x hx => hlt x (List.mem_append.2 (.inl hx)))
  · rw [hfn, hvars]
    rfl
section
variable {H : Type} {enc : TypeId × Value → H} {P : Program} {w : World} {base : Nat} {spare : Nat → Bool} {held : Bool}
def flatT (P : Program) : Nat → TypeId → Option (List TypeId)
  | 0, _ => none
  | d + 1, t =>
    match P.underlying t with
    | some (.struct fs) => (fs.toList.mapM fun f => flatT P d f.type).map (·.flatten)
    | some (.array _ _) => none
    | some _ => some [t]
    | none => none
theorem flat_fields (d n : Nat) (cs : List Value)
    (ih : ∀ (t : TypeId) (ts : List TypeId) (fuel : Nat) (cs : List Value) (x : DataW H × List MemPlace), t < P.types.size → flatT P d t = some ts → DataW.trod enc P w base spare held fuel t cs = some x →
      cs.length = ts.length ∧ ∀ (i : Nat) (u : TypeId), ts[i]? = some u → ∃ c f' y, cs[i]? = some c ∧ DataW.trod enc P w base spare held f' u [c] = some y) :
    ∀ (fs : List Field) (off : Nat) (tss : List (List TypeId)), (∀ f ∈ fs, f.type < P.types.size) → fs.mapM (fun f => flatT P d f.type) = some tss →
      (∀ (j : Nat) (f : Field), fs[j]? = some f → f.offset = off + ((fs.take j).map fun f => P.cellsOf f.type).sum) →
      off + (fs.map fun f => P.cellsOf f.type).sum ≤ cs.length →
      (∀ f ∈ fs, ∃ x, DataW.trod enc P w base spare held n f.type ((cs.drop f.offset).take (P.cellsOf f.type)) = some x) →
      tss.flatten.length = (fs.map fun f => P.cellsOf f.type).sum ∧
        ∀ (i : Nat) (u : TypeId), tss.flatten[i]? = some u → ∃ c f' y, cs[off + i]? = some c ∧ DataW.trod enc P w base spare held f' u [c] = some y
  | [], off, tss, _, hm, _, _, _ => by
    simp only [List.mapM_nil, Option.pure_def, Option.some.injEq] at hm
    subst hm
    exact ⟨rfl, fun i u h => by simp at h⟩
  | f :: fs, off, tss, hz, hm, ho, hlen, hr => by
    simp only [List.mapM_cons, Option.bind_eq_bind, Option.bind_eq_some_iff, Option.pure_def, Option.some.injEq] at hm
    obtain ⟨ts, h1, tss', h2, rfl⟩ := hm
    have ho0 : f.offset = off := by simpa using ho 0 f rfl
    simp only [List.map_cons, List.sum_cons] at hlen
    obtain ⟨x, hx⟩ := hr f (List.mem_cons_self ..)
    obtain ⟨hl0, hc0⟩ := ih f.type ts n _ x (hz f (List.mem_cons_self ..)) h1 hx
    have hlt : ((cs.drop f.offset).take (P.cellsOf f.type)).length = P.cellsOf f.type := by
      rw [List.length_take, List.length_drop, ho0]; omega
    rw [hlt] at hl0
    obtain ⟨hlr, hcr⟩ := flat_fields d n cs ih fs (off + P.cellsOf f.type) tss' (fun g hg => hz g (List.mem_cons_of_mem _ hg)) h2 (fun j g hg => by
      have := ho (j + 1) g hg
      simp only [List.take_succ_cons, List.map_cons, List.sum_cons] at this
      omega) (by omega) (fun g hg => hr g (List.mem_cons_of_mem _ hg))
    refine ⟨by simp only [List.flatten_cons, List.length_append, List.map_cons, List.sum_cons]; omega, fun i u hu => ?_⟩
    simp only [List.flatten_cons] at hu
    by_cases hi : i < ts.length
    · rw [List.getElem?_append_left hi] at hu
      obtain ⟨c, f', y, hc, hy⟩ := hc0 i u hu
      refine ⟨c, f', y, ?_, hy⟩
      rw [List.getElem?_take, if_pos (by omega), List.getElem?_drop, ho0] at hc
      exact hc
    · rw [List.getElem?_append_right (by omega)] at hu
      obtain ⟨c, f', y, hc, hy⟩ := hcr _ u hu
      refine ⟨c, f', y, ?_, hy⟩
      rw [← hc]
      congr 1
      omega
theorem rowFine_of (hl : laidOutB P = true) {t : TypeId} {fs : Array Field} (ht : P.underlying t = some (.struct fs)) (hlt : t < P.types.size) :
    P.cellsOf t = (fs.toList.map fun f => P.cellsOf f.type).sum ∧
      ∀ (j : Nat) (f : Field), fs.toList[j]? = some f → f.offset = ((fs.toList.take j).map fun f => P.cellsOf f.type).sum ∧ f.type < P.types.size := by
  unfold laidOutB at hl
  simp only [Bool.and_eq_true, List.all_eq_true, List.mem_range] at hl
  have h := hl.1.1 t hlt
  unfold rowFine at h
  rw [ht] at h
  have hv : isVar P t = true := by simp [isVar, hlt, ht, kindOk]
  simp only [hv, Bool.not_true, Bool.false_or, Bool.and_eq_true, List.all_eq_true, beq_iff_eq, List.mem_range] at h
  refine ⟨h.1.2, fun j f hj => ?_⟩
  have hjl : j < fs.toList.length := (List.getElem?_eq_some_iff.1 hj).1
  have h2 := h.2 j hjl
  rw [hj] at h2
  have h3 := h.1.1 f (List.mem_of_getElem? hj)
  unfold isVar at h3
  simp only [Bool.and_eq_true, decide_eq_true_eq] at h3
  exact ⟨by simpa using h2, h3.1⟩
theorem flat_of_trod (hl : laidOutB P = true) : ∀ (d : Nat) (t : TypeId) (ts : List TypeId) (fuel : Nat) (cs : List Value) (x : DataW H × List MemPlace), t < P.types.size → flatT P d t = some ts →
    DataW.trod enc P w base spare held fuel t cs = some x →
    cs.length = ts.length ∧ ∀ (i : Nat) (u : TypeId), ts[i]? = some u → ∃ c f' y, cs[i]? = some c ∧ DataW.trod enc P w base spare held f' u [c] = some y := by
  intro d
  induction d with
  | zero => intro t ts fuel cs x _ h; simp [flatT] at h
  | succ d ih =>
    intro t ts fuel cs x hlt h hx
    unfold flatT at h
    split at h
    · rename_i fs ht
      simp only [Option.map_eq_some_iff] at h
      obtain ⟨tss, hm, rfl⟩ := h
      obtain ⟨xs, n, rfl, rfl, hlen, hxl, hf⟩ := DataW.trod_struct ht hx
      obtain ⟨hC, hO⟩ := rowFine_of hl ht hlt
      have key := flat_fields (H := H) (enc := enc) (P := P) (w := w) (base := base) (spare := spare) (held := held) d n cs ih fs.toList 0 tss (fun f hfm => by
          obtain ⟨j, hj⟩ := List.getElem?_of_mem hfm
          exact (hO j f hj).2) hm (fun j f hj => by rw [(hO j f hj).1]; omega) (by omega) (fun f hfm => by
          obtain ⟨j, hj⟩ := List.getElem?_of_mem hfm
          have hj' : fs[j]? = some f := by simpa using hj
          have := hf j f hj'
          have hjl : j < xs.length := by rw [hxl]; exact (Array.getElem?_eq_some_iff.1 hj').1
          exact ⟨xs[j], by rw [this, List.getElem?_eq_getElem hjl]⟩)
      refine ⟨by rw [hlen, hC]; exact key.1.symm, fun i u hu => ?_⟩
      have := key.2 i u hu
      simpa using this
    · simp at h
    · rename_i ty hns hna ht
      simp only [Option.some.injEq] at h
      subst h
      have hcs : ∃ c, cs = [c] := by
        cases fuel with
        | zero => simp [DataW.trod] at hx
        | succ n =>
          unfold DataW.trod at hx
          split at hx <;> first | exact ⟨_, rfl⟩ | (exfalso; rename_i h0; rw [ht] at h0; exact hns _ (Option.some.inj h0)) | (exfalso; rename_i h0; rw [ht] at h0; exact hna _ _ (Option.some.inj h0)) | (simp_all; done)
      obtain ⟨c, rfl⟩ := hcs
      refine ⟨rfl, fun i u hu => ?_⟩
      match i, hu with
      | 0, hu =>
        simp at hu
        subst hu
        exact ⟨c, fuel, x, rfl, hx⟩
      | i + 1, hu => simp at hu
    · simp at h
end
structure GVal where
  kind : Int
  n : Int
  deriving DecidableEq
def GVal.c (x : GVal) : Array Value := #[.int .i64 x.kind, .int .i64 x.n]
def GVal.of (g : Nat → Int) (h : Nat → Bool) : GVal := ⟨(g 0), (g 1)⟩
structure GSides where
  left : GVal
  top : GVal
  right : GVal
  bottom : GVal
  start : GVal
  fin : GVal
  deriving DecidableEq
def GSides.c (x : GSides) : Array Value := #[.int .i64 x.left.kind, .int .i64 x.left.n, .int .i64 x.top.kind, .int .i64 x.top.n, .int .i64 x.right.kind, .int .i64 x.right.n, .int .i64 x.bottom.kind, .int .i64 x.bottom.n, .int .i64 x.start.kind, .int .i64 x.start.n, .int .i64 x.fin.kind, .int .i64 x.fin.n]
def GSides.of (g : Nat → Int) (h : Nat → Bool) : GSides := ⟨⟨(g 0), (g 1)⟩, ⟨(g 2), (g 3)⟩, ⟨(g 4), (g 5)⟩, ⟨(g 6), (g 7)⟩, ⟨(g 8), (g 9)⟩, ⟨(g 10), (g 11)⟩⟩
structure GEdges where
  left : Int
  top : Int
  right : Int
  bottom : Int
  deriving DecidableEq
def GEdges.c (x : GEdges) : Array Value := #[.int .i64 x.left, .int .i64 x.top, .int .i64 x.right, .int .i64 x.bottom]
def GEdges.of (g : Nat → Int) (h : Nat → Bool) : GEdges := ⟨(g 0), (g 1), (g 2), (g 3)⟩
structure GStyle where
  dir : Int
  wrap : Int
  justify : Int
  items : Int
  self : Int
  content : Int
  apart : Bool
  hidden : Bool
  order : Int
  grow : Int
  shrink : Int
  basis : GVal
  width : GVal
  height : GVal
  minWidth : GVal
  minHeight : GVal
  maxWidth : GVal
  maxHeight : GVal
  ratio : Int
  margin : GSides
  inset : GSides
  pad : GEdges
  border : GEdges
  rowGap : Int
  colGap : Int
  deriving DecidableEq
def GStyle.c (x : GStyle) : Array Value := #[.int .i64 x.dir, .int .i64 x.wrap, .int .i64 x.justify, .int .i64 x.items, .int .i64 x.self, .int .i64 x.content, .bool x.apart, .bool x.hidden, .int .i64 x.order, .int .i64 x.grow, .int .i64 x.shrink, .int .i64 x.basis.kind, .int .i64 x.basis.n, .int .i64 x.width.kind, .int .i64 x.width.n, .int .i64 x.height.kind, .int .i64 x.height.n, .int .i64 x.minWidth.kind, .int .i64 x.minWidth.n, .int .i64 x.minHeight.kind, .int .i64 x.minHeight.n, .int .i64 x.maxWidth.kind, .int .i64 x.maxWidth.n, .int .i64 x.maxHeight.kind, .int .i64 x.maxHeight.n, .int .i64 x.ratio, .int .i64 x.margin.left.kind, .int .i64 x.margin.left.n, .int .i64 x.margin.top.kind, .int .i64 x.margin.top.n, .int .i64 x.margin.right.kind, .int .i64 x.margin.right.n, .int .i64 x.margin.bottom.kind, .int .i64 x.margin.bottom.n, .int .i64 x.margin.start.kind, .int .i64 x.margin.start.n, .int .i64 x.margin.fin.kind, .int .i64 x.margin.fin.n, .int .i64 x.inset.left.kind, .int .i64 x.inset.left.n, .int .i64 x.inset.top.kind, .int .i64 x.inset.top.n, .int .i64 x.inset.right.kind, .int .i64 x.inset.right.n, .int .i64 x.inset.bottom.kind, .int .i64 x.inset.bottom.n, .int .i64 x.inset.start.kind, .int .i64 x.inset.start.n, .int .i64 x.inset.fin.kind, .int .i64 x.inset.fin.n, .int .i64 x.pad.left, .int .i64 x.pad.top, .int .i64 x.pad.right, .int .i64 x.pad.bottom, .int .i64 x.border.left, .int .i64 x.border.top, .int .i64 x.border.right, .int .i64 x.border.bottom, .int .i64 x.rowGap, .int .i64 x.colGap]
def GStyle.of (g : Nat → Int) (h : Nat → Bool) : GStyle := ⟨(g 0), (g 1), (g 2), (g 3), (g 4), (g 5), (h 6), (h 7), (g 8), (g 9), (g 10), ⟨(g 11), (g 12)⟩, ⟨(g 13), (g 14)⟩, ⟨(g 15), (g 16)⟩, ⟨(g 17), (g 18)⟩, ⟨(g 19), (g 20)⟩, ⟨(g 21), (g 22)⟩, ⟨(g 23), (g 24)⟩, (g 25), ⟨⟨(g 26), (g 27)⟩, ⟨(g 28), (g 29)⟩, ⟨(g 30), (g 31)⟩, ⟨(g 32), (g 33)⟩, ⟨(g 34), (g 35)⟩, ⟨(g 36), (g 37)⟩⟩, ⟨⟨(g 38), (g 39)⟩, ⟨(g 40), (g 41)⟩, ⟨(g 42), (g 43)⟩, ⟨(g 44), (g 45)⟩, ⟨(g 46), (g 47)⟩, ⟨(g 48), (g 49)⟩⟩, ⟨(g 50), (g 51), (g 52), (g 53)⟩, ⟨(g 54), (g 55), (g 56), (g 57)⟩, (g 58), (g 59)⟩
structure GRule where
  room : Int
  wide : Int
  high : Int
  deriving DecidableEq
def GRule.c (x : GRule) : Array Value := #[.int .i64 x.room, .int .i64 x.wide, .int .i64 x.high]
def GRule.of (g : Nat → Int) (h : Nat → Bool) : GRule := ⟨(g 0), (g 1), (g 2)⟩
structure GSpace where
  mode : Int
  n : Int
  deriving DecidableEq
def GSpace.c (x : GSpace) : Array Value := #[.int .i64 x.mode, .int .i64 x.n]
def GSpace.of (g : Nat → Int) (h : Nat → Bool) : GSpace := ⟨(g 0), (g 1)⟩
structure GItem where
  base : Int
  least : Int
  most : Int
  grow : Int
  shrink : Int
  before : Int
  behind : Int
  autoBefore : Bool
  autoBehind : Bool
  deriving DecidableEq
def GItem.c (x : GItem) : Array Value := #[.int .i64 x.base, .int .i64 x.least, .int .i64 x.most, .int .i64 x.grow, .int .i64 x.shrink, .int .i64 x.before, .int .i64 x.behind, .bool x.autoBefore, .bool x.autoBehind]
def GItem.of (g : Nat → Int) (h : Nat → Bool) : GItem := ⟨(g 0), (g 1), (g 2), (g 3), (g 4), (g 5), (g 6), (h 7), (h 8)⟩
structure GSide where
  size : Int
  before : Int
  behind : Int
  autoBefore : Bool
  autoBehind : Bool
  align : Int
  base : Int
  deriving DecidableEq
def GSide.c (x : GSide) : Array Value := #[.int .i64 x.size, .int .i64 x.before, .int .i64 x.behind, .bool x.autoBefore, .bool x.autoBehind, .int .i64 x.align, .int .i64 x.base]
def GSide.of (g : Nat → Int) (h : Nat → Bool) : GSide := ⟨(g 0), (g 1), (g 2), (h 3), (h 4), (g 5), (g 6)⟩
structure GFrame where
  node : Int
  x : Int
  y : Int
  wide : Int
  high : Int
  deriving DecidableEq
def GFrame.c (x : GFrame) : Array Value := #[.int .i64 x.node, .int .i64 x.x, .int .i64 x.y, .int .i64 x.wide, .int .i64 x.high]
def GFrame.of (g : Nat → Int) (h : Nat → Bool) : GFrame := ⟨(g 0), (g 1), (g 2), (g 3), (g 4)⟩
structure GAsked where
  node : Int
  wide : GSpace
  high : GSpace
  rtl : Bool
  deriving DecidableEq
def GAsked.c (x : GAsked) : Array Value := #[.int .i64 x.node, .int .i64 x.wide.mode, .int .i64 x.wide.n, .int .i64 x.high.mode, .int .i64 x.high.n, .bool x.rtl]
def GAsked.of (g : Nat → Int) (h : Nat → Bool) : GAsked := ⟨(g 0), ⟨(g 1), (g 2)⟩, ⟨(g 3), (g 4)⟩, (h 5)⟩
def cellsBy (ks : List Bool) (g : Nat → Int) (h : Nat → Bool) : List Value := ks.zipIdx.map fun x => if x.1 then .bool (h x.2) else .int .i64 (g x.2)
def GVal.ks : List Bool := [false, false]
theorem GVal.by (g : Nat → Int) (h : Nat → Bool) : cellsBy GVal.ks g h = (GVal.of g h).c.toList := rfl
def GVal.ok (x : GVal) : Prop := R64 x.kind ∧ R64 x.n
def GSides.ks : List Bool := [false, false, false, false, false, false, false, false, false, false, false, false]
theorem GSides.by (g : Nat → Int) (h : Nat → Bool) : cellsBy GSides.ks g h = (GSides.of g h).c.toList := rfl
def GSides.ok (x : GSides) : Prop := R64 x.left.kind ∧ R64 x.left.n ∧ R64 x.top.kind ∧ R64 x.top.n ∧ R64 x.right.kind ∧ R64 x.right.n ∧ R64 x.bottom.kind ∧ R64 x.bottom.n ∧ R64 x.start.kind ∧ R64 x.start.n ∧ R64 x.fin.kind ∧ R64 x.fin.n
def GEdges.ks : List Bool := [false, false, false, false]
theorem GEdges.by (g : Nat → Int) (h : Nat → Bool) : cellsBy GEdges.ks g h = (GEdges.of g h).c.toList := rfl
def GEdges.ok (x : GEdges) : Prop := R64 x.left ∧ R64 x.top ∧ R64 x.right ∧ R64 x.bottom
def GStyle.ks : List Bool := [false, false, false, false, false, false, true, true, false, false, false, false, false, false, false, false, false, false, false, false, false, false, false, false, false, false, false, false, false, false, false, false, false, false, false, false, false, false, false, false, false, false, false, false, false, false, false, false, false, false, false, false, false, false, false, false, false, false, false, false]
theorem GStyle.by (g : Nat → Int) (h : Nat → Bool) : cellsBy GStyle.ks g h = (GStyle.of g h).c.toList := rfl
def GStyle.ok (x : GStyle) : Prop := R64 x.dir ∧ R64 x.wrap ∧ R64 x.justify ∧ R64 x.items ∧ R64 x.self ∧ R64 x.content ∧ R64 x.order ∧ R64 x.grow ∧ R64 x.shrink ∧ R64 x.basis.kind ∧ R64 x.basis.n ∧ R64 x.width.kind ∧ R64 x.width.n ∧ R64 x.height.kind ∧ R64 x.height.n ∧ R64 x.minWidth.kind ∧ R64 x.minWidth.n ∧ R64 x.minHeight.kind ∧ R64 x.minHeight.n ∧ R64 x.maxWidth.kind ∧ R64 x.maxWidth.n ∧ R64 x.maxHeight.kind ∧ R64 x.maxHeight.n ∧ R64 x.ratio ∧ R64 x.margin.left.kind ∧ R64 x.margin.left.n ∧ R64 x.margin.top.kind ∧ R64 x.margin.top.n ∧ R64 x.margin.right.kind ∧ R64 x.margin.right.n ∧ R64 x.margin.bottom.kind ∧ R64 x.margin.bottom.n ∧ R64 x.margin.start.kind ∧ R64 x.margin.start.n ∧ R64 x.margin.fin.kind ∧ R64 x.margin.fin.n ∧ R64 x.inset.left.kind ∧ R64 x.inset.left.n ∧ R64 x.inset.top.kind ∧ R64 x.inset.top.n ∧ R64 x.inset.right.kind ∧ R64 x.inset.right.n ∧ R64 x.inset.bottom.kind ∧ R64 x.inset.bottom.n ∧ R64 x.inset.start.kind ∧ R64 x.inset.start.n ∧ R64 x.inset.fin.kind ∧ R64 x.inset.fin.n ∧ R64 x.pad.left ∧ R64 x.pad.top ∧ R64 x.pad.right ∧ R64 x.pad.bottom ∧ R64 x.border.left ∧ R64 x.border.top ∧ R64 x.border.right ∧ R64 x.border.bottom ∧ R64 x.rowGap ∧ R64 x.colGap
def GRule.ks : List Bool := [false, false, false]
theorem GRule.by (g : Nat → Int) (h : Nat → Bool) : cellsBy GRule.ks g h = (GRule.of g h).c.toList := rfl
def GRule.ok (x : GRule) : Prop := R64 x.room ∧ R64 x.wide ∧ R64 x.high
def GSpace.ks : List Bool := [false, false]
theorem GSpace.by (g : Nat → Int) (h : Nat → Bool) : cellsBy GSpace.ks g h = (GSpace.of g h).c.toList := rfl
def GSpace.ok (x : GSpace) : Prop := R64 x.mode ∧ R64 x.n
def GItem.ks : List Bool := [false, false, false, false, false, false, false, true, true]
theorem GItem.by (g : Nat → Int) (h : Nat → Bool) : cellsBy GItem.ks g h = (GItem.of g h).c.toList := rfl
def GItem.ok (x : GItem) : Prop := R64 x.base ∧ R64 x.least ∧ R64 x.most ∧ R64 x.grow ∧ R64 x.shrink ∧ R64 x.before ∧ R64 x.behind
def GSide.ks : List Bool := [false, false, false, true, true, false, false]
theorem GSide.by (g : Nat → Int) (h : Nat → Bool) : cellsBy GSide.ks g h = (GSide.of g h).c.toList := rfl
def GSide.ok (x : GSide) : Prop := R64 x.size ∧ R64 x.before ∧ R64 x.behind ∧ R64 x.align ∧ R64 x.base
def GFrame.ks : List Bool := [false, false, false, false, false]
theorem GFrame.by (g : Nat → Int) (h : Nat → Bool) : cellsBy GFrame.ks g h = (GFrame.of g h).c.toList := rfl
def GFrame.ok (x : GFrame) : Prop := R64 x.node ∧ R64 x.x ∧ R64 x.y ∧ R64 x.wide ∧ R64 x.high
def GAsked.ks : List Bool := [false, false, false, false, false, true]
theorem GAsked.by (g : Nat → Int) (h : Nat → Bool) : cellsBy GAsked.ks g h = (GAsked.of g h).c.toList := rfl
def GAsked.ok (x : GAsked) : Prop := R64 x.node ∧ R64 x.wide.mode ∧ R64 x.wide.n ∧ R64 x.high.mode ∧ R64 x.high.n
def RepS {α : Type} (k : Nat) (c : α → Array Value) (w : World) (v : Value) (xs : List α) : Prop :=
  ∃ p cap, v = .slice p xs.length cap ∧ xs.length ≤ cap ∧ cap ≤ maxLen ∧
    (0 < xs.length → ∃ b o, p = some ⟨b, o, none⟩ ∧ ∀ i (h : i < xs.length) j, j < k → ∃ u, (c xs[i])[j]? = some u ∧ w.cell? ⟨b, o + i * k + j, none⟩ = some u)
theorem RepS.ext {α : Type} {k : Nat} {c : α → Array Value} {w w' : World} {v : Value} {xs : List α} (h : RepS k c w v xs) (hx : Below w.heap.size w w') : RepS k c w' v xs := by
  obtain ⟨p, cap, hv, h1, h2, h3⟩ := h
  refine ⟨p, cap, hv, h1, h2, fun h0 => ?_⟩
  obtain ⟨b, o, hp, hc⟩ := h3 h0
  exact ⟨b, o, hp, fun i hi j hj => let ⟨u, hu, hcu⟩ := hc i hi j hj; ⟨u, hu, ext_cell hx hcu⟩⟩
def intC (n : Int) : Array Value := #[.int .i64 n]
abbrev RepI (w : World) (v : Value) (xs : List Int) : Prop := RepS 1 intC w v xs
theorem RepI.at {w : World} {v : Value} {xs : List Int} (h : RepI w v xs) : ∃ p cap, v = .slice p xs.length cap ∧ xs.length ≤ cap ∧ cap ≤ maxLen ∧
    (0 < xs.length → ∃ b o, p = some ⟨b, o, none⟩ ∧ ∀ i (h : i < xs.length), w.cell? ⟨b, o + i, none⟩ = some (.int .i64 xs[i])) := by
  obtain ⟨p, cap, hv, h1, h2, h3⟩ := h
  refine ⟨p, cap, hv, h1, h2, fun h0 => ?_⟩
  obtain ⟨b, o, hp, hc⟩ := h3 h0
  refine ⟨b, o, hp, fun i hi => ?_⟩
  obtain ⟨u, hu, hcu⟩ := hc i hi 0 (by omega)
  simp [intC] at hu hcu
  subst hu
  exact hcu
theorem row_ext {w w' : World} {b : Nat} {o : Obj} (hx : Below w.heap.size w w') (h : w.heap[b]? = some o) : w'.heap[b]? = some o := by
  have hb : b < w.heap.size := (Array.getElem?_eq_some_iff.1 h).1
  rw [hx.block b hb]; exact h
def OwnS {α : Type} (T k : Nat) (c : α → Array Value) (B : Nat) (w : World) (v : Value) (xs : List α) : Prop :=
  (v = .slice none 0 0 ∧ xs = []) ∨ ∃ b cap cur, v = .slice (some ⟨b, 0, none⟩) xs.length cap ∧ B ≤ b ∧ w.heap[b]? = some (.cells cur T (0, 0)) ∧ xs.length ≤ cap ∧ cap ≤ maxLen ∧ cur.size = cap * k ∧
    ∀ i (h : i < xs.length) j, j < k → ∃ u, (c xs[i])[j]? = some u ∧ cur[i * k + j]? = some u
theorem OwnS.ext {α : Type} {T k : Nat} {c : α → Array Value} {B : Nat} {w w' : World} {v : Value} {xs : List α} (h : OwnS T k c B w v xs) (hx : Below w.heap.size w w') : OwnS T k c B w' v xs := by
  rcases h with h | ⟨b, cap, cur, hv, hB, hr, h1⟩
  · exact .inl h
  · exact .inr ⟨b, cap, cur, hv, hB, row_ext hx hr, h1⟩
theorem OwnS.mono {α : Type} {T k : Nat} {c : α → Array Value} {B B' : Nat} {w : World} {v : Value} {xs : List α} (h : OwnS T k c B w v xs) (hB : B' ≤ B) : OwnS T k c B' w v xs := by
  rcases h with h | ⟨b, cap, cur, hv, h1, h2⟩
  · exact .inl h
  · exact .inr ⟨b, cap, cur, hv, Nat.le_trans hB h1, h2⟩
def NewS {α : Type} (T k : Nat) (c : α → Array Value) (w : World) (xs : List α) (e : Ending) (w' : World) : Prop :=
  ∃ v, e = .returned v ∧ OwnS T k c w.heap.size w' v xs ∧ Below w.heap.size w w'
theorem NewS.mk {α : Type} {T k : Nat} {c : α → Array Value} {w w' : World} {xs : List α} {v : Value} (h : OwnS T k c w.heap.size w' v xs) (hx : Below w.heap.size w w') : NewS T k c w xs (.returned v) w' := ⟨v, rfl, h, hx⟩
def Filled {α : Type} (k : Nat) (c : α → Array Value) (xs : List α) (m : Nat) (cur : Array Value) : Prop :=
  cur.size = xs.length * k ∧ ∀ i (h : i < xs.length), i < m → ∀ j, j < k → ∃ u, (c xs[i])[j]? = some u ∧ cur[i * k + j]? = some u
theorem Filled.zero {α : Type} {k : Nat} {c : α → Array Value} {xs : List α} {cur : Array Value} (h : cur.size = xs.length * k) : Filled k c xs 0 cur := ⟨h, fun _ _ hi => absurd hi (Nat.not_lt_zero _)⟩
theorem Filled.own {α : Type} {T k : Nat} {c : α → Array Value} {xs : List α} {cur : Array Value} {B b : Nat} {w : World} (h : Filled k c xs xs.length cur) (hr : w.heap[b]? = some (.cells cur T (0, 0))) (hB : B ≤ b) (hm : xs.length ≤ maxLen) :
    OwnS T k c B w (.slice (some ⟨b, 0, none⟩) xs.length xs.length) xs :=
  .inr ⟨b, _, cur, rfl, hB, hr, Nat.le_refl _, hm, h.1, fun i hi j hj => h.2 i hi hi j hj⟩
theorem Filled.one {xs : List Int} {m : Nat} {cur : Array Value} (h : Filled 1 intC xs m cur) (hm : m < xs.length) : Filled 1 intC xs (m + 1) (cur.setIfInBounds m (.int .i64 xs[m])) := by
  obtain ⟨h1, h2⟩ := h
  refine ⟨by simp [h1], fun i hi him j hj => ?_⟩
  obtain rfl : j = 0 := by omega
  refine ⟨.int .i64 xs[i], by simp [intC], ?_⟩
  by_cases he : i = m
  · subst he
    simp [h1, hm]
  · obtain ⟨u, hu, hc⟩ := h2 i hi (by omega) 0 (by omega)
    simp [intC] at hu
    subst hu
    rw [Array.getElem?_setIfInBounds, if_neg (by omega)]
    exact hc
theorem addr_two (a : Addr) (h : a.spot = none) (x y : Nat) : (a.add x).add y = ⟨a.block, a.off + x + y, none⟩ := by
  obtain ⟨b, o, s⟩ := a
  simp only at h
  subst h
  unfold Addr.add
  split <;> split <;> simp_all
theorem spot_of_cell {w : World} {a : Addr} {u : Value} (h : w.cell? a = some u) : a.spot = none := by
  unfold World.cell? at h
  split at h
  · split at h
    · cases h
    · rename_i hs; simpa using hs
  · cases h
end Go.Proofs.YtenbloaopcfdlaaGreat
namespace Go.Proofs.YtenbloaopcfdlaaGreat
open Go.ChangeShapes Go.WideShapes Go.ChangeAt Go.RowKit Am
set_option linter.unusedVariables false
set_option linter.unusedSimpArgs false
def lc (a : Array Value) : List AC := a.toList.map .imm
def vw {α : Type} (c : α → Array Value) (xs : List α) : List (List AC) := xs.map fun x => lc (c x)
theorem vw_length {α : Type} (c : α → Array Value) (xs : List α) : (vw c xs).length = xs.length := by simp [vw]
theorem vw_at {α : Type} {c : α → Array Value} {xs : List α} {i : Nat} {x : α} (h : xs[i]? = some x) : (vw c xs)[i]? = some (lc (c x)) := by simp [vw, h]
theorem at_z {α : Type} {xs : List α} {z : Int} (h0 : 0 ≤ z) (h1 : z < xs.length) : ∃ x, xs[z.toNat]? = some x := ⟨xs[z.toNat]'(by omega), List.getElem?_eq_getElem _⟩
theorem rt_int {F : Nat → Prop} {w : World} {m : AM} {h : AH} (v : Value) : RT F w m h (.c (.imm v)) v := rfl
end Go.Proofs.YtenbloaopcfdlaaGreat
namespace Go.Proofs.YtenbloaopcfdlaaGreat
open Go.ChangeShapes Go.WideShapes Go.ChangeAt Go.RowKit Am
set_option linter.unusedVariables false
set_option linter.unusedSimpArgs false
inductive Sh where
  | i
  | b
  | s (ks : List Sh)
mutual
def Dt : Sh → AC → Prop
  | .i, c => ∃ n, R64 n ∧ c = .imm (.int .i64 n)
  | .b, c => ∃ x, c = .imm (.bool x)
  | .s ks, c => ∃ xs : List (List AC), c = .view xs ∧ xs.length ≤ 9223372036854775807 ∧ ∀ x ∈ xs, DtL ks x
def DtL : List Sh → List AC → Prop
  | [], [] => True
  | k :: ks, c :: cs => Dt k c ∧ DtL ks cs
  | _, _ => False
end
theorem DtL.len : ∀ {ks : List Sh} {xs : List AC}, DtL ks xs → xs.length = ks.length
  | [], [], _ => rfl
  | [], _ :: _, h => by unfold DtL at h; exact h.elim
  | _ :: _, [], h => by unfold DtL at h; exact h.elim
  | _ :: ks, _ :: xs, h => by unfold DtL at h; simp [DtL.len h.2]
theorem DtL.mk : ∀ {ks : List Sh} {xs : List AC}, xs.length = ks.length → (∀ (i : Nat) (k : Sh) (c : AC), ks[i]? = some k → xs[i]? = some c → Dt k c) → DtL ks xs
  | [], [], _, _ => by unfold DtL; trivial
  | [], _ :: _, h, _ => by simp at h
  | _ :: _, [], h, _ => by simp at h
  | _ :: ks, _ :: xs, h, hp => by
    unfold DtL
    exact ⟨hp 0 _ _ rfl rfl, DtL.mk (by simpa using h) fun i k c h1 h2 => hp (i + 1) k c (by simpa using h1) (by simpa using h2)⟩
def shC (P : Program) (f : TypeId → Option (List Sh)) (u : TypeId) : Option Sh :=
  match P.underlying u with
  | some (.int .i64) => some .i
  | some .bool => some .b
  | some (.slice e) => if e < P.types.size then (match f e with | some (k :: ks) => if P.cellsOf e = (k :: ks).length then some (.s (k :: ks)) else none | _ => none) else none
  | _ => none
def shL (P : Program) : Nat → TypeId → Option (List Sh)
  | 0, _ => none
  | n + 1, t => match flatT P 5 t with | none => none | some ts => ts.mapM (shC P (shL P n))
theorem mapM_at {α β : Type} {f : α → Option β} : ∀ {l : List α} {r : List β}, l.mapM f = some r → r.length = l.length ∧ ∀ (i : Nat) (b : β), r[i]? = some b → ∃ a, l[i]? = some a ∧ f a = some b
  | [], r, h => by simp only [List.mapM_nil, Option.pure_def, Option.some.injEq] at h; subst h; exact ⟨rfl, fun i b hb => by simp at hb⟩
  | a :: l, r, h => by
    simp only [List.mapM_cons, Option.bind_eq_bind, Option.bind_eq_some_iff, Option.pure_def, Option.some.injEq] at h
    obtain ⟨b, h1, r', h2, rfl⟩ := h
    obtain ⟨h3, h4⟩ := mapM_at h2
    refine ⟨by simp [h3], fun i b' hb => ?_⟩
    cases i with
    | zero => simp at hb; subst hb; exact ⟨a, rfl, h1⟩
    | succ i => exact h4 i b' (by simpa using hb)
section
variable {H : Type} {enc : TypeId × Value → H} {P : Program} {w : World} {held : Bool} {base : Nat} {spare : Nat → Bool}
theorem open_cells (hl : laidOutB P = true) : ∀ (n : Nat) (t : TypeId) (ks : List Sh) (fuel : Nat) (cs : List Value) (x : DataW H × List MemPlace), t < P.types.size → shL P n t = some ks → DataW.trod enc P w base spare held fuel t cs = some x →
    ∃ xs : List AC, DtL ks xs ∧ xs.length = cs.length ∧ ∀ (j : Nat) (c : AC), xs[j]? = some c → ∃ u, cs[j]? = some u ∧ one u = true ∧ RP (fun b => b < w.heap.size) w c u := by
  intro n
  induction n with
  | zero => intro t ks fuel cs x _ h; simp [shL] at h
  | succ n ih =>
    intro t ks fuel cs x hlt hsh htr
    unfold shL at hsh
    split at hsh
    · cases hsh
    · rename_i ts hts
      obtain ⟨hlen, hat⟩ := mapM_at hsh
      obtain ⟨hcl, hca⟩ := flat_of_trod hl 5 t ts fuel cs x hlt hts htr
      have key : ∀ i, i < ks.length → ∃ c : AC, (∀ k, ks[i]? = some k → Dt k c) ∧ ∃ u, cs[i]? = some u ∧ one u = true ∧ RP (fun b => b < w.heap.size) w c u := by
        intro i hi
        have hki := List.getElem?_eq_getElem hi
        obtain ⟨u, hu, hs⟩ := hat i _ hki
        obtain ⟨v, f', y, hv, hy⟩ := hca i u hu
        suffices ∃ c : AC, Dt ks[i] c ∧ one v = true ∧ RP (fun b => b < w.heap.size) w c v by
          obtain ⟨c, h1, h2, h3⟩ := this
          exact ⟨c, fun k hk => by rw [hki] at hk; cases hk; exact h1, v, hv, h2, h3⟩
        generalize ks[i] = k at hs
        unfold shC at hs
        split at hs
        · rename_i hun
          cases hs
          obtain ⟨m, h1, _, hw⟩ := DataW.trod_int hun hy
          simp only [List.cons.injEq, and_true] at h1
          subst h1
          exact ⟨.imm (.int .i64 m), by unfold Dt; exact ⟨m, r64_of_wf hw, rfl⟩, rfl, by unfold RP; rfl⟩
        · rename_i hun
          cases hs
          obtain ⟨m, h1, _⟩ := DataW.trod_bool hun hy
          simp only [List.cons.injEq, and_true] at h1
          subst h1
          exact ⟨.imm (.bool m), by unfold Dt; exact ⟨m, rfl⟩, rfl, by unfold RP; rfl⟩
        · rename_i e hun
          split at hs
          · rename_i he
            split at hs
            · rename_i k0 ks0 hf0
              split at hs
              · rename_i hck
                cases hs
                rcases Go.Deep.open_slice hun hy with ⟨hcs, _⟩ | ⟨a, len, cap, m, n', D, Pl, hcs, hba, hlc, hm, hmm, hx, hel⟩
                · simp only [List.cons.injEq, and_true] at hcs
                  subst hcs
                  refine ⟨.view [], by unfold Dt; exact ⟨[], rfl, by simp, by simp⟩, rfl, ?_⟩
                  unfold RP
                  exact ⟨none, 0, rfl, Nat.le_refl _, by decide, .inl rfl⟩
                · simp only [List.cons.injEq, and_true] at hcs
                  subst hcs
                  have hk0 : 0 < P.cellsOf e := by rw [hck]; simp
                  have hlm : len ≤ m := by rw [hmm]; split <;> omega
                  have el : ∀ i, i < len → ∃ xs : List AC, DtL (k0 :: ks0) xs ∧ a.spot = none ∧ RPL (fun b => b < w.heap.size) w a.block (a.off + i * P.cellsOf e) xs ∧ a.block < w.heap.size := by
                    intro i hi'
                    obtain ⟨cs', hc, htr'⟩ := hel i (by omega)
                    obtain ⟨_, hcl', hat'⟩ := World.cells?_some hc
                    obtain ⟨xs, h1, h2, h3⟩ := ih e _ n' cs' _ he hf0 htr'
                    have hsp : a.spot = none := by
                      obtain ⟨cs0, hc0', _⟩ := hel 0 (by omega)
                      obtain ⟨_, hl0, hat0⟩ := World.cells?_some hc0'
                      have h4 := hat0 0 hk0
                      have : ∃ u, cs0[0]? = some u := ⟨cs0[0]'(by omega), List.getElem?_eq_getElem (by omega)⟩
                      obtain ⟨u1, hu1⟩ := this
                      rw [hu1] at h4
                      have h5 := spot_of_cell h4
                      simpa [Addr.add] using h5
                    have hcell : ∀ (j : Nat) (c : AC), xs[j]? = some c → ∃ u, w.cell? ⟨a.block, a.off + i * P.cellsOf e + j, none⟩ = some u ∧ one u = true ∧ RP (fun b => b < w.heap.size) w c u := fun j c hj => by
                      obtain ⟨u, g1, g2, g3⟩ := h3 j c hj
                      have hjl : j < P.cellsOf e := by rw [← hcl']; exact (List.getElem?_eq_some_iff.1 g1).1
                      have h6 := hat' j hjl
                      rw [g1] at h6
                      exact ⟨u, by rw [← addr_two a hsp]; exact h6, g2, g3⟩
                    refine ⟨xs, h1, hsp, RPL.mk hcell, ?_⟩
                    have hx0 : ∃ c, xs[0]? = some c := ⟨xs[0]'(by rw [h1.len]; simp), List.getElem?_eq_getElem _⟩
                    obtain ⟨c, hc0⟩ := hx0
                    obtain ⟨u, g1, _⟩ := hcell 0 c hc0
                    have hbl := World.block_lt_of_cell? w _ g1
                    exact hbl
                  obtain ⟨f, hf⟩ : ∃ f : Nat → List AC, ∀ i, i < len → DtL (k0 :: ks0) (f i) ∧ a.spot = none ∧ RPL (fun b => b < w.heap.size) w a.block (a.off + i * P.cellsOf e) (f i) ∧ a.block < w.heap.size := Go.Deep.choose_lt el
                  refine ⟨.view ((List.range len).map f), by
                    unfold Dt
                    refine ⟨_, rfl, by simp only [List.length_map, List.length_range]; exact Nat.le_trans hlc (Nat.le_trans hm (by decide)), fun x hx => ?_⟩
                    simp only [List.mem_map, List.mem_range] at hx
                    obtain ⟨i, hi, rfl⟩ := hx
                    exact (hf i hi).1, rfl, ?_⟩
                  unfold RP
                  refine ⟨some a, cap, by simp, by simpa using hlc, hm, ?_⟩
                  by_cases h0 : len = 0
                  · left; subst h0; rfl
                  · right
                    obtain ⟨_, hsp, _, hbl⟩ := hf 0 (by omega)
                    refine ⟨a.block, a.off, P.cellsOf e, by obtain ⟨b, o, s⟩ := a; simp only at hsp; subst hsp; rfl, hbl, RPE.mk fun i y hy => ?_⟩
                    simp only [List.getElem?_map, Option.map_eq_some_iff] at hy
                    obtain ⟨i', hi', rfl⟩ := hy
                    have hil : i < len := by have := (List.getElem?_eq_some_iff.1 hi').1; simpa using this
                    rw [List.getElem?_range hil] at hi'
                    cases hi'
                    obtain ⟨g1, _, g3, _⟩ := hf i hil
                    exact ⟨by rw [g1.len, hck], g3⟩
              · cases hs
            · cases hs
          · cases hs
        · cases hs
      haveI : Inhabited AC := ⟨.dead⟩
      obtain ⟨f, hf⟩ : ∃ f : Nat → AC, ∀ i, i < ks.length → (∀ k, ks[i]? = some k → Dt k (f i)) ∧ ∃ u, cs[i]? = some u ∧ one u = true ∧ RP (fun b => b < w.heap.size) w (f i) u := Go.Deep.choose_lt key
      refine ⟨(List.range ks.length).map f, DtL.mk (by simp) fun i k c hk hc => ?_, by simp [hcl, hlen], fun j c hj => ?_⟩
      · simp only [List.getElem?_map, Option.map_eq_some_iff] at hc
        obtain ⟨i', hi', rfl⟩ := hc
        have hil : i < ks.length := (List.getElem?_eq_some_iff.1 hk).1
        rw [List.getElem?_range hil] at hi'
        cases hi'
        exact (hf i hil).1 k hk
      · simp only [List.getElem?_map, Option.map_eq_some_iff] at hj
        obtain ⟨i', hi', rfl⟩ := hj
        have hil : j < ks.length := by have := (List.getElem?_eq_some_iff.1 hi').1; simpa using this
        rw [List.getElem?_range hil] at hi'
        cases hi'
        exact (hf j hil).2
theorem open_struct {r : Reach} {b0 : Nat} {t : TypeId} {fs : Array Field} {v : Value} {d : DataW H} {p : List MemPlace} (hl : laidOutB P = true) (n : Nat) (ks : List Sh) (hlt : t < P.types.size) (hs : P.underlying t = some (.struct fs)) (hsh : shL P n t = some ks)
    (hv : Value.okWide P w r b0 t v) (h : DataW.Trod enc P w base spare held t v d p) : ∃ xs, DtL ks xs ∧ RT (fun b => b < w.heap.size) w [] [] (.agg xs) v := by
  obtain ⟨cs, rfl, hsz⟩ := okWide_struct hs hv
  obtain ⟨fuel, hf⟩ := h
  obtain ⟨xs, h1, h2, h3⟩ := open_cells hl n t ks fuel _ _ hlt hsh hf
  refine ⟨xs, h1, cs.toList, rfl, h2.symm, fun j c hj => ?_⟩
  obtain ⟨u, g1, g2, g3⟩ := h3 j c hj
  have hc : Dt (ks[j]'(by rw [← h1.len]; exact (List.getElem?_eq_some_iff.1 hj).1)) c ∨ True := .inr trivial
  refine ⟨u, g1, g2, ?_⟩
  cases c with
  | imm v => unfold RP at g3; exact g3
  | view ys => exact g3
  | dead => trivial
  | own r => unfold RP at g3; exact g3.elim
  | sub r lo k => unfold RP at g3; exact g3.elim
  | ptr r i o => unfold RP at g3; exact g3.elim
  | eptr cs o => unfold RP at g3; exact g3.elim
  | clo f rs => unfold RP at g3; exact g3.elim
  | fv bs xs => unfold RP at g3; exact g3.elim
  | old p xs => unfold RP at g3; exact g3.elim
end
end Go.Proofs.YtenbloaopcfdlaaGreat
