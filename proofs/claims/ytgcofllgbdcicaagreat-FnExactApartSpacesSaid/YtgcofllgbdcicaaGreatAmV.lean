/- A part of AM, a framework of the prover own: functions of any program as maps of data. -/
import Derived.Test.YtgcofllgbdcicaaGreatAmU
namespace Go.Proofs.YtgcofllgbdcicaaGreat.Am
open Go.RowKit
set_option linter.unusedVariables false
set_option linter.unusedSimpArgs false
/-! ### Rules for a run by simp -/
section
variable {P : Program} {T : Nat → AV} {h : AH} {n : Nat} {ops : Array Oper} {Q : (Nat → AV) → AH → Prop} {K : AV → AH → Prop} {L : AV → List AB → Prop}
theorem put_at (d i : Nat) (v : AV) : put T (some d) v i = if i = d then v else T i := rfl
theorem put_none (v : AV) : put T none v = T := rfl
theorem seqA_nil : seqA P ops Q [] T h = Q T h := rfl
theorem seqA_plain {dst : Option Tmp} {op : Op} {ty : TypeId} {pos : String} {after : Array Edge} {os : List Oper} : seqA P ops Q (⟨dst, op, ty, pos, after, none⟩ :: os) T h = opA P T h op (fun res h' => seqA P ops Q os (put T dst res) h') := rfl
theorem seqA_guard {dst : Option Tmp} {op : Op} {ty : TypeId} {pos : String} {after : Array Edge} {os : List Oper} {g : Nat} {want : Bool} : seqA P ops Q (⟨dst, op, ty, pos, after, some (g, want)⟩ :: os) T h =
    (match (ops[g]?).bind (·.dst) with
    | some t => match T t with
      | .t (.c (.imm (.bool b))) => (b = want → opA P T h op (fun res h' => seqA P ops Q os (put T dst res) h')) ∧ (b = !want → seqA P ops Q os (put T dst (.t (.c (.imm undef)))) h)
      | .t (.c (.imm _)) => seqA P ops Q os (put T dst (.t (.c (.imm undef)))) h
      | _ => False
    | none => seqA P ops Q os (put T dst (.t (.c (.imm undef)))) h) := rfl
theorem headA_nil {K : (Nat → AV) → AH → Prop} : headA P ops K [] T h = K T h := rfl
theorem headA_plain {K : (Nat → AV) → AH → Prop} {dst : Option Tmp} {op : Op} {ty : TypeId} {pos : String} {after : Array Edge} {os : List Oper} : headA P ops K (⟨dst, op, ty, pos, after, none⟩ :: os) T h =
    ∃ res rows, popP P T h h.length op (fun r s => r = res ∧ s = rows) ∧ headA P ops K os (put T dst res) (h ++ rows.map .live) := rfl
theorem headA_guard {K : (Nat → AV) → AH → Prop} {dst : Option Tmp} {op : Op} {ty : TypeId} {pos : String} {after : Array Edge} {os : List Oper} {g : Nat} {want : Bool} : headA P ops K (⟨dst, op, ty, pos, after, some (g, want)⟩ :: os) T h =
    (match (ops[g]?).bind (·.dst) with
    | some t => match T t with
      | .t (.c (.imm (.bool b))) => (b = want → ∃ res rows, popP P T h h.length op (fun r s => r = res ∧ s = rows) ∧ headA P ops K os (put T dst res) (h ++ rows.map .live)) ∧ (b = !want → headA P ops K os (put T dst (.t (.c (.imm undef)))) h)
      | .t (.c (.imm _)) => headA P ops K os (put T dst (.t (.c (.imm undef)))) h
      | _ => False
    | none => headA P ops K os (put T dst (.t (.c (.imm undef)))) h) := rfl
theorem opA_move {x : Operand} : opA P T h (.move x) K = K (ev T x) (h ++ []) := rfl
theorem opA_assign {x : Operand} : opA P T h (.assign x) K = K (ev T x) (h ++ []) := rfl
theorem ev_tmp {t : Nat} : ev T (.tmp t) = T t := rfl
theorem ev_const {v : Value} : ev T (.const v) = .t (.c (.imm v)) := rfl
end
end Go.Proofs.YtgcofllgbdcicaaGreat.Am
