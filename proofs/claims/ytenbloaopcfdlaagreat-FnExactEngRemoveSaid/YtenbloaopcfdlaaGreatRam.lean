/- A part of AM, a framework of the prover own: functions of any program as maps of data. -/
import Derived.Test.YtenbloaopcfdlaaGreatRal
namespace Go.Proofs.YtenbloaopcfdlaaGreat.Am
open Go.RowKit
set_option linter.unusedVariables false
set_option linter.unusedSimpArgs false
inductive ZT
  | done
  | none
  | op (i : Nat) (rs : List Nat) (t r : ZT)
def zrd (ops : Array Oper) : List Nat → Array Bool → Option (Array Bool)
  | [], L => some L
  | j :: rs, L => if (Region.ready .any ops L).contains j then zrd ops rs (L.setIfInBounds j true) else none
def zB (ops : Array Oper) : ZT → Array Bool → List Nat → Bool → Bool
  | .done, _, al, top => top && al.isEmpty
  | .none, _, al, top => !top && al.isEmpty
  | .op i rs t r, L, al, _ => match al with
    | j :: al' => Nat.beq i j && (match zrd ops rs (L.setIfInBounds i true) with | some L' => zB ops t L' (Region.ready .any ops L') true | none => false) && zB ops r L al' false
    | _ => false
def zOk (ops : Array Oper) (rs : List Nat) (t : ZT) : Bool := headB ops ops.size && (match zrd ops rs (Array.replicate ops.size false) with | some L => zB ops t L (Region.ready .any ops L) true | none => false)
section
variable {P : Program} {w0 : World} {m0 : AM} {h0 : AH} {N : Nat} {ops : Array Oper}
end
section
variable {P : Program} {n0 N : Nat} {tab : List (TypeId × TI)}
end
end Go.Proofs.YtenbloaopcfdlaaGreat.Am
