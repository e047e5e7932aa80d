/- A part of AM, a framework of the prover own: functions of any program as maps of data. -/
import Derived.Test.YtckchgoblpgpbaaGreatJ8af
set_option linter.unusedVariables false
set_option linter.unusedSimpArgs false
namespace Go.Proofs.YtckchgoblpgpbaaGreat.Am
open Go.RowKit
section
variable {P:Program}{F:Nat->Prop}{w0:World}{m0:AM}{h0:AH}{N mm:Nat}{ops:Array Oper}{T:Nat->AV}{h:AH}{Ts:Nat->Nat->AV}{Hs:Nat->AH}{R:Nat->AV}{Rw:Nat->List AB}{W:Nat->Bool}{Z:List Nat}{Ss:List (List Nat × OT)}
end
theorem Fj{ops:Array Oper}{o:Oper}{T:Nat->AV}{A B A' B':Prop}(ha:A->A')(hb:B->B')(h:grd ops o T A B):grd ops o T A' B':=by
 unfold grd at h⊢
 split at h
 ·exact ha h
 ·split at h
  ·split at h
   ·exact⟨fun he=>ha (h.1 he),fun he=>hb (h.2 he)⟩
   ·exact hb h
   ·exact h
  ·exact hb h
abbrev LT:=List (Nat×Nat×List Nat×List (List Nat×OT))
section
variable {P:Program}{n0 N:Nat}{tab:List (TypeId × TI)}
end
end Go.Proofs.YtckchgoblpgpbaaGreat.Am
