/- A part of AM, a framework of the prover own: functions of any program as maps of data. -/
import Derived.Test.YtckchgoblpgpbaaGreatJ8an
set_option linter.unusedVariables false
set_option linter.unusedSimpArgs false
namespace Go.Proofs.YtckchgoblpgpbaaGreat.Am
open Go.RowKit
def nG:Code->List Code
 | .seq x y=>nG x++nG y
 | .cond _ x y=>nG x++nG y
 | .block _ c=>nG c
 | .loop c=>c::nG c
 |_=>[]
def KX:List Code->Nat->Code
 | [],_=> .skip
 |c::_,0=>c
 |_::l,n+1=>KX l n
def mZ(c:Code)(k:Nat):Code:=KX (nG c) k
variable {P:Program}
theorem G9{n0 N:Nat}{β:BP}{Q:Exit->(Nat->AV)->AH->Prop}{c:Code}{T:Nat->AV}{h:AH}{l2:List (Nat×AV)}{h2:AH}(hw:qN n0 N T h l2 h2)(hv:VC P n0 N c Q (lkT l2) h2):VC P n0 N c Q T h:=fun F w0 m0 ha a w m hn r=>by
 obtain⟨F0,m1,hb,r0⟩:=hw F w0 m0 ha a w m hn r
 exact Code.wp_mono (fun e a' w'⟨T',h',m',F2,hq,hG2,r'⟩=>⟨T',h',m',F2,hq,hb.comp hG2,r'⟩) (hv F0 w0 m0 ha a w m1 hn r0)
theorem me{n0 N:Nat}{β:BP}{g:Gd}(hg:g=G0 P n0 N){c:Code}{Q:Exit->List (Nat×AV)->EH->Prop}{l:List (Nat×AV)}{h:EH}(c':Code)(hc:c=c')(l2:List (Nat×AV))(h2:EH)(hw:qN n0 N (lkT l) (toH h) l2 (toH h2))(hv:g .L c' Q l2 h2):g .L c Q l h:=by
 subst hc hg
 exact G9 hw hv
end Go.Proofs.YtckchgoblpgpbaaGreat.Am
