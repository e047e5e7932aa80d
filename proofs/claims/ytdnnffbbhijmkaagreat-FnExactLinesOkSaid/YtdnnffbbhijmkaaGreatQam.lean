/- A part of AM, a framework of the prover own: functions of any program as maps of data. -/
import Derived.Test.YtdnnffbbhijmkaaGreatQal
set_option linter.unusedVariables false
set_option linter.unusedSimpArgs false
namespace Go.Proofs.YtdnnffbbhijmkaaGreat.Am
open Go.RowKit
def mu:Code→List Code
 | .seq x y=>mu x++mu y
 | .cond _ x y=>mu x++mu y
 | .block _ c=>mu c
 | .loop c=>c::mu c
 |_=>[]
def GM:List Code→Nat→Code
 | [],_=> .skip
 |c::_,0=>c
 |_::l,n+1=>GM l n
def lO(c:Code)(k:Nat):Code:=GM (mu c) k
theorem Dm{P:Program}{n0 N:Nat}{β:BP}{Q:Exit→(Nat→AV)→AH→Prop}{c:Code}{T:Nat→AV}{h:AH}{l2:List (Nat×AV)}{h2:AH}(hw:q7 n0 N T h l2 h2)(hv:VC P n0 N c Q (lkT l2) h2):VC P n0 N c Q T h:=fun F w0 m0 h00 a w m hn r=>by
 obtain⟨F0,m1,hG0,r0⟩:=hw F w0 m0 h00 a w m hn r
 exact Code.wp_mono (fun e a' w'⟨T',h',m',F2,hq,hG2,r'⟩=>⟨T',h',m',F2,hq,hG0.comp hG2,r'⟩) (hv F0 w0 m0 h00 a w m1 hn r0)
theorem kP{P:Program}{n0 N:Nat}{β:BP}{g:Gd}(hg:g=G0 P n0 N){c:Code}{Q:Exit→List (Nat×AV)→EH→Prop}{l:List (Nat×AV)}{h:EH}(c':Code)(hc:c=c')(l2:List (Nat×AV))(h2:EH)(hw:q7 n0 N (lkT l) (toH h) l2 (toH h2))(hv:g .L c' Q l2 h2):g .L c Q l h:=by
 subst hc hg
 exact Dm hw hv
end Go.Proofs.YtdnnffbbhijmkaaGreat.Am
