/- A part of AM, a framework of the prover own: functions of any program as maps of data. -/
import Derived.Test.YtckchgoblpgpbaaGreatJ6aj
set_option linter.unusedVariables false
set_option linter.unusedSimpArgs false
namespace Go.Proofs.YtckchgoblpgpbaaGreat.Am
open Go.RowKit
section
variable {P:Program}{tab:List (TypeId × TI)}{n0 N:Nat}
end
section
variable {P:Program}{F:Nat->Prop}{w:World}{m:AM}{h:AH}{p:Nat}
end
section
variable {P:Program}{tab:List (TypeId × TI)}
end
section
variable {P:Program}{tab:List (TypeId × TI)}{n0 N:Nat}
end
theorem yl{P:Program}{tab:List (TypeId×TI)}{n0 N:Nat}{β:BP}{g:Gd}{hd:HF}(hg:g=G0 P n0 N)(hhd:hd=hd0 P n0 N)(hfit:ep P tab){id:Nat}{os:List Oper}(t:OT)(hok:eb N os.toArray=true)(hB:DE os.toArray t=true){Q:Exit->List (Nat×AV)->EH->Prop}{l:List (Nat×AV)}{h:EH}
  (l2:List (Nat×AV)) (h2:EH) (hp:∀B:List (Nat×AV)->EH->Prop,(∀l' h',je n0 N (lkT l') (toH h') l2 (toH h2)->B l' h')->Cb g tab os B t l h) (hq:Q .normal l2 h2):hd (.region id os.toArray true) Q l h:=by
 subst hhd hg
 have hv:=i6 hfit (ops:=os.toArray) t l h (hp _ fun l' h' hw=>hw)
 have hb:=yW (P:=P) (n0:=n0) (id:=id) (Q:=fun e T h=>match e with| .normal=>QH (fun l' h'=>je n0 N (lkT l') (toH h') l2 (toH h2)) T h|_=>False) t hfit.mix hok hB hv
 intro F w0 m0 h0 a w m hn r
 refine Code.wp_mono (fun e a' w'⟨T',h',m',F1,hw,hG,r'⟩=> ?_) (hb F w0 m0 h0 a w m hn r)
 cases e<;>first|exact hw.elim|skip
 obtain⟨l',eh,e1,e2,hw⟩:=hw
 subst e1 e2
 obtain⟨F2,m2,ha,r2⟩:=hw F1 w0 m0 h0 a' w' m' hn r'
 exact⟨_,_,m2,F2,⟨l2,h2,rfl,rfl,hq⟩,hG.comp ha,r2⟩
end Go.Proofs.YtckchgoblpgpbaaGreat.Am
