/- A part of AM, a framework of the prover own: functions of any program as maps of data. -/
import Derived.Test.YtckchgoblpgpbaaGreatJ6ai
set_option linter.unusedVariables false
set_option linter.unusedSimpArgs false
namespace Go.Proofs.YtckchgoblpgpbaaGreat.Am
open Go.RowKit
theorem tM:∀{es:LLA}{j:Nat}{e e':List AC},es[j]? =some e->fpL e'=fpL e->fpE (es.set j e')=fpE es
 | [],j,e,e',h,_=>by simp at h
 |x::es,0,e,e',h,hf=>by
  simp at h
  subst h
  show fpL e'++fpE es=fpL x++fpE es
  rw [hf]
 |x::es,j+1,e,e',h,hf=>by
  show fpL x++fpE (es.set j e')=fpL x++fpE es
  rw [tM (by simpa using h) hf]
theorem qz{c:AC}{u:Value}(hb:jP c=true)(h:vwC c= .imm u):c= .imm u:=by cases c<;>first|exact h|(simp [vwC]at h;done)|cases hb
theorem xe{c:AC}{F:LLA}(hb:jP c=true)(h:vwC c= .view F):∃b,c= .fv b F:=by
 cases c<;>first|cases hb|skip
 ·simp [vwC]at h
 ·simp only [vwC,AC.view.injEq]at h;exact⟨_,by rw [h]⟩
theorem ql{P:Program}{tab:List (TypeId×TI)}{n0 N:Nat}{β:BP}{g:Gd}{eff:EF}{hd:HF}(ets:ET)(lts:LT)(he:eff=zA P)(hhd:hd=hd0 P n0 N)(hg:g=G0 P n0 N)(hfit:ep P tab){c:Code}{Q:Exit->List (Nat×AV)->EH->Prop}{l:List (Nat×AV)}{h:EH}
  (l2:List (Nat×AV)) (h2:EH) (hok:dF ets lts N c=true) (hp:∀B:List (Nat×AV)->EH->Prop,(∀l' h',je n0 N (lkT l') (toH h') l2 (toH h2)->B l' h')->jh ets lts eff hd g tab c (fun e l' h'=>match e with| .normal=>B l' h'|_=>False) l h) (hq:Q .normal l2 h2):hd c Q l h:=by
 subst he hhd hg
 have hv:=bX hfit c _ _ _ hok (hp _ fun l' h' hw=>hw)
 intro F w0 m0 h0 a w m hn r
 refine Code.wp_mono (fun e a' w'⟨T',h',m',F1,⟨l',eh,e1,e2,hw⟩,hG,r'⟩=> ?_) (hv F w0 m0 h0 a w m hn r)
 subst e1 e2
 cases e<;>first|exact hw.elim|skip
 obtain⟨F2,m2,ha,r2⟩:=hw F1 w0 m0 h0 a' w' m' hn r'
 exact⟨_,_,m2,F2,⟨l2,h2,rfl,rfl,hq⟩,hG.comp ha,r2⟩
end Go.Proofs.YtckchgoblpgpbaaGreat.Am
