/- A part of AM, a framework of the prover own: functions of any program as maps of data. -/
import Derived.Test.YtckchgoblpgpbaaGreatJ8ao
set_option linter.unusedVariables false
set_option linter.unusedSimpArgs false
namespace Go.Proofs.YtckchgoblpgpbaaGreat.Am
open Go.RowKit
variable {P:Program}
theorem JM{f:FuncId}{H H2:AH}{args args2:List AT}{Post:AV->AH->Prop}{ρ:List (Option Nat)}(hw:Wk H.length (fun _=> .tup args) H [(0,.tup args2)] H2 ρ)(hc: @Con bp0 P f H2 args2 Post): @Con bp0 P f H args Post:=by
 obtain⟨hd,hgo,hf,hr,ha,_⟩:=hw
 replace ha:AD ρ H2 args2 args:=ha
 refine⟨hc.1,fun F w m vs hH hl hx=> ?_⟩
 have s0:= @dI.x _ _ _ _ _ _ _ bp0 (@dI.refl _ _ _ _ bp0 hH)
 have s1:=(gD.rn s0 rfl hd hgo hf hr).full (fun _ h=>h)
 refine(hc.2 F w _ vs s1.hp (by rw [hl,og _ _ ha]) (fun j y hj=> ?_)).mono fun e w'⟨v,res,h',m',F',he,hp,hG,hs,hv⟩=>⟨v,res,h',m',F',he,hp,⟨hG.1,fun b hb=> ?_⟩,s1.trans hs,hv⟩
 ·obtain⟨x,h1,h2⟩:=oh _ _ j y ha hj
  obtain⟨v,hv,hg⟩:=hx j x h1
  exact⟨v,hv,RT.rn hH hr hg h2⟩
 ·rcases hG.2 b hb with h1|h1|⟨r,ab,c,h1,h2⟩
  ·exact .inl h1
  ·exact .inr (.inl h1)
  ·rcases s1.own r ab b c h1 h2 with⟨r0,ab0,c0,h3,h4⟩|h3
   ·exact .inr (.inr ⟨r0,ab0,c0,h3,h4⟩)
   ·exact .inr (.inl h3)
theorem Ib{n0 N:Nat}{β:BP}{g:Gd}(hβ:β=bp0)(hg:g= @G0 β P n0 N){H:EH}{f:FuncId}{args:List AT}{K:AV->EH->Prop}(n:Nat)(hn:mU H=n)(H2:EH)(args2:List AT)(ρ:List (Option Nat))(hw:Wk n (fun _=> .tup args) (toH H) [(0,.tup args2)] (toH H2) ρ)(hv:g .C f H2 args2 K):g .C f H args K:=by
 subst hβ hg
 refine JM (ρ:=ρ) (H2:=toH H2) ?_ hv
 rw [bV,<-dy,hn]
 exact hw
end Go.Proofs.YtckchgoblpgpbaaGreat.Am
