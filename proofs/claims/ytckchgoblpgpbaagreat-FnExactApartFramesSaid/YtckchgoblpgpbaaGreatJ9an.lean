/- A part of AM, a framework of the prover own: functions of any program as maps of data. -/
import Derived.Laws.Pointers
import Derived.Test.YtckchgoblpgpbaaGreatJ9am
set_option linter.unusedVariables false
set_option linter.unusedSimpArgs false
namespace Go.Proofs.YtckchgoblpgpbaaGreat.Am
open Go.RowKit
section
variable {P:Program}{tab:List (TypeId × TI)}{N:Nat}{F F0:Nat->Prop}{w0:World}{m0:AM}{h0:AH}
def PqC [BP](P:Program)(tab:List (TypeId×TI))(g:Gd)(ops:List Oper)(Q:List (Nat×AV)->EH->Prop)(o:Oper)(l2:List Oper)(l:List (Nat×AV))(h:EH):Prop:=
 ∃t t' x y e,P.underlying t=some (.pointer e)/\o.guard=none/\o.op= .binOp .eql t x y t'/\ev (lkT l) x= .t (.c (.imm (.pointer none)))/\ev (lkT l) y= .t (.c (.imm (.pointer none)))/\lp g tab ops Q l2 0 (sP l o.dst (.t (.c (.B true)))) h
variable {Q:Exit->List (Nat×AV)->EH->Prop}{l:List (Nat×AV)}{os:List Oper}
theorem HZ{β:BP}{n0:Nat}(hfit:fI P tab){id:Nat}(k:Nat)(o:Oper)(l2:List Oper)(hsplit:os=os.take k++o::l2)(hok:gf N os.toArray=true){h:EH}
  (hp:lp (G0 P n0 N) tab os (PqC P tab (G0 P n0 N) os (fun l h=>Q .normal l h) o l2) (os.take k) 0 l h):VC P n0 N (.region id os.toArray false) (QE Q) (lkT l) (toH h):=fun F w0 m0 h0 a w m hn r=>by
 unfold gf at hok
 simp only [zqs]at hok
 have hb:os.all (fS N)=true:=hok.2
 refine wp_region_list ?_
 show wpList P os.toArray _ os a w
 have hl:=bV hfit (ops:=os.toArray) _ 0 l h hp
 have hd:∀o'∈os.take k,o'∈os:=fun o' ha=>List.mem_of_mem_take ha
 have ho:o∈os:=by rw [hsplit];simp
 have hh:∀o'∈l2,o'∈os:=fun o' ha=>by rw [hsplit];simp [ha]
 have he:=nR (P:=P) (F0:=F) (w0:=w0) (m0:=m0) (h0:=h0) (K:=kB F w0 m0 h0 N (QE Q)) (l2:=o::l2) hok.1 (fun F1 T1 h1 a1 w1 m1 hi r1 hc=>by
  obtain⟨l1,hm,rfl,rfl,t,t',x,y,el,hu,hj,hk,hx,hy,hf⟩:=hc
  unfold wpList
  rw [if_pos (by unfold Region.wanted;rw [hj])]
  left
  refine Yl.wp (R:=fun v w'=>v= .bool true/\w'=w1) (Yl.value (v:= .bool true) (w':=w1) ?_ ⟨rfl,rfl⟩) ?_
  ·have ex:=fd r1.tm hx
   have ey:=fd r1.tm hy
   unfold execOp
   rw [hk]
   dsimp only
   rw [ex,ey]
   refine gW ?_
   have hg:(eqGuard .eql t x y (.pointer none) (.pointer none)).run P w1= .ok () w1:=by
    unfold eqGuard;split<;>rfl
   simp only [Sem.run_bind,hg,Result.andThen_ok]
   exact run_eql_pointer_nil w1 t none (by unfold Program.pointee;rw [hu])
  ·rintro v w' ⟨rfl,rfl⟩
   exact iB hok.1 l2 F1 _ _ _ _ _ hh (zqf.2 fun o' ha=>zqf.1 hb o' (hh o' ha)) hi (by
    have:=r1.next (o:=o) (zqf.1 hb o ho) (dD.refl r1.st.hp) (res:= .t (.c (.B true))) (v:= .bool true) rfl
    rwa [ut]at this) (bV hfit (ops:=os.toArray) _ 0 _ _ hf))
  (os.take k) F _ _ a w m hd (zqf.2 fun o' ha=>zqf.1 hb o' (hd o' ha)) (fF.refl _ _ _ _) r hl
 rw [<-hsplit]at he
 exact he
theorem Ex{β:BP}{n0:Nat}{g:Gd}{hd:HF}(hg:g=G0 P n0 N)(hhd:hd=hd0 P n0 N)(hfit:fI P tab){id:Nat}(k:Nat)(hok:gf N os.toArray=true){h:EH}
  (hp:∀mk:List Oper->(List (Nat×AV)->EH->Prop)->Oper->List Oper->List (Nat×AV)->EH->Prop,mk=PqC P tab g->match os.drop k with| []=>False|o::l2=>lp g tab os (mk os (fun l h=>Q .normal l h) o l2) (os.take k) 0 l h):hd (.region id os.toArray false) Q l h:=by
 subst hg hhd
 have:=hp _ rfl
 split at this
 ·exact this.elim
 ·rename_i o l2 he
  exact HZ hfit k o l2 (by rw [<-he,List.take_append_drop]) hok this
end
end Go.Proofs.YtckchgoblpgpbaaGreat.Am
