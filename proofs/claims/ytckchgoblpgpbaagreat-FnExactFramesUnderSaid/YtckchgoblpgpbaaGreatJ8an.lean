/- A part of AM, a framework of the prover own: functions of any program as maps of data. -/
import Derived.Laws.Pointers
import Derived.Test.YtckchgoblpgpbaaGreatJ8am
set_option linter.unusedVariables false
set_option linter.unusedSimpArgs false
namespace Go.Proofs.YtckchgoblpgpbaaGreat.Am
open Go.RowKit
section
variable {P:Program}{tab:List (TypeId × TI)}{N:Nat}{F F0:Nat->Prop}{w0:World}{m0:AM}{h0:AH}
def PqC [BP](P:Program)(tab:List (TypeId×TI))(g:Gd)(ops:List Oper)(Q:List (Nat×AV)->EH->Prop)(o:Oper)(l2:List Oper)(l:List (Nat×AV))(h:EH):Prop:=
 ∃t t' x y e,P.underlying t=some (.pointer e)/\o.guard=none/\o.op= .binOp .eql t x y t'/\ev (lkT l) x= .t (.c (.imm (.pointer none)))/\ev (lkT l) y= .t (.c (.imm (.pointer none)))/\lz g tab ops Q l2 0 (s9 l o.dst (.t (.c (.B true)))) h
variable {Q:Exit->List (Nat×AV)->EH->Prop}{l:List (Nat×AV)}{os:List Oper}
theorem IG{β:BP}{n0:Nat}(hfit:fL P tab){id:Nat}(k:Nat)(o:Oper)(l2:List Oper)(hsplit:os=os.take k++o::l2)(hok:gg N os.toArray=true){h:EH}
  (hp:lz (G0 P n0 N) tab os (PqC P tab (G0 P n0 N) os (fun l h=>Q .normal l h) o l2) (os.take k) 0 l h):VC P n0 N (.region id os.toArray false) (QE Q) (lkT l) (toH h):=fun F w0 m0 h0 a w m hn r=>by
 unfold gg at hok
 simp only [zqs]at hok
 have hb:os.all (fT N)=true:=hok.2
 refine wp_region_list ?_
 show wpList P os.toArray _ os a w
 have hl:=cj hfit (ops:=os.toArray) _ 0 l h hp
 have hd:∀o'∈os.take k,o'∈os:=fun o' ha=>List.mem_of_mem_take ha
 have ho:o∈os:=by rw [hsplit];simp
 have hh:∀o'∈l2,o'∈os:=fun o' ha=>by rw [hsplit];simp [ha]
 have he:=n9 (P:=P) (F0:=F) (w0:=w0) (m0:=m0) (h0:=h0) (K:=kO F w0 m0 h0 N (QE Q)) (l2:=o::l2) hok.1 (fun F1 T1 h1 a1 w1 m1 hi r1 hc=>by
  obtain⟨l1,hm,rfl,rfl,t,t',x,y,el,hu,hj,hk,hx,hy,hf⟩:=hc
  unfold wpList
  rw [if_pos (by unfold Region.wanted;rw [hj])]
  left
  refine Yl.wp (R:=fun v w'=>v= .bool true/\w'=w1) (Yl.value (v:= .bool true) (w':=w1) ?_ ⟨rfl,rfl⟩) ?_
  ·have ex:=fi r1.tm hx
   have ey:=fi r1.tm hy
   unfold execOp
   rw [hk]
   dsimp only
   rw [ex,ey]
   refine gZ ?_
   have hg:(eqGuard .eql t x y (.pointer none) (.pointer none)).run P w1= .ok () w1:=by
    unfold eqGuard;split<;>rfl
   simp only [Sem.run_bind,hg,Result.andThen_ok]
   exact run_eql_pointer_nil w1 t none (by unfold Program.pointee;rw [hu])
  ·rintro v w' ⟨rfl,rfl⟩
   exact iK hok.1 l2 F1 _ _ _ _ _ hh (zqf.2 fun o' ha=>zqf.1 hb o' (hh o' ha)) hi (by
    have:=r1.next (o:=o) (zqf.1 hb o ho) (dI.refl r1.st.hp) (res:= .t (.c (.B true))) (v:= .bool true) rfl
    rwa [uQ]at this) (cj hfit (ops:=os.toArray) _ 0 _ _ hf))
  (os.take k) F _ _ a w m hd (zqf.2 fun o' ha=>zqf.1 hb o' (hd o' ha)) (fJ.refl _ _ _ _) r hl
 rw [<-hsplit]at he
 exact he
theorem Fi{β:BP}{n0:Nat}{g:Gd}{hd:HF}(hg:g=G0 P n0 N)(hhd:hd=hd0 P n0 N)(hfit:fL P tab){id:Nat}(k:Nat)(hok:gg N os.toArray=true){h:EH}
  (hp:∀mk:List Oper->(List (Nat×AV)->EH->Prop)->Oper->List Oper->List (Nat×AV)->EH->Prop,mk=PqC P tab g->match os.drop k with| []=>False|o::l2=>lz g tab os (mk os (fun l h=>Q .normal l h) o l2) (os.take k) 0 l h):hd (.region id os.toArray false) Q l h:=by
 subst hg hhd
 have:=hp _ rfl
 split at this
 ·exact this.elim
 ·rename_i o l2 he
  exact IG hfit k o l2 (by rw [<-he,List.take_append_drop]) hok this
end
end Go.Proofs.YtckchgoblpgpbaaGreat.Am
