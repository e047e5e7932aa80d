/- A child's space across: both programs' answers, and the law. -/
import Derived.Test.YtckchgoblpgpbaaGreatJ6ay
set_option linter.unusedVariables false
set_option linter.unusedSimpArgs false
set_option maxHeartbeats 16000000
namespace Go.Proofs.YtckchgoblpgpbaaGreat
open Go.Shelf Go.RowKit Go.Lib Go.Sort Am Go.Proofs.Tryz
theorem zU{id n0:Nat}{o35 o36 o37 o38:Oper}(e35:o35.op= .load 24 (.tmp 5))(d35:o35.dst=some 35)(g35:o35.guard=none)(e36:o36.op= .makeInterface 24 (.tmp 35))(d36:o36.dst=some 36)(g36:o36.guard=none)
  (e37:o37.op= .makeFunc (.func 281) #[] #[.tmp 2,.tmp 5]) (d37:o37.dst=some 37) (g37:o37.guard=none) (c38:Call) (e38:o38.op= .call c38) (k38:c38.callee= .value (.func 280)) (a38:c38.args= #[.tmp 36,.tmp 37]) (d38:o38.dst=some 38) (g38:o38.guard=none)
  (ns:List af) (hl:ns.length<=1048576) {E:List Int} (hE:∀k∈E,isN ns k=true) (h20:E.length<20) {l:List (Nat×AV)} {Q:Exit->(Nat->AV)->AH->Prop}
  (h2:lkT l 2= .p 0) (h5:lkT l 5= .p 1) (tT tI:Nat)
  (hQ:Q .normal (lkT ((38,.t (.c .dead))::(37,.t (.c .dead))::(36,.t (.c .dead))::(35,.o 2)::l)) (toH [.bx tT 1 [.view (vwA af.ac ns)],.bx tI 1 [.own 2],.rw ⟨3,1,vw ak (jf (mO ns) E)⟩])) (N:Nat) (hN:N=40) (cd:Code) (hcd:cd= .region id #[o35,o36,o37,o38] false) (hh:EH) (hhh:hh=[.bx tT 1 [.view (vwA af.ac ns)],.bx tI 1 [.own 2],.rw ⟨3,1,vw ak E⟩]):
  VC prog n0 N cd Q (lkT l) (toH hh):=by
 subst hN hcd hhh
 intro F w0 m0 h0 a w m xe r
 refine wp_region_list ?_
 show wpList _ _ _ [o35,o36,o37,o38] a w
 have wnt:∀(o:Oper)(y:Nat->Option Bool),o.guard=none->Region.wanted o y=true:=fun o y hg=>by unfold Region.wanted;rw [hg]
 unfold wpList
 rw [if_pos (wnt _ _ g35)]
 left
 obtain⟨H,hf⟩:∃H:AH,H=toH [.bx tT 1 [.view (vwA af.ac ns)],.bx tI 1 [.own 2],.rw ⟨3,1,vw ak E⟩]:=⟨_,rfl⟩
 rw [<-hf]at r
 have H1:H[1]? =some (.live ⟨tI,1,[[.own 2]]⟩):=by rw [hf];rfl
 have H0:H[0]? =some (.live ⟨tT,1,[[.view (vwA af.ac ns)]]⟩):=by rw [hf];rfl
 have H2:H[2]? =some (.live ⟨3,1,vw ak E⟩):=by rw [hf];rfl
 refine(iq (o:=o35) (K:=fun res h'=>res= .o 2/\h'=H) r.st.hp r.tm ?_).wp (fun v w1⟨res,h',m1,F1,⟨hres,hh'⟩,hG1,hs,hv⟩=> ?_)
 ·rw [e35]
  have ha:nG prog 24=some none:=by kernel_rfl
  simp only [opA,pop,ev,h5,ha,H1]
  exact⟨[.own 2],rfl,.own 2,rfl,rfl,by simp⟩
 subst hres hh'
 have r1:=r.nextG (o:=o35) (by unfold dR;rw [d35];rfl) hG1.1 hs hv
 have hB:a.tmps.size=40:=r.sz
 obtain⟨b,hb⟩:=nmE (a.put o35.dst v)
 have xj:b.tmps.getD 35 undef=v:=by rw [hb,dg,if_pos ⟨d35,by rw [hB];decide⟩]
 rw [<-hb]at r1⊢
 have h8:b.tmps.size=40:=r1.sz
 have h7:Am.dx F F1 w0 m0 h0:=r.grow (Am.dx.refl _ _ _ _) hG1
 clear hs r hb hB
 unfold wpList
 rw [if_pos (wnt _ _ g36)]
 left
 have hU:(execOp b.eval o36).run prog w1= .ok (.value (.iface 24 v)) w1:=by
  have hu:=run_makeInterface (P:=prog) w1 24 v (by kernel_rfl)
  simp [execOp,e36,Act.eval,xj,hu]
 refine(Yl.value hU (R:=fun u w2=>u= .iface 24 v/\w2=w1) ⟨rfl,rfl⟩).wp (fun u w2⟨hu,hw⟩=> ?_)
 subst hu hw
 have r2:=r1.next (o:=o36) (by unfold dR;rw [d36];rfl) (de.refl r1.st.hp) (res:= .t (.c .dead)) (v:= .iface 24 v) trivial
 obtain⟨c,hc⟩:∃c,c=b.put o36.dst (.iface 24 v):=⟨_,rfl⟩
 have hJ:c.tmps.getD 36 undef= .iface 24 v:=by rw [hc,dg,if_pos ⟨d36,by rw [h8];decide⟩]
 rw [<-hc]at r2⊢
 have h9:c.tmps.size=40:=r2.sz
 clear hc hU
 unfold wpList
 rw [if_pos (wnt _ _ g37)]
 left
 obtain⟨p2,hP⟩:=nmE (c.tmps.getD 2 undef)
 obtain⟨p5,hT⟩:=nmE (c.tmps.getD 5 undef)
 have hV:(execOp c.eval o37).run prog w2= .ok (.value (.func (.func 281) #[] #[p2,p5])) w2:=by
  simp [execOp,e37,Act.eval,<-hP,<-hT,Instr.makeFunc]
 refine(Yl.value hV (R:=fun u w3=>u= .func (.func 281) #[] #[p2,p5]/\w3=w2) ⟨rfl,rfl⟩).wp (fun u w3⟨hu,hw⟩=> ?_)
 subst hu hw
 have r3:=r2.next (o:=o37) (by unfold dR;rw [d37];rfl) (de.refl r2.st.hp) (res:= .t (.c .dead)) (v:= .func (.func 281) #[] #[p2,p5]) trivial
 obtain⟨e,he⟩:∃e,e=c.put o37.dst (.func (.func 281) #[] #[p2,p5]):=⟨_,rfl⟩
 have xk:e.tmps.getD 37 undef= .func (.func 281) #[] #[p2,p5]:=by rw [he,dg,if_pos ⟨d37,by rw [h9];decide⟩]
 have hJ:e.tmps.getD 36 undef= .iface 24 v:=by rw [he,dg,if_neg (by rw [d37];simp),hJ]
 rw [<-he]at r3⊢
 have t2:=r2.tm 2
 have t5:=r2.tm 5
 rw [<-hP]at t2
 rw [<-hT]at t5
 simp only [put,d36,d35,h2,h5,zqy,Nat.reduceEqDiff,if_false]at t2 t5
 have xl:e.tmps.size=40:=r3.sz
 clear he hV r2
 unfold wpList
 rw [if_pos (wnt _ _ g38)]
 left
 have hH:=r3.st.hp
 rcases t2 with hx|⟨ab,b0,cap0,h20',hm0,rfl⟩
 ·rw [H0]at hx;cases hx
 rw [H0]at h20';cases h20'
 rcases t5 with hx|⟨ab,b1,cap1,h21',hm1,rfl⟩
 ·rw [H1]at hx;cases hx
 rw [H1]at h21';cases h21'
 simp only [Nat.zero_mul,Nat.add_zero]at *
 have hm:∀{R:Value->World->Prop},Calls prog 280 #[.iface 24 v,.func (.func 281) #[] #[.pointer (some ⟨b0,0,none⟩),.pointer (some ⟨b1,0,none⟩)]] w3 (fun x w'=>x= .returned (.tuple #[])/\R (.tuple #[]) w')->Yl prog o38 e w3 R:=fun hR=>by
  unfold Yl
  rw [l5 e38 k38 (by kernel_rfl),a38]
  have:(#[Operand.tmp 36,Operand.tmp 37].map e.eval)= #[.iface 24 v,.func (.func 281) #[] #[.pointer (some ⟨b0,0,none⟩),.pointer (some ⟨b1,0,none⟩)]]:=by simp [Act.eval,hJ,xk]
  rw [this]
  exact hR.mono fun x w'⟨h1,h2⟩=>⟨_,h1,h2⟩
 have hG:∀(H':AH)(w':World),de F1 w3 m1 h' w' m1 H'->H'=toH [.bx tT 1 [.view (vwA af.ac ns)],.bx tI 1 [.own 2],.rw ⟨3,1,vw ak (jf (mO ns) E)⟩]->wpList prog #[o35,o36,o37,o38] (gP F w0 m0 h0 40 Q) [] (e.put o38.dst (.tuple #[])) w':=fun H' w' hs hF=>by
  subst hF
  have r4:=r3.next (o:=o38) (by unfold dR;rw [d38];rfl) hs (res:= .t (.c .dead)) (v:= .tuple #[]) trivial
  exact⟨_,_,_,F1,by simpa only [d35,d36,d37,d38,qX,oG]using hQ,h7,r4⟩
 refine(hm (R:=fun u w'=>u= .tuple #[]/\∃H',de F1 w3 m1 h' w' m1 H'/\H'=toH [.bx tT 1 [.view (vwA af.ac ns)],.bx tI 1 [.own 2],.rw ⟨3,1,vw ak (jf (mO ns) E)⟩]) ?_).wp (fun u w'⟨hu,H',hs,hF⟩=>by subst hu;exact hG H' w' hs hF)
 rcases hv with hx|⟨ab,hab,hv⟩
 ·rw [H2]at hx;cases hx
 rw [H2]at hab;cases hab
 simp only [ao]at hv
 by_cases hE1:E.length<=1
 ·have xg:jf (mO ns) E=E:=by
   match E,hE1 with
   | [],_=>rfl
   | [x],_=>rfl
  obtain⟨p,cc,rfl⟩:∃p cc,v= .slice p E.length cc:=by
   rcases hv with⟨bb,cc,_,rfl⟩|⟨_,h0,rfl⟩
   ·exact⟨_,_,rfl⟩
   ·exact⟨none,0,by rw [h0]⟩
  refine(vM (w:=w3) hE1 _ _ _).mono ?_
  rintro x w' ⟨rfl,os,rfl⟩
  refine⟨rfl,rfl,h',oA (de.refl hH) rfl rfl rfl (by simp) (fun b hb=> ?_),by rw [xg,hf]⟩
  simp only [grow,Array.getElem?_append,hb,if_true]
 have hY:2<=E.length:=by omega
 obtain⟨b2,cap,hk,rfl⟩:∃b2 cap,m1[2]? =some (some (b2,cap))/\v= .slice (some ⟨b2,0,none⟩) E.length cap:=by
  rcases hv with⟨bb,cc,h1,h2⟩|⟨_,h0,_⟩
  ·exact⟨bb,cc,h1,h2⟩
  ·omega
 obtain⟨_,h6,cur,hn,xc,hM,xa,hL⟩:=hH.get H2 H2 hk
 simp only [Nat.mul_one,ao]at xc hM hL
 obtain⟨_,h4,hX,hz,_,_,_,hD⟩:=hH.get H1 H1 hm1
 obtain⟨_,hZ,hW,hy,_,_,_,hC⟩:=hH.get H0 H0 hm0
 have l2:=(hH.lt H2 hk).2
 have l1:=(hH.lt H1 hm1).2
 have l0:=(hH.lt H0 hm0).2
 have xi:b1≠b2:=fun h=>by subst h;have:=hH.inj 1 2 _ _ _ _ _ H1 H2 hm1 hk;cases this
 have xh:b0≠b2:=fun h=>by subst h;have:=hH.inj 0 2 _ _ _ _ _ H0 H2 hm0 hk;cases this
 have hK:Holds (Value.int .i64) w3 b2 0 E.toArray:=fun j hj=>by
  have hO:j<E.length:=by simpa using hj
  obtain⟨_,hq⟩:=hL j _ (bv (c:=ak) (yH hO))
  obtain⟨u,hu,_,hr⟩:=hq 0 _ rfl
  have xf:u= .int .i64 E[j]! :=hr
  subst xf
  refine⟨?_,?_⟩
  ·simp only [World.cell?,hn]
   simpa [getElem!_pos E j hO]using hu
  ·simp [World.frozen?,hn]
 have xb:w3.cell? ⟨b1,0,none⟩=some (.slice (some ⟨b2,0,none⟩) E.length cap):=by
  obtain⟨_,hq⟩:=hD 0 _ rfl
  obtain⟨u,hu,_,hr⟩:=hq 0 _ rfl
  rcases hr with hx|⟨ab,hab,hr⟩
  ·rw [H2]at hx;cases hx
  rw [H2]at hab;cases hab
  simp only [ao,hk,zqy,Prod.mk.injEq]at hr
  rcases hr with⟨bb,cc,⟨rfl,rfl⟩,rfl⟩|⟨hx,_⟩
  ·simp only [World.cell?,hz]
   simpa using hu
  ·cases hx
 have xd:RPL F1 w3 b0 0 [.view (vwA af.ac ns)]:=by
  obtain⟨_,hq⟩:=hC 0 _ rfl
  obtain⟨u,hu,ho,hr⟩:=hq 0 _ rfl
  refine RPL.mk fun t c ht=> ?_
  obtain rfl:t=0:=by
   have:=(List.getElem?_eq_some_iff.1 ht).1
   simp at this;omega
  obtain rfl:=Option.some.inj ht.symm
  exact⟨u,by simp only [World.cell?,hy];simpa using hu,ho,hr⟩
 have hA:=rf (P:=prog) (g:=281) (f:=mO ns) (p:=fun k=>isN ns k=true) (cs:=[.view (vwA af.ac ns)]) (n:=E.length) (fun dk i j hd hp hi hj=>uP ns dk hl hp i j (by omega) (by omega)) hH.old h6 l2 l1 l0 xi xh xb hM xa xd (d:=E.toArray) (by simp) hK
 have hs:=xF (w:=w3) (g:=281) (blk:=b2) (c:=cap) (lb:= #[.pointer (some ⟨b0,0,none⟩),.pointer (some ⟨b1,0,none⟩)]) (d:=E.toArray) (mO ns) (fun k=>isN ns k=true) (enters_of func281 (by kernel_rfl) rfl) (by simpa using hY) (by simpa using h20) (by simpa using hA) (fun i hi=>hE _ (by
  have hI:i<E.length:=by simpa using hi
  have:=zqd (yH hI)
  simp [getElem!_pos E i hI,hI])) hK l2
 simp only [List.size_toArray]at hs
 refine hs.mono ?_
 rintro x w' ⟨rfl,hS⟩
 have hB:(Sort.insertionSort (ltF (mO ns)) E.toArray 0 E.length).size=E.length:=by
  have:=congrArg List.length (qL (mO ns) E)
  have h3:=mt (mO ns) E
  unfold jf at h3
  rw [h3]at this
  simpa using this
 refine⟨rfl,rfl,_,rX hH H2 hk hB hS,?_⟩
 have:=qL (mO ns) E
 simp only [List.size_toArray]at this
 rw [this,hf]
 rfl
end Go.Proofs.YtckchgoblpgpbaaGreat
namespace Go.Proofs.YtckchgoblpgpbaaGreat
open Go.Shelf Go.RowKit Go.Lib Go.Sort Am Go.Proofs.Tryz
set_option maxRecDepth 100000
theorem nh(ns:List af)(n:Int)(nd:af)(hl:ns.length<=1048576)(h1:1<=n)(h2:n<=1048576)(hx:ns[(n-1).toNat]? =some nd)(hkl:nd.kids.length<20)(hk:∀k∈nd.kids,isN ns k=true):cj prog 230 [.agg [.view (vwA af.ac ns)],ai n] fun res hf=>res= .o 0/\hf=[⟨3,1,vw ak (jf (mO ns) (nd.kids.filter (n7 ns)))⟩]:=by
 obtain⟨V,hV⟩:=nmE (vwA af.ac ns)
 obtain⟨K,hK⟩:=nmE (vw ak nd.kids)
 obtain⟨Rt,hp⟩:=nmE (vw aK.c nd.table.rules)
 have xD:aC K=(nd.kids.length:Int):=by rw [ar,hK,ao]
 have xB:0<=aC K:=by omega
 have xC:aC K<=1048576:=by omega
 have ht:∀z:Int,(vw ak ((nd.kids.take z.toNat).filter (n7 ns))).length<=1048576:=fun z=>by
  rw [ao]
  have:=List.length_filter_le (n7 ns) (nd.kids.take z.toNat)
  simp only [List.length_take]at this
  omega
 have hm:∀(z:Int)(k:Int),0<=z->nd.kids[z.toNat]? =some k->vw ak ((nd.kids.take (z+1).toNat).filter (n7 ns))=vw ak ((nd.kids.take z.toNat).filter (n7 ns))++(if n7 ns k then [[.J k]]else []):=fun z k h0 hz=>by
  rw [rV h0 hz,sO]
  congr 1
  cases n7 ns k<;>rfl
 have cn:=aR ns n nd h1 h2 hx V K Rt hV hK hp
 rw [<-hV]
 refine gk ([(9,.hand)]) ([]) (c:=aM f230) aB func230 (by kernel_rfl) (by kernel_rfl) (by rfl) (by kernel_rfl) fun g xA hd F ha hj hg hF=> ?_
 cbv
 (first|refine ad hg cn ?_|refine aa hg cn ?_)
 cbv
 have hb:nd.kids.length<=1048576:=by omega
 refine mc ([(9,.hand)]) ([]) ha hj hg aB (by kernel_rfl) K (fun x=>lc (ak x)) nd.kids hK hb (fun z(s:LLA×List Int)=>[(2,.p 0),(5,.p 1),(12,.v K),(13,.i (g .ln K)),(14,.i (z))]) (fun z(s:LLA×List Int)=>[.bx 28 1 [.view V],.bx 24 1 [.own 2],.rw ⟨3,1,s.1⟩]) (fun z(s:LLA×List Int)=>s.1=vw ak s.2/\(s.2.length:Int)<=z) (fun(s:LLA×List Int) rest=>s.2++rest.filter (n7 ns)) (nd.kids.filter (n7 ns)) ([],[]) rfl ⟨rfl,by simp⟩ (Wk.weak (wkG [some 0,some 1,none] zr5 ⟨wqE rfl rfl,⟨_,_,rfl,rfl,rfl,rfl,.inr ⟨zr1,trivial⟩⟩,⟨_,rfl,rfl⟩,trivial⟩ (by decide) aw)) (fun z s B hz h0 hi he=> ?_) (fun z s x rest B z0 z1 z2 hx hy h0 hi hc e1 hB=> ?_)
 ·obtain⟨es,ks⟩:=s
  obtain⟨k1,k2⟩:=hi
  dsimp only at k1 k2 h0
  simp only [List.filter_nil,List.append_nil]at h0
  rw [h0]at k1
  cbv;rw [he];cbv
  rw [hj,hV]
  show VC _ _ _ (.region _ _ _) (QE _) (lkT _) (toH _)
  apply zU (ns:=ns) (E:=nd.kids.filter (n7 ns)) (hl:=hl) (tT:=28) (tI:=24)
  case hcd=>rfl
  case hN=>rfl
  case hhh=>rw [k1]
  case hE=>exact fun k hs=>hk k (List.mem_filter.1 hs).1
  case h20=>exact Nat.lt_of_le_of_lt (List.length_filter_le _ _) hkl
  any_goals rfl
  refine⟨_,_,rfl,rfl,?_⟩
  obtain⟨G,hG⟩:=nmE (vw ak (jf (mO ns) (nd.kids.filter (n7 ns))))
  have pG:=pmV hG
  rw [<-hG]at hF⊢
  cbv
  exact db hF rfl pG
 obtain⟨es,ks⟩:=s
 obtain⟨k1,k2⟩:=hi
 dsimp only at k1 k2 h0
 have hr:=hk x (zqd hx)
 obtain⟨q1,q2,y,hn⟩:=aI hr
 have hh:n7 ns x=(!y.style.hidden&& !y.style.apart):=by unfold n7;rw [hn]
 rw [List.filter_cons,hh]at h0
 clear hh
 have pE:=pmV k1
 have xE:es.length<=1048576:=by rw [k1,ao];omega
 obtain⟨Ky,ho⟩:=nmE (vw ak y.kids)
 obtain⟨Ry,hq⟩:=nmE (vw aK.c y.table.rules)
 have cy:=aR ns x y q1 (by omega) hn V Ky Ry hV ho hq
 obtain⟨c0,c1,⟨c2,c3,c4,c5,c6,c7,c8,c9,hv,hw,hA,⟨hC,hD⟩,⟨hH,hI⟩,⟨hJ,hL⟩,⟨hM,hO⟩,⟨hP,hQ⟩,⟨hR,hS⟩,⟨hT,hU⟩,hW,⟨⟨hX,hY⟩,⟨hZ,h3⟩,⟨h4,h5⟩,⟨h6,h7⟩,⟨h8,h9⟩,⟨xa,xb⟩⟩,⟨⟨xc,xd⟩,⟨xe,xf⟩,⟨xg,xh⟩,⟨xi,xj⟩,⟨xk,xl⟩,⟨xm,xn⟩⟩,⟨xo,xp,xq,xr⟩,⟨xs,xt,xu,xv⟩,xw,xx⟩,xy,⟨xz⟩⟩:=y
 replace h0:ks++(if(!c9&& !c8)=true then x::rest.filter (n7 ns)else rest.filter (n7 ns))=nd.kids.filter (n7 ns):=h0
 cbv;rw [hc];cbv;refine goX hg _ z0 hy rfl ?_;cbv
 (first|refine ad hg cy ?_|refine aa hg cy ?_)
 cbv
 cases c9<;>cases c8<;>cbv
 case false.false=>
  refine fR hg rfl (by decide) (by omega) ?_
  cbv
  rw [e1,ig hg]
  have hu:aO (es++[[.J x]])=true:=by
   have:es++[[.J x]]=vw ak (ks++[x]):=by rw [k1,sO];rfl
   rw [this];exact aF _ _
  exact hB ((es++[[.J x]],ks++[x])) _ _ ⟨by simpa using h0,⟨by rw [k1,sO];rfl,by simp;omega⟩⟩ (Wk.weak (wkG [some 0,some 1,some 5] zr5 ⟨wqE rfl rfl,⟨_,_,rfl,rfl,rfl,rfl,.inr ⟨zr1,trivial⟩⟩,wqE rfl hu,trivial⟩ (by decide) aw))
 all_goals
  rw [e1]
  exact hB ((es,ks)) _ _ ⟨by simpa using h0,⟨k1,by simp only;omega⟩⟩ (Wk.weak (wkG [some 0,some 1,some 2] zr5 ⟨wqE rfl rfl,⟨_,_,rfl,rfl,rfl,rfl,.inr ⟨zr1,trivial⟩⟩,wqE rfl pE,trivial⟩ (by decide) aw))
section
variable {P:Program}{n0 N:Nat}{g:Gd}
end
end Go.Proofs.YtckchgoblpgpbaaGreat
namespace Go.Proofs.YtckchgoblpgpbaaGreat
open Go.ChangeShapes Go.WideShapes Go.ChangeAt Go.RowKit Am Go.Proofs.Tryz
set_option maxRecDepth 100000
def plL(n:Int)(s:ah)(wd hg:aG)(row:Bool)(iw ih al ac:aG)(K:AC):List AC:= .J n::(lc (ah.c s)++[.J wd.mode,.J wd.n,.J hg.mode,.J hg.n,.B row,.J iw.mode,.J iw.n,.J ih.mode,.J ih.n,.J al.mode,.J al.n,.J ac.mode,.J ac.n,K])
def inW(s:ah)(w:aG):aG:=uJ w (yo s true)
def inH(s:ah)(h:aG):aG:=uJ h (yo s false)
def sdM(s:ah)(rtl main:Bool):Int×Int:=if main then(sd1 (kR s) (lK s rtl),sd2 (kR s) (lK s rtl))else(sd1 (!kR s) (lX s rtl),sd2 (!kR s) (lX s rtl))
def sdB(s k:ah)(rtl main:Bool)(base:Int):av:=⟨0,ir k.margin (sdM s rtl main).1 rtl base,ir k.margin (sdM s rtl main).2 rtl base,ua k.margin (sdM s rtl main).1 rtl,ua k.margin (sdM s rtl main).2 rtl,0,0⟩
theorem ef(V:LLA)(rtl:Bool)(n:Int)(s k:ah)(wd hg2:aG)(row:Bool)(iw ih al ac:aG)(K:LLA)(p q:Int):PC0 234 [.agg [.view V,.B rtl,.imm (.pointer none)],.agg (plL n s wd hg2 row iw ih al ac (.view K)),.agg (lc (ah.c k)),ai p,ai q] (.tup [ai (ir k.margin p rtl (knS iw)),ai (ir k.margin q rtl (knS iw))]):=by
 have ck:=dp iw.mode iw.n
 have m1:=ej k.margin p rtl (knS iw)
 have m2:=ej k.margin q rtl (knS iw)
 obtain⟨B,hB⟩:=nmE (knS iw)
 change PC0 _ _ (.i (knS iw))at ck
 rw [<-hB]at ck m1 m2⊢
 obtain⟨M1,ha⟩:=nmE (ir k.margin p rtl B)
 obtain⟨M2,hb⟩:=nmE (ir k.margin q rtl B)
 rw [<-ha]at m1⊢
 rw [<-hb]at m2⊢
 clear ha hb hB
 refine ae (aM f234) aB func234 fun g F hg hF=> ?_
 cbv
 repeat'((first|refine ad hg ck ?_|refine aa hg m1 ?_|refine aa hg m2 ?_);cbv)
 refine mh hF ?_ ?_<;>first|rfl|exact⟨rfl,rfl⟩
def Ds(s k:ah)(rtl row:Bool)(ac:aG)(kn:Int):aG:=
 let sd:=sdB s k rtl false kn
 let b:=wrap64 (sd.before+sd.behind)
 if rz k (!row) (knS ac)≠ -1 then⟨3,kF k (!row) (knS ac) (rz k (!row) (knS ac))⟩
 else if zy {sd with align:=Bo s k}=true/\s.wrap=1/\ac.mode=3 then⟨3,kF k (!row) (knS ac) (wrap64 (ac.n-b))⟩
 else BE (uJ ac b)
theorem p9(ns:List af)(n:Int)(x:af)(hl:ns.length<=1048576)(h1:1<=n)(h2:n<=1048576)(hx:ns[(n-1).toNat]? =some x)(hkl:x.kids.length<20)(hk:∀k∈x.kids,isN ns k=true)(rtl:Bool)(a b c d:Int):PC0 169 [.agg [.view (vwA af.ac ns),.B rtl,.imm (.pointer none)],ai n,agP ⟨a,b⟩,agP ⟨c,d⟩] (.t (.agg (plL n x.style ⟨a,b⟩ ⟨c,d⟩ (kR x.style) (inW x.style ⟨a,b⟩) (inH x.style ⟨c,d⟩) (if kR x.style then inW x.style ⟨a,b⟩else inH x.style ⟨c,d⟩) (if kR x.style then inH x.style ⟨c,d⟩else inW x.style ⟨a,b⟩) (.view (vw ak (jf (mO ns) (x.kids.filter (n7 ns)))))))):=by
 have cF:=nh ns n x hl h1 h2 hx hkl hk
 obtain⟨V,hV⟩:=nmE (vwA af.ac ns)
 obtain⟨K,hK⟩:=nmE (vw ak x.kids)
 obtain⟨R,hR⟩:=nmE (vw aK.c x.table.rules)
 obtain⟨G,hG⟩:=nmE (vw ak (jf (mO ns) (x.kids.filter (n7 ns))))
 have pG:=pmV hG
 have iG:=imV hG
 have kG:=kmV (k:=1) hG fun _=>rfl
 have dG:=dmV hG
 have cn:=aR ns n x h1 (by omega) hx V K R hV hK hR
 have cr:=fj x.style
 have cf:=dr x.style
 obtain⟨e1,e2,e3,e4,hE⟩:∃e1 e2 e3 e4,(⟨e1,e2,e3,e4⟩:dI)=kz x.style:=⟨_,_,_,_,rfl⟩
 rw [<-hE]at cf
 have f1:=dh e1 e2 e3 e4
 have f2:=dl e1 e2 e3 e4
 obtain⟨F1,ha⟩:=nmE (yo x.style true)
 obtain⟨F2,hb⟩:=nmE (yo x.style false)
 have z1:adE e1 e3=F1:=by rw [ha];simp only [yo,<-hE,if_true]
 have z2:adE e2 e4=F2:=by rw [hb];simp only [yo,<-hE,if_false,Bool.false_eq_true]
 rw [z1]at f1
 rw [z2]at f2
 have i1:=dq a b F1
 have i2:=dq c d F2
 obtain⟨w1,w2,hW⟩:∃w1 w2,(⟨w1,w2⟩:aG)=inW x.style ⟨a,b⟩:=⟨_,_,rfl⟩
 obtain⟨q1,q2,hH⟩:∃q1 q2,(⟨q1,q2⟩:aG)=inH x.style ⟨c,d⟩:=⟨_,_,rfl⟩
 have y1:uJ ⟨a,b⟩ F1=⟨w1,w2⟩:=by rw [ha];exact hW.symm
 have y2:uJ ⟨c,d⟩ F2=⟨q1,q2⟩:=by rw [hb];exact hH.symm
 rw [y1]at i1
 rw [y2]at i2
 rw [<-hV,<-hG]at cF
 rw [<-hV,<-hG,<-hW,<-hH]
 clear ha hb z1 z2 y1 y2 hW hH
 cases hr:kR x.style
 all_goals
  rw [hr]at cr
  simp only [if_true,if_false,Bool.false_eq_true]
  refine ae (aM f169) aB func169 fun g F hg hF=> ?_
  cbv
  repeat'((first|refine ad hg cn ?_|refine aa hg cr ?_|refine aa hg cf ?_|refine aa hg f1 ?_|refine aa hg f2 ?_|refine aa hg i1 ?_|refine aa hg i2 ?_|refine dS hg cF (bK rfl) iG ?_);cbv)
  refine CR [.agg (plL n x.style _ _ _ _ _ _ _ (.view G))] hF (.agg (by repeat'(first|exact .nil|exact .imm _|exact bC (ab:=⟨_,_,G⟩) rfl kG dG|refine .cons ?_ ?_)) .nil) ⟨rfl,rfl⟩
theorem gQ(ns:List af)(hl:ns.length<=1048576)(kid:Int)(y:af)(h1:isN ns kid=true)(hy:ns[(kid-1).toNat]? =some y)(rtl:Bool)(n:Int)(s:ah)(wd hgh:aG)(row:Bool)(iw ih al ac:aG)(K:LLA):PC0 240 [.agg [.view (vwA af.ac ns),.B rtl,.imm (.pointer none)],.agg (plL n s wd hgh row iw ih al ac (.view K)),ai kid] (.t (agP (Ds s y.style rtl row ac (knS iw)))):=by
 obtain⟨Ky,hu⟩:=nmE (vw ak y.kids)
 obtain⟨Ry,hv⟩:=nmE (vw aK.c y.table.rules)
 have b2:=aI h1
 obtain⟨V,hV⟩:=nmE (vwA af.ac ns)
 have cy:=aR ns kid y b2.1 (by have:=b2.2.1;omega) hy V Ky Ry hV hu hv
 have ck:=dp ac.mode ac.n
 change PC0 _ _ (.i (knS ac))at ck
 have cf:=bL y.style (!row) (knS ac)
 have cb:=fun z=>bq y.style (!row) (knS ac) z
 have cx:=fun z=>bE z
 have cs:=gp s rtl
 have cm:=fun p q=>ef V rtl n s y.style wd hgh row iw ih al ac K p q
 have ca:=jy s y.style
 have ci:=fun z=>dq ac.mode ac.n z
 have cL:=iI
 obtain⟨R,hR⟩:=nmE (Ds s y.style rtl row ac (knS iw))
 rw [<-hV,<-hR]
 unfold Ds sdB at hR
 simp only [sdM,Bool.false_eq_true,if_false,zy]at hR
 obtain⟨p,hp⟩:=nmE (sd1 (!kR s) (lX s rtl))
 obtain⟨q,hq⟩:=nmE (sd2 (!kR s) (lX s rtl))
 rw [<-hp,<-hq]at cs hR
 clear hp hq
 have cm:=cm p q
 have c1:=da y.style.margin p rtl
 have c2:=da y.style.margin q rtl
 obtain⟨M1,hr⟩:=nmE (ir y.style.margin p rtl (knS iw))
 obtain⟨M2,hs⟩:=nmE (ir y.style.margin q rtl (knS iw))
 obtain⟨A1,hk⟩:=nmE (ua y.style.margin p rtl)
 obtain⟨A2,hm⟩:=nmE (ua y.style.margin q rtl)
 rw [<-hr,<-hs]at cm hR
 rw [<-hk]at c1 hR
 rw [<-hm]at c2 hR
 clear hr hs hk hm
 obtain⟨am,an⟩:=ac
 obtain⟨KN,he⟩:=nmE (knS ⟨am,an⟩)
 rw [<-he]at ck cf hR
 simp only [<-he]at cb
 obtain⟨FX,ho⟩:=nmE (rz y.style (!row) KN)
 rw [<-ho]at cf hR
 obtain⟨AL,hn⟩:=nmE (Bo s y.style)
 rw [<-hn]at ca hR
 clear hn ho he
 obtain⟨BB,hd⟩:=nmE (wrap64 (M1+M2))
 rw [<-hd]at hR
 have ci:=ci BB
 change PC0 _ _ (.t (agP (uJ ⟨am,an⟩ BB)))at ci
 obtain⟨i1,i2,hI⟩:∃i1 i2,(⟨i1,i2⟩:aG)=uJ ⟨am,an⟩ BB:=⟨_,_,rfl⟩
 rw [<-hI]at ci hR
 clear hI
 have cL:=cL i1 i2
 obtain⟨l1,l2,hL⟩:∃j1 j2,(⟨j1,j2⟩:aG)=BE ⟨i1,i2⟩:=⟨_,_,rfl⟩
 rw [<-hL]at cL hR
 clear hL
 obtain⟨ZZ,hf⟩:=nmE (wrap64 (an-BB))
 have ha:=cb FX
 have hi:=cb ZZ
 obtain⟨B1,hb⟩:=nmE (kF y.style (!row) KN FX)
 obtain⟨B2,hc⟩:=nmE (kF y.style (!row) KN ZZ)
 rw [<-hf,<-hb,<-hc]at hR
 rw [<-hb]at ha
 rw [<-hc]at hi
 clear hb hc cb
 have hj:=cx B1
 have ht:=cx B2
 obtain⟨wr,hh⟩:=nmE s.wrap
 rw [<-hh]at hR
 by_cases q1:FX= -1
 ·simp only [q1,ne_eq,not_true_eq_false,if_false]at hR
  subst q1
  have t1:∀g:Gd,g=G0 prog 0 f240.ntmps->g .q .neq (-1) (-1)=false:=fun g hg=>by rw [d5 hg];rfl
  have t2:∀g:Gd,g=G0 prog 0 f240.ntmps->g .q .eql s.wrap 1=decide (wr=1):=fun g hg=>by rw [bA hg,hh];exact zqn _ _
  have t3:∀g:Gd,g=G0 prog 0 f240.ntmps->g .q .eql am 3=decide (am=3):=fun g hg=>by rw [bA hg];exact zqn _ _
  have t4:∀g:Gd,g=G0 prog 0 f240.ntmps->g .w .sub .i64 an BB=ZZ:=fun g hg=>by rw [dP hg,hf]
  have t5:∀g:Gd,g=G0 prog 0 f240.ntmps->g .q .eql AL 1=decide (AL=1):=fun g hg=>by rw [bA hg];exact zqn _ _
  have t6:∀g:Gd,g=G0 prog 0 f240.ntmps->g .w .add .i64 M1 M2=BB:=fun g hg=>by rw [aJ hg,hd]
  clear hh hf hd
  cases A1<;>cases A2<;>by_cases q0:AL=1
  by_cases q2:wr=1
  by_cases q3:am=3
  all_goals
   (try simp only [q2]at hR)
   (try simp only [q3]at hR)
   simp only [q0,decide_true,decide_false,Bool.not_false,Bool.not_true,Bool.and_self,Bool.and_true,Bool.true_and,Bool.and_false,Bool.false_and,Bool.false_eq_true,and_self,and_true,true_and,and_false,false_and,if_true,if_false]at hR
   rw [hR]
   clear hR
   refine ae (aM f240) aB func240 fun g F hg hF=> ?_
   have t1:=t1 g hg
   have t2:=t2 g hg
   have t3:=t3 g hg
   have t4:=t4 g hg
   have t5:=t5 g hg
   have t6:=t6 g hg
   (try first|rw [zqu q2]at t2|rw [zqt q2]at t2)
   (try first|rw [zqu q3]at t3|rw [zqt q3]at t3)
   first|rw [zqu q0]at t5|rw [zqt q0]at t5
   cbv
   repeat'(first|((first|refine ad hg cy ?_|refine ad hg ck ?_|refine ad hg cf ?_|rw [t1]|refine ad hg cs ?_|refine ad hg cm ?_|refine ad hg c1 ?_|refine ad hg c2 ?_|refine ad hg ca ?_|rw [t5]|rw [t2]|rw [t3]);cbv)|(rw [t6];first|rw [t4]|skip)|((first|refine ad hg hi ?_|refine ad hg ht ?_|refine ad hg ci ?_|refine ad hg cL ?_);cbv))
   exact sw hF ⟨rfl,rfl⟩
 ·simp only [q1,ne_eq,not_false_eq_true,if_true]at hR
  rw [hR]
  clear hR
  refine ae (aM f240) aB func240 fun g F hg hF=> ?_
  have t1:g .q .neq FX (-1)=true:=by rw [d5 hg];simp [q1]
  cbv
  repeat'((first|refine ad hg cy ?_|refine ad hg ck ?_|refine ad hg cf ?_);cbv)
  rw [t1]
  cbv
  repeat'((first|refine ad hg ha ?_|refine ad hg hj ?_);cbv)
  exact sw hF ⟨rfl,rfl⟩
def flK(ns:List af)(n:Int):List Int:=jf (mO ns) ((fD ns n).filter (n7 ns))
theorem C2(xs:List Int)(n:Int):0<=cnt xs n/\(n∈xs->1<=cnt xs n):=by
 induction xs with
 |nil=>simp [cnt]
 |cons x xs ih=>
  have e:cnt (x::xs) n=(if x=n then 1 else 0)+cnt xs n:=by simp [cnt]
  rw [e]
  obtain⟨i1,i2⟩:=ih
  by_cases hx:x=n
  ·rw [if_pos hx];exact⟨by omega,fun _=>by omega⟩
  ·rw [if_neg hx]
   refine⟨by omega,fun h=> ?_⟩
   rcases List.mem_cons.1 h with h|h
   ·exact absurd h.symm hx
   ·have:=i2 h;omega
theorem rd:∀(xs:List Int),(∀k∈xs,cnt xs k=1)->xs.Nodup
 | [],_=>List.nodup_nil
 |x::xs,h=>by
  have e:∀n,cnt (x::xs) n=(if x=n then 1 else 0)+cnt xs n:=fun n=>by simp [cnt]
  have hx:x∉xs:=fun hm=>by
   have h1:=h x (List.mem_cons_self ..)
   rw [e,if_pos rfl]at h1
   have:=(C2 xs x).2 hm
   omega
  refine List.nodup_cons.2 ⟨hx,rd xs fun k hk=> ?_⟩
  have h1:=h k (List.mem_cons_of_mem _ hk)
  rw [e,if_neg (fun hxk:x=k=>hx (by rw [hxk];exact hk))]at h1
  omega
theorem zf:∀(M:Nat)(xs:List Int),xs.Nodup->(∀k∈xs,1<=k/\k<=(M:Int))->xs.length<=M
 |0,xs,_,h=>by
  cases xs with
  |nil=>simp
  |cons x xs=>have:=h x (List.mem_cons_self ..);omega
 |M+1,xs,hn,h=>by
  have h1:=zf M (xs.erase ((M:Int)+1)) (hn.erase _) (fun k hk=>by
   have ha:=(hn.mem_erase_iff).1 hk
   have:=h k ha.2
   have hb:=ha.1
   omega)
  by_cases hm:(M:Int)+1∈xs
  ·have h2:=List.length_erase_of_mem hm
   have:=List.length_pos_of_mem hm
   omega
  ·rw [List.erase_of_not_mem hm]at h1;omega
variable {ns:List af}
theorem xy(h:aV ns=true):ns.length<=12:=by
 simp only [aV,zqs,zqp]at h
 omega
theorem pi(h:aV ns=true){n:Int}{x:af}(h1:1<=n)(hx:ns[(n-1).toNat]? =some x):x.kids.length<=12:=by
 have hk:=fM h h1 hx
 have hl:=xy h
 have h2:∀k∈x.kids,upN ns k=n:=fun k ha=>by
  have h3:=h
  simp only [aV,zqs]at h3
  have:=(eJ ns ns 0).1 h3.2 _ x hx
  simp only [bP,zqs,zqf,dY,zqp]at this
  have:=(this.2.2.2.1 k ha).2
  omega
 have hb:x.kids.Nodup:=rd _ fun k ha=>by
  obtain⟨k1,k2,y,hy⟩:=aI (hk k ha)
  have h3:=h
  simp only [aV,zqs]at h3
  have h4:=(eJ ns ns 0).1 h3.2 _ y hy
  simp only [bP,zqs,uk,Bool.or_eq_true,zqp]at h4
  have hu:y.up=n:=by have:=h2 k ha;unfold upN at this;rw [hy]at this;exact this
  have h5:=h4.2.2.1
  rw [hu]at h5
  have h6:fD ns n=x.kids:=by simp only [fD,hx]
  rw [h6,show(0:Int)+(((k-1).toNat:Nat):Int)+1=k by omega]at h5
  rcases h5 with h5|h5
  ·omega
  ·exact h5
 have:=zf 12 x.kids hb fun k ha=>by
  obtain⟨k1,k2,y,hy⟩:=aI (hk k ha)
  omega
 exact this
end Go.Proofs.YtckchgoblpgpbaaGreat
