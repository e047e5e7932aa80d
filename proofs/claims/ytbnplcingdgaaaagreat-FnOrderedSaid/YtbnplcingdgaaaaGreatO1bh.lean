/- Trees as a law makes them, and what the boxes are that come of them: plain law. -/
import Derived.Test.YtbnplcingdgaaaaGreatO1bg
set_option linter.unusedVariables false
set_option linter.unusedSimpArgs false
set_option maxHeartbeats 16000000
namespace Go.Proofs.YtbnplcingdgaaaaGreat
open Go.ChangeShapes Go.WideShapes Go.ChangeAt Go.RowKit Am Go.Proofs.Tryz
set_option maxRecDepth 100000
theorem vh{g:Gd}(hg:g= @G0 bp0 prog 0 f37.ntmps){Q:Exit->List (Nat×AV)->EH->Prop}(V:LLA)(rtl:Bool)(n:Int)(s0:ah)(row:Bool)(iw ih al ac:aF)(w0 w1 h0' h1':Int)(K:LLA)(IN AC':Int)(vI vL vZ vS vC vT:LLA)(fl ft fr fb:Int)(kids:List Int)(hK:K=vw aj kids)(hkl:kids.length<=1048576)(I:List ag)(hvI:vI=vw ag.c I)(hIl:I.length=kids.length)(ZZ CC ST:List Int)(S1:List aq)(hvZ:vZ=vw aj ZZ)(hvC:vC=vw aj CC)(hvT:vT=vw aj ST)(hvS:vS=vw aq.c S1)(hTl:ST.length<=1048576)
  (hzl:ZZ.length=kids.length) (hsl:S1.length=kids.length) (hf:lv s0=⟨fl,ft,fr,fb⟩) (LL:List (List Int)) (hH:vL=vwA lnA LL) (hLl:LL.length<=1048576) (hcl:CC.length=LL.length) (hfl:LL.flatten=ixs 0 kids.length)
  (E:LLA) (hE:E=vw aD.c (List.replicate kids.length ⟨0,0,0,0,0⟩))
  (hQ:∀(z:Int)(E:LLA),E=vw aD.c (v8 ⟨s0,row,⟨w0,w1⟩,⟨h0',h1'⟩,iw,ih,al,ac,kids⟩ rtl I IN AC' ZZ S1 ST 0 (LL.zip CC))->Q (.exit 4) [(213,.t (abl (false))),(4,.p 0),(6,.p 1),(7,.p 2),(8,.p 3),(9,.p 4),(11,.v vI),(12,.v vL),(13,.i (IN)),(14,.v vZ),(15,.v vS),(16,.v vC),(18,.i (AC')),(20,.v vT),(28,.p 5),(29,.o 6),(210,.v vL),(211,.i (g .ln vL)),(212,.i (z))] [.bx 70 3 (jm V rtl),.bx 44 2 [.J w0,.J w1],.bx 44 2 [.J h0',.J h1'],.bx 47 4 [.J 0,.J 0,.J 0,.N],.bx 98 75 (plL n s0 ⟨w0,w1⟩ ⟨h0',h1'⟩ row iw ih al ac (.view K)),.bx 32 4 [.J fl,.J ft,.J fr,.J fb],.rw ⟨50,5,E⟩]):
  g .L (m8 (aM f37) 2) Q [(4,.p 0),(6,.p 1),(7,.p 2),(8,.p 3),(9,.p 4),(11,.v vI),(12,.v vL),(13,.i (IN)),(14,.v vZ),(15,.v vS),(16,.v vC),(18,.i (AC')),(20,.v vT),(28,.p 5),(29,.o 6),(210,.v vL),(211,.i (g .ln vL)),(212,.i (0))] [.bx 70 3 (jm V rtl),.bx 44 2 [.J w0,.J w1],.bx 44 2 [.J h0',.J h1'],.bx 47 4 [.J 0,.J 0,.J 0,.N],.bx 98 75 (plL n s0 ⟨w0,w1⟩ ⟨h0',h1'⟩ row iw ih al ac (.view K)),.bx 32 4 [.J fl,.J ft,.J fr,.J fb],.rw ⟨50,5,E⟩]:=by
 have hI:vL=(LL.zip CC).map (fun t=>lnA t.1):=by rw [hH];exact oc hcl
 have hJ:(LL.zip CC).map (·.1)=LL:=ff hcl
 have ho:(LL.zip CC).length<=1048576:=by rw [zqB];exact Nat.le_trans (Nat.min_le_left ..) hLl
 have hu:=fun{i t} h=>tX (a:=LL) (b:=CC) (i:=i) (t:=t) h
 have hU:∀l∈LL,∀i∈l,0<=i/\i<(kids.length:Int):=fun l hl i hi=>by
  have:i∈LL.flatten:=List.mem_flatten.2 ⟨l,hl,hi⟩
  rw [hfl,rg]at this
  omega
 obtain⟨qs,hC⟩:=nmE (LL.zip CC)
 rw [<-hC]at hI hJ ho hQ
 simp only [<-hC]at hu
 have hS:(qs.map (·.1)).flatten=ixs 0 kids.length:=by rw [hJ];exact hfl
 obtain⟨q,hq⟩:∃q:Pl,q=⟨s0,row,⟨w0,w1⟩,⟨h0',h1'⟩,iw,ih,al,ac,kids⟩:=⟨_,rfl⟩
 rw [<-hq]at hQ
 obtain⟨D1,hN⟩:=nmE (v8 q rtl I IN AC' ZZ S1 ST 0 qs)
 rw [<-hN]at hQ
 have xb:I.length<=1048576:=by omega
 have cG:=fz s0 row
 have hT:Bb q=mP s0 row:=by rw [hq];rfl
 have xd:q.s.justify=s0.justify:=by rw [hq]
 have ht:=fun(zo c lb:Int)(h1:0<=zo)(h2:CC[zo.toNat]? =some c) PS vP h3 h4 l L h5 h6 done h7 h8 E h9 Q' hQ'=>wN hg (Q:=Q') V rtl n s0 row iw ih al ac w0 w1 h0' h1' K IN AC' vI vL vZ vS vC vT fl ft fr fb zo kids hK I ZZ CC ST PS S1 hvZ hvC hvT hvS vP h3 h4 hTl hzl hsl hf h1 c h2 lb l L h5 h6 done h7 h8 E h9 hQ'
 simp only [<-hq]at ht
 obtain⟨G,hG⟩:=nmE (mP s0 row);(try rw [<-hG]at cG);(try rw [<-hG]at hT)
 replace hH:=hI
 have pE:=pmV hE
 refine ba hg aC (by kernel_rfl) vL (fun t=>lnA t.1) qs hH ho (fun z(s:Int×List aD×LLA)=>[(4,.p 0),(6,.p 1),(7,.p 2),(8,.p 3),(9,.p 4),(11,.v vI),(12,.v vL),(13,.i (IN)),(14,.v vZ),(15,.v vS),(16,.v vC),(18,.i (AC')),(20,.v vT),(28,.p 5),(29,.o 6),(210,.v vL),(211,.i (g .ln vL)),(212,.i (z))]) (fun z(s:Int×List aD×LLA)=>[.bx 70 3 (jm V rtl),.bx 44 2 [.J w0,.J w1],.bx 44 2 [.J h0',.J h1'],.bx 47 4 [.J 0,.J 0,.J 0,.N],.bx 98 75 (plL n s0 ⟨w0,w1⟩ ⟨h0',h1'⟩ row iw ih al ac (.view K)),.bx 32 4 [.J fl,.J ft,.J fr,.J fb],.rw ⟨50,5,s.2.2⟩]) (fun z(s:Int×List aD×LLA)=>s.1=z/\s.2.2=vw aD.c (s.2.1++List.replicate (kids.length-s.2.1.length) ⟨0,0,0,0,0⟩)) (fun(s:Int×List aD×LLA) rest=>(s.2.1++v8 q rtl I IN AC' ZZ S1 ST s.1 rest,ixs 0 s.2.1.length++(rest.map (·.1)).flatten)) ((D1,ixs 0 kids.length)) (0,[],E) (by rw [hN];exact Prod.ext rfl hS) ⟨rfl,hE⟩ (Wk.weak (wkG [some _,some _,some _,some _,some _,some _,some 6] ⟨rfl,rfl,rfl,rfl,rfl,rfl,rfl,rfl,rfl,rfl,rfl,rfl,rfl,rfl,rfl,rfl,rfl,rfl,trivial⟩ ⟨wqE rfl rfl,wqE rfl rfl,wqE rfl rfl,wqE rfl rfl,wqE rfl rfl,wqE rfl rfl,wqE rfl pE,trivial⟩ (by decide) aw)) (fun z s B hz h0 hi he=> ?_) (fun z s x rest B z0 z1 z2 hx hy h0 hi hc e1 hB=> ?_)
 ·obtain⟨k,D,E1⟩:=s
  obtain⟨i1,i2⟩:=hi
  obtain⟨hs,hk⟩:=Prod.mk.inj h0
  dsimp only at i1 i2
  obtain rfl:D=D1:=by simpa [v8]using hs
  have hZ:D.length=kids.length:=by
   have:=congrArg List.length hk
   simpa [dq]using this
  have hQ:=hQ z E1 (by rw [i2,hZ,Nat.sub_self,List.replicate_zero,List.append_nil])
  cbv;rw [he];cbv
  exact hQ
 ·obtain⟨k,done,E1⟩:=s
  obtain⟨l,c⟩:=x
  obtain⟨i1,i2⟩:=hi
  obtain⟨hs,hk⟩:=Prod.mk.inj h0
  dsimp only at i1 i2 hy hs hk
  subst i1
  obtain⟨L,hL⟩:=nmE (vw aj l)
  have xg:vL[k.toNat]? =some [.view L]:=by rw [hL];exact hy
  have hF:=mr hk
  rw [dq]at hF
  have hn:=nQ (l:=l) (ls:=rest.map (fun t:List Int×Int=>t.1)) hF.2.2
  have hd:l.length<=1048576:=Nat.le_trans hn.1 (Nat.le_trans (Nat.sub_le ..) hkl)
  have hA:=hU l (zqd (hu hx).1)
  have hM:=pmV i2
  have hV:done.length+l.length<=kids.length:=by have:=hn.1;omega
  have hp:=eV I l xb hd
  have hr:=gx S1 l (by omega) hd (fun i hi=>by have:=hA i hi;omega)
  have hv:=jP (pck S1 l) (Nat.le_trans (uZ S1 l) hd)
  have hh:(l.map (elZ ZZ)).length<=1048576:=by rw [zql];exact hd
  have hj:=jJ (lit I l) (l.map (elZ ZZ)) G IN s0.justify (Nat.le_trans sa hd) hh
  obtain⟨PS,hw⟩:=nmE (Cc q I IN ZZ l)
  have ha:alg (lit I l) (l.map (elZ ZZ)) G IN s0.justify=PS:=by rw [hw];unfold Cc;rw [hT,xd]
  rw [ha]at hj
  have xc:PS.length<=1048576:=by
   rw [<-ha]
   exact Nat.le_trans (zE _ _ _ _ _) hh
  obtain⟨lb,hb⟩:=nmE (bas (pck S1 l))
  rw [<-hb]at hv
  obtain⟨LI,hP⟩:=nmE (vw ag.c (lit I l));(try rw [<-hP]at hp);(try rw [<-hP]at hj)
  obtain⟨PK,hR⟩:=nmE (vw aq.c (pck S1 l));(try rw [<-hR]at hr);(try rw [<-hR]at hv)
  rw [<-hvI,<-hL]at hp
  rw [<-hvS,<-hL]at hr
  obtain⟨W,hW⟩:=nmE (vw aj (l.map (elZ ZZ)))
  have xj:W.length=(l.map (elZ ZZ)).length:=by rw [hW,ak]
  have iW:=imV hW
  have kW:=kmV (k:=1) hW fun _=>rfl
  have dW:=dmV hW
  rw [<-hW]at hj
  obtain⟨vP,hm⟩:=nmE (vw aj PS)
  have xf:=lmV hm
  have hX:=imV hm
  have xh:=kmV (k:=1) hm fun _=>rfl
  have hY:=dmV hm
  rw [<-hm]at hj
  have xe:∀i∈l,0<=i/\i<(ZZ.length:Int):=fun i hi=>by have:=hA i hi;omega
  have ht:=ht k c lb z0 (hu hx).2 PS vP hm xc l L hL hd done (by simpa using hn.2.1) hV E1 i2
  have h3:∀D,D=done++tt q rtl IN AC' ZZ S1 (elZ ST k) c lb PS 0 l->(D++v8 q rtl I IN AC' ZZ S1 ST (k+1) rest,ixs 0 D.length++(rest.map (·.1)).flatten)=(D1,ixs 0 kids.length):=fun D hD=>Prod.ext (by
   rw [<-hs,hD,hb,hw,zqC];rfl) (by
   show ixs 0 D.length++(rest.map (·.1)).flatten=ixs 0 kids.length
   rw [<-hk,hD,zqe,lw,jb,zqC]
   congr 1
   rw [zqA,List.flatten_cons]
   congr 1
   exact hn.2.1.symm)
  clear hF hn hV hk hS hJ hu hI hq hC hA hU ha hw hb hvI hvS hh
  cbv
  rw [hc]
  cbv
  refine goX hg _ z0 xg rfl ?_
  cbv
  refine mh hg (m8 (aM f37) 3) (by kernel_rfl) [(4,.p 0),(6,.p 1),(7,.p 2),(8,.p 3),(9,.p 4),(11,.v vI),(12,.v vL),(13,.i (IN)),(14,.v vZ),(15,.v vS),(16,.v vC),(18,.i (AC')),(20,.v vT),(28,.p 5),(29,.o 6),(210,.v vL),(211,.i (g .ln vL)),(212,.i (k)),(30,.i (k)),(31,.v L),(32,.o 7),(217,.v L),(218,.i (g .ln L)),(219,.i (0))] [.bx 70 3 (jm V rtl),.bx 44 2 [.J w0,.J w1],.bx 44 2 [.J h0',.J h1'],.bx 47 4 [.J 0,.J 0,.J 0,.N],.bx 98 75 (plL n s0 ⟨w0,w1⟩ ⟨h0',h1'⟩ row iw ih al ac (.view K)),.bx 32 4 [.J fl,.J ft,.J fr,.J fb],.rw ⟨50,5,E1⟩,.rw ⟨3,1,[]⟩] (Wk.weak (wkG [some _,some _,some _,some _,some _,some _,some _,none] ⟨rfl,rfl,rfl,rfl,rfl,rfl,rfl,rfl,rfl,rfl,rfl,rfl,rfl,rfl,rfl,rfl,rfl,rfl,rfl,rfl,rfl,rfl,rfl,rfl,trivial⟩ ⟨wqE rfl rfl,wqE rfl rfl,wqE rfl rfl,wqE rfl rfl,wqE rfl rfl,wqE rfl rfl,wqE rfl hM,⟨_,rfl,rfl⟩,trivial⟩ (by decide) aw)) ?_
  refine wO hg V rtl n s0 row iw ih al ac w0 w1 h0' h1' K IN AC' vI vL vZ vS vC vT fl ft fr fb k E1 hM ZZ hvZ l L hL hd xe fun z2 E2 xa=> ?_
  obtain rfl:W=E2:=by rw [xa,hW]
  cbv
  (repeat'((first|refine aa hg cG ?_|refine aa hg hp ?_|refine ad hg cG ?_|refine ad hg hp ?_|refine ad hg hr ?_|refine aa hg hr ?_|refine ad hg hv ?_|refine bV hg hj (ar (aU rfl) (ar (bq (ab:=⟨_,_,W⟩) rfl kW dW) (ar (aU rfl) (ar (aU rfl) (ar (aU rfl) (aN)))))) hX ?_|refine eI hg hj (ar (aU rfl) (ar (bq (ab:=⟨_,_,W⟩) rfl kW dW) (ar (aU rfl) (ar (aU rfl) (ar (aU rfl) (aN)))))) hX ?_);cbv))
  refine mh hg (m8 (aM f37) 4) (by kernel_rfl) [(4,.p 0),(6,.p 1),(7,.p 2),(8,.p 3),(9,.p 4),(11,.v vI),(12,.v vL),(13,.i (IN)),(14,.v vZ),(15,.v vS),(16,.v vC),(18,.i (AC')),(20,.v vT),(28,.p 5),(29,.o 6),(210,.v vL),(211,.i (g .ln vL)),(212,.i (k)),(30,.i (k)),(31,.v L),(35,.v vP),(36,.i (lb)),(249,.v L),(250,.i (g .ln L)),(251,.i (0))] [.bx 70 3 (jm V rtl),.bx 44 2 [.J w0,.J w1],.bx 44 2 [.J h0',.J h1'],.bx 47 4 [.J 0,.J 0,.J 0,.N],.bx 98 75 (plL n s0 ⟨w0,w1⟩ ⟨h0',h1'⟩ row iw ih al ac (.view K)),.bx 32 4 [.J fl,.J ft,.J fr,.J fb],.rw ⟨50,5,E1⟩] (bK (sl1 8 vP) (jY rfl xh hY) (Wk.weak (wkG [some _,some _,some _,some _,some _,some _,some 6] ⟨rfl,rfl,rfl,rfl,rfl,rfl,rfl,rfl,rfl,rfl,rfl,rfl,rfl,rfl,rfl,rfl,rfl,rfl,rfl,rfl,rfl,rfl,rfl,rfl,rfl,trivial⟩ ⟨wqE rfl rfl,wqE rfl rfl,wqE rfl rfl,wqE rfl rfl,wqE rfl rfl,wqE rfl rfl,⟨_,_,rfl,rfl,rfl,rfl,.inl (bQ hM)⟩,trivial⟩ (by decide) aw))) ?_
  refine ht _ fun z3 E3 D hD hO=> ?_
  have xi:=pmV hO
  cbv
  (repeat'(rw [e1];cbv))
  skip
  exact hB ((k+1,D,E3)) _ _ ⟨h3 D hD,⟨rfl,hO⟩⟩ (Wk.weak (wkG [some _,some _,some _,some _,some _,some _,some 6] ⟨rfl,rfl,rfl,rfl,rfl,rfl,rfl,rfl,rfl,rfl,rfl,rfl,rfl,rfl,rfl,rfl,rfl,rfl,trivial⟩ ⟨wqE rfl rfl,wqE rfl rfl,wqE rfl rfl,wqE rfl rfl,wqE rfl rfl,wqE rfl rfl,wqE rfl xi,trivial⟩ (by decide) aw))
theorem uX(sp:Int->Int)(gap:Int):∀(cs:List Int)(i a:Int),(plG sp gap i a cs).length=cs.length
 | [],_,_=>rfl
 |c::r,i,a=>by simp only [plG,zqx,uX sp gap r]
theorem yM(cs:List Int)(gap inner ct:Int):(pll cs gap inner ct).length<=cs.length:=by
 unfold pll
 split
 ·exact Nat.zero_le _
 ·rw [uX];exact Nat.le_refl _
variable {ns:List af}{n:Int}
theorem Au{x:af}(h:ns[(n-1).toNat]? =some x):nod ns n=x:=by
 unfold nod;rw [h];rfl
theorem xV{x:af}(h:ns[(n-1).toNat]? =some x):flK ns n=ir (mc ns) (x.kids.filter (na ns)):=by
 unfold flK ix;rw [h]
theorem qj(ns:List af)(hl:ns.length<=1048576)(n:Int)(x:af)(h1:isN ns n=true)(hx:ns[(n-1).toNat]? =some x)(hkl:x.kids.length<20)(hk:∀k∈x.kids,isN ns k=true)(hrl:x.table.rules.length<=1048576)(rtl:Bool)(b:Bv)(hbx:∀kid∈flK ns n,tR (vwA af.ac ns) rtl b kid):yj (vwA af.ac ns) rtl (Cg b ns rtl) n:=by
 intro w0 w1 ha hb
 have b2:=aQ h1
 have cP:=oT ns n x hl b2.1 (by have:=b2.2.1;omega) hx hkl hk rtl w0 w1 ha hb
 have xk:flK ns n=ir (mc ns) (x.kids.filter (na ns)):=xV hx
 have ht:∀k∈flK ns n,isN ns k=true:=fun k h=>hk k (by rw [xk]at h;exact(List.mem_filter.1 ((pK _ _ _).1 h)).1)
 have hu:(flK ns n).length<20:=by rw [xk,pN];exact Nat.lt_of_le_of_lt (List.length_filter_le _ _) hkl
 rw [<-xk]at cP
 obtain⟨p,hp⟩:=nmE (plO ns n ⟨w0,w1⟩ ⟨ha,hb⟩)
 have hn:PC0 46 [.agg (jm (vwA af.ac ns) rtl),ai n,agP ⟨w0,w1⟩,agP ⟨ha,hb⟩] (.t (.agg (plL n p.s p.w p.h p.row p.wide p.high p.al p.ac (.view (vw aj p.kids))))):=by
  rw [hp]
  unfold plO
  rw [mq hx]
  exact cP
 clear cP
 have hks:kst ns n=x.style:=mq hx
 have yc:nod ns n=x:=Au hx
 have yd:p.w=⟨w0,w1⟩/\p.h=⟨ha,hb⟩/\p.s=x.style/\p.wide=inW x.style ⟨w0,w1⟩/\p.kids=flK ns n:=by rw [hp];exact⟨rfl,rfl,mq hx,by show inW (kst ns n) _=_;rw [hks],rfl⟩
 obtain⟨e1,e2,e3,e4,e5⟩:=yd
 unfold rD Cg
 rw [yc,hks,<-hp,<-e1,<-e2,<-e3,<-e5]
 have yl:inW p.s p.w=p.wide:=by rw [e3,e1,e4]
 rw [yl]
 rw [<-e5]at ht hu hbx
 have cy:=bE ns n x b2.1 (by have:=b2.2.1;omega) hx (vwA af.ac ns) _ _ rfl rfl rfl
 obtain⟨s0,row,w,h,iw,ih,al,ac,kids⟩:=p
 dsimp only at *
 subst e1 e2
 have cl:=qa n s0 ⟨w0,w1⟩ ⟨ha,hb⟩ row iw ih al ac (vw aj kids)
 have ci:=kN ns hl rtl b n ⟨s0,row,⟨w0,w1⟩,⟨ha,hb⟩,iw,ih,al,ac,kids⟩ (by dsimp only;omega) ht hbx
 have cs:=fun zs ym=>kL ns hl rtl b n ⟨s0,row,⟨w0,w1⟩,⟨ha,hb⟩,iw,ih,al,ac,kids⟩ zs (by dsimp only;omega) ym ht hbx
 obtain⟨V,hV⟩:=nmE (vwA af.ac ns)
 rw [<-hV]at cy hn ci⊢
 simp only [<-hV]at cs
 obtain⟨Kx,xL⟩:=nmE (vw aj x.kids)
 obtain⟨Rx,xq⟩:=nmE (vw aJ.c x.table.rules)
 rw [<-xL,<-xq]at cy
 obtain⟨im,iN⟩:=iw
 have cR:=jI im iN
 have cW:=mt x.table.rules (mZ ⟨im,iN⟩) hrl
 rw [<-xq]at cW
 have yb:∀q:lD,lD.ac q=[.J q.wide,.J q.high,.J q.base,.view (vw aD.c q.frames)]:=fun q=>rfl
 obtain⟨x0,x1,x2,x3,x4⟩:=x
 dsimp only at *
 by_cases hB:x3=true
 ·rw [if_pos hB]
  subst hB
  obtain⟨RO,xp⟩:=nmE (mZ ⟨im,iN⟩);(try rw [<-xp]at cR);(try rw [<-xp]at cW);(try rw [<-xp]at⊢)
  obtain⟨⟨q0,q1⟩,hq⟩:∃q,q=wnt x4.rules RO:=⟨_,rfl⟩
  rw [<-hq]at cW⊢
  have cl:=cl q0 q1
  obtain⟨LF,hG⟩:=nmE (wK s0 ⟨w0,w1⟩ ⟨ha,hb⟩ (q0,q1));(try rw [<-hG]at cl);(try rw [<-hG]at⊢)
  have hf:aK (vw aD.c LF.frames)=true:=aB _ _
  obtain⟨FR,hr⟩:=nmE (vw aD.c LF.frames);(try rw [<-hr]at cl);(try rw [<-hr]at hf);(try rw [<-hr]at⊢)
  obtain⟨K,hK⟩:=nmE (vw aj kids)
  have xl:=lmV hK
  have iK:=imV hK
  have kK:=kmV (k:=1) hK fun _=>rfl
  have dK:=dmV hK
  rw [<-hK]at hn cl
  clear ci cs hp hbx ht
  refine ae (aM f37) aC func37 fun g F hg hF=> ?_
  cbv
  (repeat'((first|refine ad hg hn ?_|refine aa hg hn ?_|refine ad hg cy ?_|refine aa hg cy ?_|refine ad hg cR ?_|refine aa hg cR ?_|refine ad hg cW ?_|refine aa hg cW ?_|refine lz hg cl rfl hf ?_|refine sM hg cl (gl rfl) hf ?_);cbv))
  exact mE hF rfl hf
 ·rw [if_neg hB]
  replace hB:x3=false:=by simpa using hB
  subst hB
  by_cases hkn:kids=[]
  ·rw [if_pos hkn]
   have cl:=cl 0 0
   obtain⟨LF,hG⟩:=nmE (wK s0 ⟨w0,w1⟩ ⟨ha,hb⟩ (0,0));(try rw [<-hG]at cl);(try rw [<-hG]at⊢)
   have hf:aK (vw aD.c LF.frames)=true:=aB _ _
   obtain⟨FR,hr⟩:=nmE (vw aD.c LF.frames);(try rw [<-hr]at cl);(try rw [<-hr]at hf);(try rw [<-hr]at⊢)
   clear ci cs hp hbx ht
   subst hkn
   refine ae (aM f37) aC func37 fun g F hg hF=> ?_
   have t0:g .ln ([]:LLA)=0:=by rw [bF hg];rfl
   have t1:g .q .eql (0:Int) 0=true:=by rw [bB hg];rfl
   cbv
   (repeat'((first|rw [t0]|rw [t1]|refine ad hg hn ?_|refine aa hg hn ?_|refine ad hg cy ?_|refine aa hg cy ?_|refine lz hg cl rfl hf ?_|refine sM hg cl (gl rfl) hf ?_);cbv))
   exact mE hF rfl hf
  ·rw [if_neg hkn]
   clear cW cR cl xq xL
   obtain⟨q,hq⟩:∃q:Pl,q=⟨s0,row,⟨w0,w1⟩,⟨ha,hb⟩,⟨im,iN⟩,ih,al,ac,kids⟩:=⟨_,rfl⟩
   rw [<-hq]at ci cs⊢
   have ye:q.kids=kids:=by rw [hq]
   unfold CL
   rw [ye]
   have ci:=zi ci (fun _=>rfl)
   have hh:=wR b q rtl ns kids
   obtain⟨I,hI⟩:=nmE (za b q rtl ns kids)
   rw [<-hI]at ci hh⊢
   have xJ:I.length<=1048576:=by rw [hh];exact Nat.le_of_lt (Nat.lt_trans hu (by decide))
   have cN:=jy n s0 ⟨w0,w1⟩ ⟨ha,hb⟩ row ⟨im,iN⟩ ih al ac (vw aj kids) I xJ
   have h3:=wh q I
   have cs:=cs (yC q I) (by rw [h3,hh])
   obtain⟨S0,xM⟩:=nmE (zO b q rtl ns (kids.zip (yC q I)))
   have hM:S0.length=kids.length:=by rw [xM,ww,zqB,h3,hh];exact Nat.min_self _
   rw [<-xM]at cs⊢
   change PC0 _ _ (.tup [.c (.view (vwA lnA (lns I (mP s0 row) (mZ al) (!decide (s0.wrap=1))))),ai (tak al (lng I (mP s0 row) (mZ al) (!decide (s0.wrap=1)))),.c (.view (vw aj (lsz I (mP s0 row) (mZ al) (!decide (s0.wrap=1)) (tak al (lng I (mP s0 row) (mZ al) (!decide (s0.wrap=1)))))))])at cN
   have hQ:vd q I=lns I (mP s0 row) (mZ al) (!decide (s0.wrap=1)):=by rw [hq];rfl
   have xN:AN q I=tak al (lng I (mP s0 row) (mZ al) (!decide (s0.wrap=1))):=by rw [hq];rfl
   have xO:yC q I=lsz I (mP s0 row) (mZ al) (!decide (s0.wrap=1)) (tak al (lng I (mP s0 row) (mZ al) (!decide (s0.wrap=1)))):=by rw [hq];rfl
   rw [<-xO,<-xN,<-hQ]at cN
   have hA:(vd q I).flatten=ixs 0 kids.length:=by rw [hQ,jC,hh]
   have hP:(vd q I).length<=64:=by rw [hQ];exact Nat.le_trans (ra ..) (by omega)
   have xx:∀l∈vd q I,l.length<=1048576/\∀i∈l,0<=i/\i<(S0.length:Int):=fun l hm=>by
    rw [hQ]at hm
    exact⟨Nat.le_trans (oP hm) xJ,fun i hi=>by have:=vc hm hi;omega⟩
   have cC:=kf n s0 ⟨w0,w1⟩ ⟨ha,hb⟩ row ⟨im,iN⟩ ih al ac (vw aj kids) (vd q I) S0 (by omega) hP xx
   have xP:zY q (vd q I) S0=BV s0 row ac (vd q I) S0:=by rw [hq];rfl
   rw [<-xP]at cC
   have ho:(zY q (vd q I) S0).length=(vd q I).length:=xh q _ _ hP
   unfold CM
   dsimp only
   obtain⟨LL,x9⟩:=nmE (vd q I)
   obtain⟨ZZ,ya⟩:=nmE (yC q I)
   obtain⟨IN,xK⟩:=nmE (AN q I)
   rw [<-x9]at hA hP xx cC ho cN⊢
   rw [<-ya]at h3 cs cN⊢
   rw [<-xK]at cN⊢
   obtain⟨CC,x6⟩:=nmE (zY q LL S0)
   rw [<-x6]at ho cC⊢
   clear hQ xN xO xP
   have cG:=fz s0 (!row)
   have xQ:v7 q=mP s0 (!row):=by rw [hq];rfl
   have cT:=ec CC (v7 q) (by rw [ho];omega)
   obtain⟨am,an⟩:=ac
   have cK:=dD am an (crt CC (v7 q))
   have xR:zF q CC=tak ⟨am,an⟩ (crt CC (v7 q)):=by rw [hq];rfl
   rw [<-xR]at cK
   have cL:=kh CC (v7 q) (zF q CC) (ctP q) (by omega)
   have xy:ctP q=if s0.wrap=1 then 2 else s0.content:=by rw [hq];rfl
   rw [<-xQ]at cG
   have xz:B7 q CC=pll CC (v7 q) (zF q CC) (ctP q):=rfl
   rw [<-xz]at cL
   obtain⟨GC,xI⟩:=nmE (v7 q)
   obtain⟨hd,xF⟩:=nmE (zF q CC)
   obtain⟨ST,xt⟩:=nmE (B7 q CC)
   rw [<-xI]at cG cT cK cL
   rw [<-xF]at cK cL⊢
   rw [<-xt]at cL⊢
   have xu:ST.length<=1048576:=by rw [xt,xz];exact Nat.le_trans (yM ..) (by omega)
   clear xQ xR xz
   obtain⟨TT,hTT⟩:=nmE (crt CC GC)
   rw [<-hTT]at cT cK
   have cB:=cz am an
   obtain⟨KB,xj⟩:=nmE (knS ⟨am,an⟩)
   rw [<-xj]at cB
   obtain⟨K,hK⟩:=nmE (vw aj kids)
   have xl:=lmV hK
   have iK:=imV hK
   have kK:=kmV (k:=1) hK fun _=>rfl
   have dK:=dmV hK
   rw [<-hK]at hn ci cN cs cC
   obtain⟨vI,xA⟩:=nmE (vw ag.c I);(try rw [<-xA]at ci);(try rw [<-xA]at cN)
   obtain⟨vZ,hz⟩:=nmE (vw aj ZZ)
   have yk:=lmV hz
   have yx:=imV hz
   have yz:=kmV (k:=1) hz fun _=>rfl
   have yt:=dmV hz
   rw [<-hz]at cN cs
   obtain⟨vS,hy⟩:=nmE (vw aq.c S0)
   have yh:=lmV hy
   have yn:=imV hy
   have xZ:=kmV (k:=7) hy fun _=>rfl
   have xE:=dmV hy
   rw [<-hy]at cs cC
   obtain⟨vC,hw⟩:=nmE (vw aj CC)
   have yf:=lmV hw
   have xX:=imV hw
   have hT:=kmV (k:=1) hw fun _=>rfl
   have hD:=dmV hw
   rw [<-hw]at cC cT cL
   obtain⟨vL,h2⟩:=nmE (vwA lnA LL);(try rw [<-h2]at cN);(try rw [<-h2]at cC)
   obtain⟨vT,hC⟩:=nmE (vw aj ST)
   have yi:=lmV hC
   have xY:=imV hC
   have yq:=kmV (k:=1) hC fun _=>rfl
   have x5:=dmV hC
   rw [<-hC]at cL
   have hs:kids.length<=1048576:=Nat.le_of_lt (Nat.lt_trans hu (by decide))
   have xw:ZZ.length=kids.length:=by rw [h3,hh]
   have hH:LL.length<=1048576:=Nat.le_trans hP (by decide)
   have hJ:=fun(g:Gd)(hg:g= @G0 bp0 prog 0 f37.ntmps)(Q':Exit->List (Nat×AV)->EH->Prop) hQ'=>vk hg (Q:=Q') ns hl V hV rtl n s0 row ⟨im,iN⟩ ih al ⟨am,an⟩ w0 w1 ha hb kids K hK hs ht IN hd KB xj vI vL vZ vC vT ZZ CC hz hw S0 xw hM LL h2 hH ho hA hQ'
   rw [<-hq,<-hy]at hJ
   obtain⟨S1,xs⟩:=nmE (v9 q ns S0 ZZ (LL.zip CC))
   have hN:S1.length=kids.length:=by rw [xs,sE,ff ho,hA,dq]
   rw [<-xs]at hJ⊢
   have h6:=dx s0
   obtain⟨fe,h0⟩:=nmE (lv s0)
   rw [<-h0]at h6
   have hR:q.s=s0:=by rw [hq]
   have xU:q.w=⟨w0,w1⟩:=by rw [hq]
   have xS:q.h=⟨ha,hb⟩:=by rw [hq]
   have xT:q.row=row:=by rw [hq]
   obtain⟨fl,ft,fr,fb⟩:=fe
   have hX:=dR fl ft fr fb
   have hW:=dX fl ft fr fb
   obtain⟨hU,hc⟩:=nmE (vw aq.c S1)
   have xW:=lmV hc
   have yp:=imV hc
   have xC:=kmV (k:=7) hc fun _=>rfl
   have h9:=dmV hc
   have hL:=fun(g:Gd)(hg:g= @G0 bp0 prog 0 f37.ntmps)(Q':Exit->List (Nat×AV)->EH->Prop) E hE hQ'=>vh hg (Q:=Q') V rtl n s0 row ⟨im,iN⟩ ih al ⟨am,an⟩ w0 w1 ha hb K IN hd vI vL vZ hU vC vT fl ft fr fb kids hK hs I xA hh ZZ CC ST S1 hz hw hC hc xu xw hN h0.symm LL h2 hH ho hA E hE hQ'
   rw [<-hq]at hL
   obtain⟨FF,xg⟩:=nmE (v8 q rtl I IN hd ZZ S1 ST 0 (LL.zip CC))
   have xH:FF.length=kids.length:=by rw [xg,sv,ff ho,hA,dq]
   rw [<-xg]at hL⊢
   have yv:0<kids.length:=List.length_pos_iff.2 hkn
   obtain⟨f0,FT,xd⟩:∃f t,FF=f::t:=by
    cases FF with
    |nil=>simp at xH;omega
    |cons a b=>exact⟨_,_,rfl⟩
   obtain⟨h4,hv⟩:∃y,S1[(0:Int).toNat]? =some y:=⟨_,zqc (by show 0<S1.length;omega)⟩
   have hS:sdZ S1 0=h4:=uE (Int.le_refl 0) hv
   obtain⟨vF,he⟩:=nmE (vw aD.c FF)
   have yg:=lmV he
   have yw:=imV he
   have yy:=kmV (k:=5) he fun _=>rfl
   have ys:=dmV he
   have pF:=pmV he
   have xf:vF[(0:Int).toNat]? =some (lc (aD.c f0)):=by rw [he,xd];rfl
   have xe:(0:Int)<az vF:=by rw [he,aY];omega
   have xr:hU[(0:Int).toNat]? =some (lc (aq.c h4)):=by rw [hc];exact bj hv
   obtain⟨A1,xa⟩:=nmE (adE fl fr)
   obtain⟨A2,xb⟩:=nmE (adE ft fb)
   change PC0 _ _ (.i (adE fl fr))at hX
   change PC0 _ _ (.i (adE ft fb))at hW
   rw [<-xa]at hX
   rw [<-xb]at hW
   obtain⟨XW,hZ⟩:=nmE ((if row then IN else hd))
   obtain⟨XH,hY⟩:=nmE ((if row then hd else IN))
   obtain⟨W1,xv⟩:=nmE (wrap64 (XW+A1))
   obtain⟨H1,xi⟩:=nmE (wrap64 (XH+A2))
   obtain⟨BB,xc⟩:=nmE (wrap64 (f0.y+h4.base))
   have h7:=dD w0 w1 W1
   have h8:=dD ha hb H1
   have h5:=ao BB
   obtain⟨R1,xm⟩:=nmE (tak ⟨w0,w1⟩ W1);(try rw [<-xm]at h7)
   obtain⟨R2,xn⟩:=nmE (tak ⟨ha,hb⟩ H1);(try rw [<-xn]at h8)
   obtain⟨R3,xo⟩:=nmE (cl BB);(try rw [<-xo]at h5)
   have hO:(zZ q IN hd FF S1).wide=R1/\(zZ q IN hd FF S1).high=R2/\(zZ q IN hd FF S1).base=R3/\(zZ q IN hd FF S1).frames=FF:=by
    rw [xm,xn,xo,xv,xi,xc,hZ,hY,xa,xb]
    unfold zZ
    rw [hR,xU,xS,xT,<-h0,hS,xd]
    exact⟨rfl,rfl,rfl,rfl⟩
   rw [hO.1,hO.2.1,hO.2.2.1,hO.2.2.2,<-he]
   have t1:∀g:Gd,g=G0 prog 0 f37.ntmps->g .w .add .i64 XW A1=W1:=fun g hg=>by rw [aI hg,xv]
   have t2:∀g:Gd,g=G0 prog 0 f37.ntmps->g .w .add .i64 XH A2=H1:=fun g hg=>by rw [aI hg,xi]
   have t3:∀g:Gd,g=G0 prog 0 f37.ntmps->g .w .add .i64 f0.y h4.base=BB:=fun g hg=>by rw [aI hg,xc]
   have xD:∀g:Gd,g=G0 prog 0 f37.ntmps->g .rp (g .ln K) [.J 0,.J 0,.J 0,.J 0,.J 0]=vw aD.c (List.replicate kids.length ⟨0,0,0,0,0⟩):=fun g hg=>by
    rw [CJ hg,bF hg,hK,aY,Int.toNat_natCast];exact yo aD.c kids.length ⟨0,0,0,0,0⟩
   have xl:K.length<=1048576:=by rw [hK,ak];exact hs
   have pS:=pmV hy
   have t0:∀g:Gd,g=G0 prog 0 f37.ntmps->g .q .eql s0.wrap 1=decide (s0.wrap=1):=fun g hg=>by rw [bB hg];exact zqn _ _
   have xB:∀g:Gd,g=G0 prog 0 f37.ntmps->g .q .eql (g .ln K) 0=false:=fun g hg=>by
    rw [bB hg,bF hg,hK,aY]
    have:kids.length≠0:=fun h=>hkn (zqv h)
    exact beq_eq_false_iff_ne.2 (by omega)
   clear hO xm xn xo xv xi xc xa xb h0 hR xU xS xT hS xd xH xg xs hv hN hM hh xw hP xx hA ho hTT xj xI xF xt xK hq hp hbx ht
   refine ae (aM f37) aC func37 fun g F hg hF=> ?_
   have t0:=t0 g hg
   have xB:=xB g hg
   have t1:=t1 g hg
   have t2:=t2 g hg
   have t3:=t3 g hg
   have xD:=xD g hg
   have hJ:=hJ g hg
   have hL:=hL g hg
   cbv
   (repeat'((first|rw [xB]|refine ad hg hn ?_|refine ad hg cy ?_|refine ad hg ci ?_|refine ad hg cN ?_|refine bV hg cs (db rfl) yn ?_|refine bV hg cC (rT rfl (ar (aU rfl) (ar (bq (ab:=⟨_,_,vS⟩) rfl xZ xE) (aN)))) xX ?_|refine eI hg cC (rT rfl (ar (aU rfl) (ar (bq (ab:=⟨_,_,vS⟩) rfl xZ xE) (aN)))) xX ?_|refine tG hg cT (ar (bq (ab:=⟨_,_,vC⟩) rfl hT hD) (ar (aU rfl) (aN))) rfl ?_|refine n3 hg cT (ar (bq (ab:=⟨_,_,vC⟩) rfl hT hD) (ar (aU rfl) (aN))) rfl ?_|refine ad hg cG ?_|refine ad hg cK ?_|refine aa hg cK ?_);cbv))
   by_cases hw1:s0.wrap=1
   all_goals
    first|rw [if_pos hw1]at xy|rw [if_neg hw1]at xy
    rw [xy]at cL
    first|rw [zqu hw1]at t0|rw [zqt hw1]at t0
    (repeat'((first|rw [t0]|refine bV hg cL (ar (bq (ab:=⟨_,_,vC⟩) rfl hT hD) (ar (aU rfl) (ar (aU rfl) (ar (aU rfl) (aN))))) xY ?_|refine eI hg cL (ar (bq (ab:=⟨_,_,vC⟩) rfl hT hD) (ar (aU rfl) (ar (aU rfl) (ar (aU rfl) (aN))))) xY ?_|refine ad hg cB ?_);cbv))
    refine mh hg (m8 (aM f37) 0) (by kernel_rfl) [(4,.p 0),(6,.p 1),(7,.p 2),(8,.p 3),(9,.p 4),(11,.v vI),(12,.v vL),(13,.i (IN)),(14,.v vZ),(15,.o 5),(16,.v vC),(18,.i (hd)),(20,.v vT),(21,.i (KB)),(116,.v vL),(117,.i (g .ln vL)),(118,.i (0))] [.bx 70 3 (jm V rtl),.bx 44 2 [.J w0,.J w1],.bx 44 2 [.J ha,.J hb],.bx 47 4 [.J 0,.J 0,.J 0,.N],.bx 98 75 (plL n s0 ⟨w0,w1⟩ ⟨ha,hb⟩ row ⟨im,iN⟩ ih al ⟨am,an⟩ (.view K)),.rw ⟨117,7,vS⟩] (bK (sl2 7 8 vC vT) (B9 rfl hT hD rfl yq x5) (Wk.weak (wkG [some _,some _,some _,some _,some _,some 6] ⟨rfl,rfl,rfl,rfl,rfl,rfl,rfl,rfl,rfl,rfl,rfl,rfl,rfl,rfl,rfl,rfl,rfl,trivial⟩ ⟨wqE rfl rfl,wqE rfl rfl,wqE rfl rfl,wqE rfl rfl,wqE rfl rfl,⟨_,_,rfl,rfl,rfl,rfl,.inl (bQ pS)⟩,trivial⟩ (by decide) aw))) ?_
    refine hJ _ fun z1 E1 x7=> ?_
    obtain rfl:hU=E1:=by rw [x7,hc]
    cbv
    ((repeat'((first|refine ad hg h6 ?_|refine aa hg h6 ?_);cbv)))
    refine CK hg (by decide) xl ?_
    cbv
    generalize hE0:g .rp (g .ln K) _=E3
    have xG:E3=vw aD.c (List.replicate kids.length ⟨0,0,0,0,0⟩):=by rw [<-hE0];exact xD
    clear hE0
    have yr:=pmV xG
    refine mh hg (m8 (aM f37) 2) (by kernel_rfl) [(4,.p 0),(6,.p 1),(7,.p 2),(8,.p 3),(9,.p 4),(11,.v vI),(12,.v vL),(13,.i (IN)),(14,.v vZ),(15,.v hU),(16,.v vC),(18,.i (hd)),(20,.v vT),(28,.p 5),(29,.o 6),(210,.v vL),(211,.i (g .ln vL)),(212,.i (0))] [.bx 70 3 (jm V rtl),.bx 44 2 [.J w0,.J w1],.bx 44 2 [.J ha,.J hb],.bx 47 4 [.J 0,.J 0,.J 0,.N],.bx 98 75 (plL n s0 ⟨w0,w1⟩ ⟨ha,hb⟩ row ⟨im,iN⟩ ih al ⟨am,an⟩ (.view K)),.bx 32 4 [.J fl,.J ft,.J fr,.J fb],.rw ⟨50,5,E3⟩] (bK (sl1 5 hU) (jY rfl xC h9) (Wk.weak (wkG [some _,some _,some _,some _,some _,some 6,some 7] ⟨rfl,rfl,rfl,rfl,rfl,rfl,rfl,rfl,rfl,rfl,rfl,rfl,rfl,rfl,rfl,rfl,rfl,rfl,trivial⟩ ⟨wqE rfl rfl,wqE rfl rfl,wqE rfl rfl,wqE rfl rfl,wqE rfl rfl,wqE rfl rfl,⟨_,_,rfl,rfl,rfl,rfl,.inl (bQ yr)⟩,trivial⟩ (by decide) aw))) ?_
    refine hL _ E3 xG fun z2 E2 x8=> ?_
    obtain rfl:vF=E2:=by rw [x8,he]
    cbv
    cases row
    all_goals
     (try simp only [Bool.false_eq_true,if_false]at hZ hY)
     (try simp only [if_true]at hZ hY)
     subst hZ hY
     (try cbv)
     ((repeat'((first|rw [t1]|rw [t2]|rw [t3]|refine ad hg hX ?_|refine aa hg hX ?_|refine ad hg hW ?_|refine aa hg hW ?_|refine ad hg h7 ?_|refine aa hg h7 ?_|refine ad hg h8 ?_|refine aa hg h8 ?_|refine ad hg h5 ?_|refine aa hg h5 ?_|refine goX hg _ (Int.le_refl 0) xr rfl ?_|refine goY hg (Int.le_refl 0) xe fun j hj yu=> ?_;subst hj|refine⟨_,xf,?_⟩);cbv)))
     exact mE hF rfl pF
theorem sI{ns:List af}:∀(f:Nat)(k n:Int),0<=k->0<ly ns f (k+1) n->ly ns (f+1) k n=ly ns f (k+1) n-1
 |0,k,n,h0,h=>by
  by_cases hn:n=0
  ·subst hn;rw [gp,gp];omega
  ·rw [pg ns hn]at h;omega
 |f+1,k,n,h0,h=>by
  by_cases hn:n=0
  ·subst hn;rw [gp,gp];omega
  ·by_cases hi:isN ns n=true
   ·rw [eG ns hn hi]at h
    rw [eG ns hn hi,eG ns hn hi]
    exact sI f (k+1) (upN ns n) (by omega) h
   ·rw [mJ ns (f+1) (k+1) n hn (by simpa using hi)]at h;omega
theorem oe(h:bm ns=true)(hn:isN ns n=true):1<=ko ns n/\ko ns n<=4:=by
 obtain⟨n1,n2,x,hx⟩:=aQ hn
 simp only [bm,zqs]at h
 have:=(ee ns ns 0).1 h.2 _ x hx
 simp only [bD,zqs,rng,zqp]at this
 have h2:=this.2.1
 rw [show(0:Int)+(((n-1).toNat:Nat):Int)+1=n by omega]at h2
 exact h2
theorem yz(h:bm ns=true){x:af}(h1:1<=n)(hx:ns[(n-1).toNat]? =some x):∀k∈x.kids,upN ns k=n:=fun k ha=>by
 simp only [bm,zqs]at h
 have:=(ee ns ns 0).1 h.2 _ x hx
 simp only [bD,zqs,zqf,dz,zqp]at this
 have:=(this.2.2.2.1 k ha).2
 omega
theorem yZ(h:bm ns=true){x:af}(h1:1<=n)(hx:ns[(n-1).toNat]? =some x):∀k∈x.kids,ko ns k=ko ns n+1:=fun k ha=>by
 have hk:=gH h h1 hx k ha
 obtain⟨k1,k2,y,hy⟩:=aQ hk
 have hu:=yz h h1 hx k ha
 have hd:=oe h hk
 obtain⟨L,hL⟩:∃L,ns.length=L+1:=⟨ns.length-1,by omega⟩
 unfold ko at hd⊢
 rw [hL]at hd⊢
 rw [eG ns (by omega) hk,hu]at hd⊢
 have:=sI (ns:=ns) L 0 n (Int.le_refl 0) (by omega)
 rw [this];omega
theorem zk{x:af}(hx:ns[(n-1).toNat]? =some x):∀k∈flK ns n,k∈x.kids:=fun k hk=>by
 rw [xV hx,pK]at hk
 exact(List.mem_filter.1 hk).1
theorem jE{ns:List af}(hl:ns.length<=1048576)(hs:∀y∈ns,af.small y)(ht:bm ns=true)(rtl:Bool):∀(f:Nat)(n:Int),isN ns n=true->5<=ko ns n+(f:Int)->zJ (vwA af.ac ns) rtl (Bu ns rtl f) n
 |0,n,hn,hd=>by have:=oe ht hn;omega
 |f+1,n,hn,hd=>by
  obtain⟨n1,n2,x,hx⟩:=aQ hn
  have hb:=uq ht n1 hx
  have ha:=gH ht n1 hx
  refine rb _ rtl _ n (qj ns hl n x hn hx (by omega) ha ?_ rtl (Bu ns rtl f) fun kid hk=> ?_)
  ·have:=hs x (zqd hx)
   exact this.2.1
  ·have hm:=zk hx kid hk
   have:=yZ ht n1 hx kid hm
   exact rd _ rtl _ kid (jE hl hs ht rtl f kid (ha kid hm) (by omega))
theorem AG{w h:aF}(hO:zT ns n w h=true):bm ns=true/\isN ns n=true/\1<=n/\n<=(ns.length:Int)/\∃x,ns[(n-1).toNat]? =some x/\x.kids.length<=12/\∀k∈x.kids,isN ns k=true:=by
 simp only [zT,zqs]at hO
 obtain⟨hT,hI,_⟩:=hO
 obtain⟨n1,n2,x,hx⟩:=aQ hI
 exact⟨hT,hI,n1,n2,x,hx,uq hT n1 hx,gH hT n1 hx⟩
def sbO(ns:List af)(n:Int)(w h:aF)(rtl:Bool):lD:=if zT ns n w h=false then⟨0,0,0,[]⟩else Bu ns rtl 4 n w h
section
variable {P:Program}{n0 N:Nat}{g:Gd}
end
theorem mw(ns:List af)(hl:ns.length<=1048576)(hs:∀y∈ns,af.small y)(n a b c d:Int)(rtl:Bool):dm prog 13 [.agg [.view (vwA af.ac ns)],ai n,agP ⟨a,b⟩,agP ⟨c,d⟩,abl rtl] (rD (sbO ns n ⟨a,b⟩ ⟨c,d⟩ rtl)):=by
 have cO:=oX ns hl hs n a b c d
 unfold sbO rD
 cases hO:zT ns n ⟨a,b⟩ ⟨c,d⟩
 case false=>
  rw [hO]at cO
  simp only [if_true]
  rw [show vw aD.c ([]:List aD)=[]from rfl]
  obtain⟨V,hV⟩:=nmE (vwA af.ac ns)
  rw [<-hV]at cO⊢
  refine ae (aM f13) aC func13 fun g F hg hF=> ?_
  cbv
  repeat'((first|refine ad hg cO ?_|refine aa hg cO ?_);cbv)
  exact sC hF
 obtain⟨hT,hI,n1,n2,x,hx,hd,hc⟩:=AG hO
 rw [hO]at cO
 simp only [Bool.true_eq_false,if_false]
 have cb:=jE hl hs hT rtl 4 n hI (by have:=oe hT hI;omega) a b c d
 unfold rD at cb
 obtain⟨q,hq⟩:=nmE (Bu ns rtl 4 n ⟨a,b⟩ ⟨c,d⟩)
 rw [<-hq]at cb⊢
 have hb:aK (vw aD.c q.frames)=true:=aB _ _
 obtain⟨FR,ha⟩:=nmE (vw aD.c q.frames);(try rw [<-ha]at cb);(try rw [<-ha]at hb);(try rw [<-ha]at⊢)
 obtain⟨V,hV⟩:=nmE (vwA af.ac ns)
 rw [<-hV]at cO cb⊢
 clear ha hq
 refine ae (aM f13) aC func13 fun g F hg hF=> ?_
 cbv
 repeat'((first|refine ad hg cO ?_|refine aa hg cO ?_);cbv)
 refine lz hg cb rfl hb ?_
 cbv
 exact mE hF rfl hb
def CF:ah:={ah.of (fun _=>0) (fun _=>false)with dir:=2,wrap:=1,justify:=1,items:=1,content:=2}
def gK:ah:={CF with dir:=1}
def BE(ns:List af)(s:ah)(i:Int):List af:=inN (nw ns s) 1 (qK ns s) i
def rC(s:Nat->ah)(ns:List af):Nat->List af
 |0=>ns
 |i+1=>BE (rC s ns i) (s i) (i:Int)
theorem rB(ns:List af)(hl:ns.length<=1048576)(hs:∀y∈ns,af.small y)(s:ah):(nw ns s).length<=1048576/\∀y∈nw ns s,af.small y:=by
 unfold nw
 split
 ·rename_i h
  simp only [xp,zqs,zqp]at h
  refine⟨by rw [zqe,zqm];omega,fun y hy=> ?_⟩
  rcases List.mem_append.1 hy with h1|h1
  ·exact hs y h1
  ·rw [List.mem_singleton.1 h1]
   exact⟨by simp,by simp,trivial⟩
 ·exact⟨hl,hs⟩
instance:DecidableEq yi:=fun⟨a⟩⟨b⟩=>decidable_of_iff (a=b) (by simp)
instance:DecidableEq af:=fun⟨a0,a1,a2,a3,a4⟩⟨b0,b1,b2,b3,b4⟩=>decidable_of_iff (a0=b0/\a1=b1/\a2=b2/\a3=b3/\a4=b4) (by simp)
theorem pr(s:Nat->ah)(ns:List af)(hl:ns.length<=1048576)(hs:∀y∈ns,af.small y):∀i,(rC s ns i).length<=1048576/\∀y∈rC s ns i,af.small y
 |0=>⟨hl,hs⟩
 |i+1=>by
  obtain⟨h1,h2⟩:=pr s ns hl hs i
  obtain⟨h3,h4⟩:=rB _ h1 h2 (s i)
  obtain⟨h5,h6,-⟩:=AO _ h3 h4 1 (qK (rC s ns i) (s i)) i
  exact⟨h5,h6⟩
def jl(o:Int):ah:={gK with width:=⟨1,10⟩,order:=o}
def CY(a b c d:Int):List af:=BE (BE (BE (BE (nw [] gK) (jl a) 0) (jl b) 1) (jl c) 2) (jl d) 3
def Ce(T:List af)(fr:List aD):Bool:=fr.length==4&&(List.range 4).all fun i=>match fr[i]? with
 |none=>false
 |some f=>f.x==10*(i:Int)&&f.wide==10&&(i==0||match fr[i-1]? with
  |none=>false
  |some e=>decide (1<=e.node)&&decide (1<=f.node)&&match T[(e.node-1).toNat]?,T[(f.node-1).toNat]? with
   |some x,some y=>decide (x.style.order<=y.style.order)
   |_,_=>false)
theorem yO{T:List af}{fr:List aD}(h:Ce T fr=true):fr.length=4/\∀z:Int,0<=z->z<4->∃f,fr[z.toNat]? =some f/\f.x=10*z/\f.wide=10/\(z≠0->∃e x y,fr[(z-1).toNat]? =some e/\1<=e.node/\1<=f.node/\T[(e.node-1).toNat]? =some x/\T[(f.node-1).toNat]? =some y/\x.style.order<=y.style.order):=by
 unfold Ce at h
 simp only [zqs,beq_iff_eq,zqf,List.mem_range]at h
 obtain⟨h1,h2⟩:=h
 refine⟨h1,fun z z0 z4=> ?_⟩
 have h3:=h2 z.toNat (by omega)
 rw [Int.toNat_of_nonneg z0,show z.toNat-1=(z-1).toNat by omega]at h3
 split at h3
 ·cases h3
 ·rename_i f hf
  simp only [zqs,Bool.or_eq_true,beq_iff_eq]at h3
  refine⟨f,hf,h3.1.1,h3.1.2,fun ha=> ?_⟩
  rcases h3.2 with h4|h4
  ·exact absurd (by omega) ha
  ·split at h4
   ·cases h4
   ·rename_i e he
    simp only [zqs,zqp]at h4
    obtain⟨⟨h5,h6⟩,h7⟩:=h4
    split at h7
    ·rename_i x y hx hy
     exact⟨e,x,y,he,h5,h6,hx,hy,of_decide_eq_true h7⟩
    ·cases h7
def Ap(a b c d:Int):List af:=[⟨0,[2,3,4,5],gK,false,⟨[]⟩⟩,⟨1,[],jl a,false,⟨[]⟩⟩,⟨1,[],jl b,false,⟨[]⟩⟩,⟨1,[],jl c,false,⟨[]⟩⟩,⟨1,[],jl d,false,⟨[]⟩⟩]
theorem wE:∀a∈[-2,-1,0,1,2],∀b∈[-2,-1,0,1,2],∀c∈[-2,-1,0,1,2],∀d∈[-2,-1,0,1,2],CY a b c d=Ap a b c d:=by decide+kernel
theorem yN:∀a∈[-2,-1,0,1,2],∀b∈[-2,-1,0,1,2],∀c∈[-2,-1,0,1,2],∀d∈[-2,-1,0,1,2],Ce (Ap a b c d) (sbO (Ap a b c d) 1 ⟨3,100⟩ ⟨3,5⟩ false).frames=true:=by decide+kernel
end Go.Proofs.YtbnplcingdgaaaaGreat
