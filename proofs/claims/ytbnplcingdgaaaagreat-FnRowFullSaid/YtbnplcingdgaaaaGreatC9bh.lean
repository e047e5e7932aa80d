/- Trees as a law makes them, and what the boxes are that come of them: plain law. -/
import Derived.Test.YtbnplcingdgaaaaGreatC9bg
set_option linter.unusedVariables false
set_option linter.unusedSimpArgs false
set_option maxHeartbeats 16000000
namespace Go.Proofs.YtbnplcingdgaaaaGreat
open Go.ChangeShapes Go.WideShapes Go.ChangeAt Go.RowKit Am Go.Proofs.Tryz
set_option maxRecDepth 100000
theorem wt{g:Gd}(hg:g= @G0 bp0 prog 0 f37.ntmps){Q:Exit->List (Nat×AV)->EH->Prop}(V:LLA)(rtl:Bool)(n:Int)(s0:ah)(row:Bool)(iw ih al ac:aI)(w0 w1 h0' h1':Int)(K:LLA)(IN AC':Int)(vI vL vZ vS vC vT:LLA)(fl ft fr fb:Int)(kids:List Int)(hK:K=vw aj kids)(hkl:kids.length<=1048576)(I:List ag)(hvI:vI=vw ag.c I)(hIl:I.length=kids.length)(ZZ CC ST:List Int)(S1:List ao)(hvZ:vZ=vw aj ZZ)(hvC:vC=vw aj CC)(hvT:vT=vw aj ST)(hvS:vS=vw ao.c S1)(hTl:ST.length<=1048576)
  (hzl:ZZ.length=kids.length) (hsl:S1.length=kids.length) (hf:lx s0=⟨fl,ft,fr,fb⟩) (LL:List (List Int)) (hH:vL=vwA lnA LL) (hLl:LL.length<=1048576) (hcl:CC.length=LL.length) (hfl:LL.flatten=ixs 0 kids.length)
  (E:LLA) (hE:E=vw aG.c (List.replicate kids.length ⟨0,0,0,0,0⟩))
  (hQ:∀(z:Int)(E:LLA),E=vw aG.c (ux ⟨s0,row,⟨w0,w1⟩,⟨h0',h1'⟩,iw,ih,al,ac,kids⟩ rtl I IN AC' ZZ S1 ST 0 (LL.zip CC))->Q (.exit 4) [(213,.t (abl (false))),(4,.p 0),(6,.p 1),(7,.p 2),(8,.p 3),(9,.p 4),(11,.v vI),(12,.v vL),(13,.i (IN)),(14,.v vZ),(15,.v vS),(16,.v vC),(18,.i (AC')),(20,.v vT),(28,.p 5),(29,.o 6),(210,.v vL),(211,.i (g .ln vL)),(212,.i (z))] [.bx 70 3 (jM V rtl),.bx 44 2 [.J w0,.J w1],.bx 44 2 [.J h0',.J h1'],.bx 47 4 [.J 0,.J 0,.J 0,.N],.bx 98 75 (plL n s0 ⟨w0,w1⟩ ⟨h0',h1'⟩ row iw ih al ac (.view K)),.bx 32 4 [.J fl,.J ft,.J fr,.J fb],.rw ⟨50,5,E⟩]):
  g .L (je (aP f37) 2) Q [(4,.p 0),(6,.p 1),(7,.p 2),(8,.p 3),(9,.p 4),(11,.v vI),(12,.v vL),(13,.i (IN)),(14,.v vZ),(15,.v vS),(16,.v vC),(18,.i (AC')),(20,.v vT),(28,.p 5),(29,.o 6),(210,.v vL),(211,.i (g .ln vL)),(212,.i (0))] [.bx 70 3 (jM V rtl),.bx 44 2 [.J w0,.J w1],.bx 44 2 [.J h0',.J h1'],.bx 47 4 [.J 0,.J 0,.J 0,.N],.bx 98 75 (plL n s0 ⟨w0,w1⟩ ⟨h0',h1'⟩ row iw ih al ac (.view K)),.bx 32 4 [.J fl,.J ft,.J fr,.J fb],.rw ⟨50,5,E⟩]:=by
 have hI:vL=(LL.zip CC).map (fun t=>lnA t.1):=by rw [hH];exact oO hcl
 have hJ:(LL.zip CC).map (·.1)=LL:=fC hcl
 have ho:(LL.zip CC).length<=1048576:=by rw [zqB];exact Nat.le_trans (Nat.min_le_left ..) hLl
 have hu:=fun{i t} h=>uZ (a:=LL) (b:=CC) (i:=i) (t:=t) h
 have hU:∀l∈LL,∀i∈l,0<=i/\i<(kids.length:Int):=fun l hl i hi=>by
  have:i∈LL.flatten:=List.mem_flatten.2 ⟨l,hl,hi⟩
  rw [hfl,rU]at this
  omega
 obtain⟨qs,hC⟩:=nmE (LL.zip CC)
 rw [<-hC]at hI hJ ho hQ
 simp only [<-hC]at hu
 have hS:(qs.map (·.1)).flatten=ixs 0 kids.length:=by rw [hJ];exact hfl
 obtain⟨q,hq⟩:∃q:Pl,q=⟨s0,row,⟨w0,w1⟩,⟨h0',h1'⟩,iw,ih,al,ac,kids⟩:=⟨_,rfl⟩
 rw [<-hq]at hQ
 obtain⟨D1,hN⟩:=nmE (ux q rtl I IN AC' ZZ S1 ST 0 qs)
 rw [<-hN]at hQ
 have xb:I.length<=1048576:=by omega
 have cG:=fP s0 row
 have hT:zm q=nC s0 row:=by rw [hq];rfl
 have xd:q.s.justify=s0.justify:=by rw [hq]
 have ht:=fun(zo c lb:Int)(h1:0<=zo)(h2:CC[zo.toNat]? =some c) PS vP h3 h4 l L h5 h6 done h7 h8 E h9 Q' hQ'=>yc hg (Q:=Q') V rtl n s0 row iw ih al ac w0 w1 h0' h1' K IN AC' vI vL vZ vS vC vT fl ft fr fb zo kids hK I ZZ CC ST PS S1 hvZ hvC hvT hvS vP h3 h4 hTl hzl hsl hf h1 c h2 lb l L h5 h6 done h7 h8 E h9 hQ'
 simp only [<-hq]at ht
 obtain⟨G,hG⟩:=nmE (nC s0 row);(try rw [<-hG]at cG);(try rw [<-hG]at hT)
 replace hH:=hI
 have pE:=pmV hE
 refine bi hg aC (by kernel_rfl) vL (fun t=>lnA t.1) qs hH ho (fun z(s:Int×List aG×LLA)=>[(4,.p 0),(6,.p 1),(7,.p 2),(8,.p 3),(9,.p 4),(11,.v vI),(12,.v vL),(13,.i (IN)),(14,.v vZ),(15,.v vS),(16,.v vC),(18,.i (AC')),(20,.v vT),(28,.p 5),(29,.o 6),(210,.v vL),(211,.i (g .ln vL)),(212,.i (z))]) (fun z(s:Int×List aG×LLA)=>[.bx 70 3 (jM V rtl),.bx 44 2 [.J w0,.J w1],.bx 44 2 [.J h0',.J h1'],.bx 47 4 [.J 0,.J 0,.J 0,.N],.bx 98 75 (plL n s0 ⟨w0,w1⟩ ⟨h0',h1'⟩ row iw ih al ac (.view K)),.bx 32 4 [.J fl,.J ft,.J fr,.J fb],.rw ⟨50,5,s.2.2⟩]) (fun z(s:Int×List aG×LLA)=>s.1=z/\s.2.2=vw aG.c (s.2.1++List.replicate (kids.length-s.2.1.length) ⟨0,0,0,0,0⟩)) (fun(s:Int×List aG×LLA) rest=>(s.2.1++ux q rtl I IN AC' ZZ S1 ST s.1 rest,ixs 0 s.2.1.length++(rest.map (·.1)).flatten)) ((D1,ixs 0 kids.length)) (0,[],E) (by rw [hN];exact Prod.ext rfl hS) ⟨rfl,hE⟩ (Wk.weak (wkG [some _,some _,some _,some _,some _,some _,some 6] ⟨rfl,rfl,rfl,rfl,rfl,rfl,rfl,rfl,rfl,rfl,rfl,rfl,rfl,rfl,rfl,rfl,rfl,rfl,trivial⟩ ⟨wqE rfl rfl,wqE rfl rfl,wqE rfl rfl,wqE rfl rfl,wqE rfl rfl,wqE rfl rfl,wqE rfl pE,trivial⟩ (by decide) aq)) (fun z s B hz h0 hi he=> ?_) (fun z s x rest B z0 z1 z2 hx hy h0 hi hc e1 hB=> ?_)
 ·obtain⟨k,D,E1⟩:=s
  obtain⟨i1,i2⟩:=hi
  obtain⟨hs,hk⟩:=Prod.mk.inj h0
  dsimp only at i1 i2
  obtain rfl:D=D1:=by simpa [ux]using hs
  have hZ:D.length=kids.length:=by
   have:=congrArg List.length hk
   simpa [dl]using this
  have hQ:=hQ z E1 (by rw [i2,hZ,Nat.sub_self,List.replicate_zero,List.append_nil])
  cbv;rw [he];cbv
  exact hQ
 ·obtain⟨k,done,E1⟩:=s
  obtain⟨l,c⟩:=x
  obtain⟨i1,i2⟩:=hi
  obtain⟨hs,hk⟩:=Prod.mk.inj h0
  dsimp only at i1 i2 hy hs hk
  subst i1
  obtain⟨L,hL⟩:=nmE (vw aj l)
  have xg:vL[k.toNat]? =some [.view L]:=by rw [hL];exact hy
  have hF:=mY hk
  rw [dl]at hF
  have hn:=ox (l:=l) (ls:=rest.map (fun t:List Int×Int=>t.1)) hF.2.2
  have hd:l.length<=1048576:=Nat.le_trans hn.1 (Nat.le_trans (Nat.sub_le ..) hkl)
  have hA:=hU l (zqd (hu hx).1)
  have hM:=pmV i2
  have hV:done.length+l.length<=kids.length:=by have:=hn.1;omega
  have hp:=fi I l xb hd
  have hr:=gW S1 l (by omega) hd (fun i hi=>by have:=hA i hi;omega)
  have hv:=kr (pck S1 l) (Nat.le_trans (wf S1 l) hd)
  have hh:(l.map (elZ ZZ)).length<=1048576:=by rw [zql];exact hd
  have hj:=kj (lit I l) (l.map (elZ ZZ)) G IN s0.justify (Nat.le_trans s6 hd) hh
  obtain⟨PS,hw⟩:=nmE (De q I IN ZZ l)
  have ha:alg (lit I l) (l.map (elZ ZZ)) G IN s0.justify=PS:=by rw [hw];unfold De;rw [hT,xd]
  rw [ha]at hj
  have xc:PS.length<=1048576:=by
   rw [<-ha]
   exact Nat.le_trans (Bh _ _ _ _ _) hh
  obtain⟨lb,hb⟩:=nmE (bas (pck S1 l))
  rw [<-hb]at hv
  obtain⟨LI,hP⟩:=nmE (vw ag.c (lit I l));(try rw [<-hP]at hp);(try rw [<-hP]at hj)
  obtain⟨PK,hR⟩:=nmE (vw ao.c (pck S1 l));(try rw [<-hR]at hr);(try rw [<-hR]at hv)
  rw [<-hvI,<-hL]at hp
  rw [<-hvS,<-hL]at hr
  obtain⟨W,hW⟩:=nmE (vw aj (l.map (elZ ZZ)))
  have xj:W.length=(l.map (elZ ZZ)).length:=by rw [hW,ak]
  have iW:=imV hW
  have kW:=kmV (k:=1) hW fun _=>rfl
  have dW:=dmV hW
  rw [<-hW]at hj
  obtain⟨vP,hm⟩:=nmE (vw aj PS)
  have xf:=lmV hm
  have hX:=imV hm
  have xh:=kmV (k:=1) hm fun _=>rfl
  have hY:=dmV hm
  rw [<-hm]at hj
  have xe:∀i∈l,0<=i/\i<(ZZ.length:Int):=fun i hi=>by have:=hA i hi;omega
  have ht:=ht k c lb z0 (hu hx).2 PS vP hm xc l L hL hd done (by simpa using hn.2.1) hV E1 i2
  have h3:∀D,D=done++ro q rtl IN AC' ZZ S1 (elZ ST k) c lb PS 0 l->(D++ux q rtl I IN AC' ZZ S1 ST (k+1) rest,ixs 0 D.length++(rest.map (·.1)).flatten)=(D1,ixs 0 kids.length):=fun D hD=>Prod.ext (by
   rw [<-hs,hD,hb,hw,zqC];rfl) (by
   show ixs 0 D.length++(rest.map (·.1)).flatten=ixs 0 kids.length
   rw [<-hk,hD,zqe,l7,jB,zqC]
   congr 1
   rw [zqA,List.flatten_cons]
   congr 1
   exact hn.2.1.symm)
  clear hF hn hV hk hS hJ hu hI hq hC hA hU ha hw hb hvI hvS hh
  cbv
  rw [hc]
  cbv
  refine goX hg _ z0 xg rfl ?_
  cbv
  refine iu hg (je (aP f37) 3) (by kernel_rfl) [(4,.p 0),(6,.p 1),(7,.p 2),(8,.p 3),(9,.p 4),(11,.v vI),(12,.v vL),(13,.i (IN)),(14,.v vZ),(15,.v vS),(16,.v vC),(18,.i (AC')),(20,.v vT),(28,.p 5),(29,.o 6),(210,.v vL),(211,.i (g .ln vL)),(212,.i (k)),(30,.i (k)),(31,.v L),(32,.o 7),(217,.v L),(218,.i (g .ln L)),(219,.i (0))] [.bx 70 3 (jM V rtl),.bx 44 2 [.J w0,.J w1],.bx 44 2 [.J h0',.J h1'],.bx 47 4 [.J 0,.J 0,.J 0,.N],.bx 98 75 (plL n s0 ⟨w0,w1⟩ ⟨h0',h1'⟩ row iw ih al ac (.view K)),.bx 32 4 [.J fl,.J ft,.J fr,.J fb],.rw ⟨50,5,E1⟩,.rw ⟨3,1,[]⟩] (Wk.weak (wkG [some _,some _,some _,some _,some _,some _,some _,none] ⟨rfl,rfl,rfl,rfl,rfl,rfl,rfl,rfl,rfl,rfl,rfl,rfl,rfl,rfl,rfl,rfl,rfl,rfl,rfl,rfl,rfl,rfl,rfl,rfl,trivial⟩ ⟨wqE rfl rfl,wqE rfl rfl,wqE rfl rfl,wqE rfl rfl,wqE rfl rfl,wqE rfl rfl,wqE rfl hM,⟨_,rfl,rfl⟩,trivial⟩ (by decide) aq)) ?_
  refine yd hg V rtl n s0 row iw ih al ac w0 w1 h0' h1' K IN AC' vI vL vZ vS vC vT fl ft fr fb k E1 hM ZZ hvZ l L hL hd xe fun z2 E2 xa=> ?_
  obtain rfl:W=E2:=by rw [xa,hW]
  cbv
  (repeat'((first|refine aa hg cG ?_|refine aa hg hp ?_|refine ad hg cG ?_|refine ad hg hp ?_|refine ad hg hr ?_|refine aa hg hr ?_|refine ad hg hv ?_|refine ce hg hj (ay (be rfl) (ay (bA (ab:=⟨_,_,W⟩) rfl kW dW) (ay (be rfl) (ay (be rfl) (ay (be rfl) (aU)))))) hX ?_|refine eY hg hj (ay (be rfl) (ay (bA (ab:=⟨_,_,W⟩) rfl kW dW) (ay (be rfl) (ay (be rfl) (ay (be rfl) (aU)))))) hX ?_);cbv))
  refine iu hg (je (aP f37) 4) (by kernel_rfl) [(4,.p 0),(6,.p 1),(7,.p 2),(8,.p 3),(9,.p 4),(11,.v vI),(12,.v vL),(13,.i (IN)),(14,.v vZ),(15,.v vS),(16,.v vC),(18,.i (AC')),(20,.v vT),(28,.p 5),(29,.o 6),(210,.v vL),(211,.i (g .ln vL)),(212,.i (k)),(30,.i (k)),(31,.v L),(35,.v vP),(36,.i (lb)),(249,.v L),(250,.i (g .ln L)),(251,.i (0))] [.bx 70 3 (jM V rtl),.bx 44 2 [.J w0,.J w1],.bx 44 2 [.J h0',.J h1'],.bx 47 4 [.J 0,.J 0,.J 0,.N],.bx 98 75 (plL n s0 ⟨w0,w1⟩ ⟨h0',h1'⟩ row iw ih al ac (.view K)),.bx 32 4 [.J fl,.J ft,.J fr,.J fb],.rw ⟨50,5,E1⟩] (bO (sl1 8 vP) (kL rfl xh hY) (Wk.weak (wkG [some _,some _,some _,some _,some _,some _,some 6] ⟨rfl,rfl,rfl,rfl,rfl,rfl,rfl,rfl,rfl,rfl,rfl,rfl,rfl,rfl,rfl,rfl,rfl,rfl,rfl,rfl,rfl,rfl,rfl,rfl,rfl,trivial⟩ ⟨wqE rfl rfl,wqE rfl rfl,wqE rfl rfl,wqE rfl rfl,wqE rfl rfl,wqE rfl rfl,⟨_,_,rfl,rfl,rfl,rfl,.inl (bU hM)⟩,trivial⟩ (by decide) aq))) ?_
  refine ht _ fun z3 E3 D hD hO=> ?_
  have xi:=pmV hO
  cbv
  (repeat'(rw [e1];cbv))
  skip
  exact hB ((k+1,D,E3)) _ _ ⟨h3 D hD,⟨rfl,hO⟩⟩ (Wk.weak (wkG [some _,some _,some _,some _,some _,some _,some 6] ⟨rfl,rfl,rfl,rfl,rfl,rfl,rfl,rfl,rfl,rfl,rfl,rfl,rfl,rfl,rfl,rfl,rfl,rfl,trivial⟩ ⟨wqE rfl rfl,wqE rfl rfl,wqE rfl rfl,wqE rfl rfl,wqE rfl rfl,wqE rfl rfl,wqE rfl xi,trivial⟩ (by decide) aq))
theorem wc(sp:Int->Int)(gap:Int):∀(cs:List Int)(i a:Int),(plG sp gap i a cs).length=cs.length
 | [],_,_=>rfl
 |c::r,i,a=>by simp only [plG,zqx,wc sp gap r]
theorem Ac(cs:List Int)(gap inner ct:Int):(pll cs gap inner ct).length<=cs.length:=by
 unfold pll
 split
 ·exact Nat.zero_le _
 ·rw [wc];exact Nat.le_refl _
variable {ns:List af}{n:Int}
theorem Ca{x:af}(h:ns[(n-1).toNat]? =some x):nod ns n=x:=by
 unfold nod;rw [h];rfl
theorem zn{x:af}(h:ns[(n-1).toNat]? =some x):flK ns n=jb (mK ns) (x.kids.filter (nQ ns)):=by
 unfold flK jf;rw [h]
theorem qO(ns:List af)(hl:ns.length<=1048576)(n:Int)(x:af)(h1:isN ns n=true)(hx:ns[(n-1).toNat]? =some x)(hkl:x.kids.length<20)(hk:∀k∈x.kids,isN ns k=true)(hrl:x.table.rules.length<=1048576)(rtl:Bool)(b:Bv)(hbx:∀kid∈flK ns n,uP (vwA af.ac ns) rtl b kid):zH (vwA af.ac ns) rtl (Cg b ns rtl) n:=by
 intro w0 w1 ha hb
 have b2:=aZ h1
 have cP:=py ns n x hl b2.1 (by have:=b2.2.1;omega) hx hkl hk rtl w0 w1 ha hb
 have xj:flK ns n=jb (mK ns) (x.kids.filter (nQ ns)):=zn hx
 have ht:∀k∈flK ns n,isN ns k=true:=fun k h=>hk k (by rw [xj]at h;exact(List.mem_filter.1 ((qr _ _ _).1 h)).1)
 have hu:(flK ns n).length<20:=by rw [xj,qt];exact Nat.lt_of_le_of_lt (List.length_filter_le _ _) hkl
 rw [<-xj]at cP
 obtain⟨p,hp⟩:=nmE (plO ns n ⟨w0,w1⟩ ⟨ha,hb⟩)
 have hn:PC0 46 [.agg (jM (vwA af.ac ns) rtl),ai n,agP ⟨w0,w1⟩,agP ⟨ha,hb⟩] (.t (.agg (plL n p.s p.w p.h p.row p.wide p.high p.al p.ac (.view (vw aj p.kids))))):=by
  rw [hp]
  unfold plO
  rw [mX hx]
  exact cP
 clear cP
 have hks:kst ns n=x.style:=mX hx
 have ye:nod ns n=x:=Ca hx
 have yf:p.w=⟨w0,w1⟩/\p.h=⟨ha,hb⟩/\p.s=x.style/\p.wide=inW x.style ⟨w0,w1⟩/\p.kids=flK ns n:=by rw [hp];exact⟨rfl,rfl,mX hx,by show inW (kst ns n) _=_;rw [hks],rfl⟩
 obtain⟨e1,e2,e3,e4,e5⟩:=yf
 unfold su Cg
 rw [ye,hks,<-hp,<-e1,<-e2,<-e3,<-e5]
 have yo:inW p.s p.w=p.wide:=by rw [e3,e1,e4]
 rw [yo]
 rw [<-e5]at ht hu hbx
 have cy:=bJ ns n x b2.1 (by have:=b2.2.1;omega) hx (vwA af.ac ns) _ _ rfl rfl rfl
 obtain⟨s0,row,w,h,iw,ih,al,ac,kids⟩:=p
 dsimp only at *
 subst e1 e2
 have cl:=qG n s0 ⟨w0,w1⟩ ⟨ha,hb⟩ row iw ih al ac (vw aj kids)
 have ci:=lI ns hl rtl b n ⟨s0,row,⟨w0,w1⟩,⟨ha,hb⟩,iw,ih,al,ac,kids⟩ (by dsimp only;omega) ht hbx
 have cs:=fun zs yp=>lG ns hl rtl b n ⟨s0,row,⟨w0,w1⟩,⟨ha,hb⟩,iw,ih,al,ac,kids⟩ zs (by dsimp only;omega) yp ht hbx
 obtain⟨V,hV⟩:=nmE (vwA af.ac ns)
 rw [<-hV]at cy hn ci⊢
 simp only [<-hV]at cs
 obtain⟨Kx,xO⟩:=nmE (vw aj x.kids)
 obtain⟨Rx,xr⟩:=nmE (vw aQ.c x.table.rules)
 rw [<-xO,<-xr]at cy
 obtain⟨im,iN⟩:=iw
 have cR:=ki im iN
 have cW:=m5 x.table.rules (nB ⟨im,iN⟩) hrl
 rw [<-xr]at cW
 have yd:∀q:lQ,lQ.ac q=[.J q.wide,.J q.high,.J q.base,.view (vw aG.c q.frames)]:=fun q=>rfl
 obtain⟨x0,x1,x2,x3,x4⟩:=x
 dsimp only at *
 by_cases hB:x3=true
 ·rw [if_pos hB]
  subst hB
  obtain⟨RO,xo⟩:=nmE (nB ⟨im,iN⟩);(try rw [<-xo]at cR);(try rw [<-xo]at cW);(try rw [<-xo]at⊢)
  obtain⟨⟨q0,q1⟩,hq⟩:∃q,q=wnt x4.rules RO:=⟨_,rfl⟩
  rw [<-hq]at cW⊢
  have cl:=cl q0 q1
  obtain⟨LF,hG⟩:=nmE (ur s0 ⟨w0,w1⟩ ⟨ha,hb⟩ (q0,q1));(try rw [<-hG]at cl);(try rw [<-hG]at⊢)
  have hf:aN (vw aG.c LF.frames)=true:=aF _ _
  obtain⟨FR,hr⟩:=nmE (vw aG.c LF.frames);(try rw [<-hr]at cl);(try rw [<-hr]at hf);(try rw [<-hr]at⊢)
  obtain⟨K,hK⟩:=nmE (vw aj kids)
  have xk:=lmV hK
  have iK:=imV hK
  have kK:=kmV (k:=1) hK fun _=>rfl
  have dK:=dmV hK
  rw [<-hK]at hn cl
  clear ci cs hp hbx ht
  refine ae (aP f37) aC func37 fun g F hg hF=> ?_
  cbv
  (repeat'((first|refine ad hg hn ?_|refine aa hg hn ?_|refine ad hg cy ?_|refine aa hg cy ?_|refine ad hg cR ?_|refine aa hg cR ?_|refine ad hg cW ?_|refine aa hg cW ?_|refine mc hg cl rfl hf ?_|refine tP hg cl (gM rfl) hf ?_);cbv))
  exact ni hF rfl hf
 ·rw [if_neg hB]
  replace hB:x3=false:=by simpa using hB
  subst hB
  by_cases hkn:kids=[]
  ·rw [if_pos hkn]
   have cl:=cl 0 0
   obtain⟨LF,hG⟩:=nmE (ur s0 ⟨w0,w1⟩ ⟨ha,hb⟩ (0,0));(try rw [<-hG]at cl);(try rw [<-hG]at⊢)
   have hf:aN (vw aG.c LF.frames)=true:=aF _ _
   obtain⟨FR,hr⟩:=nmE (vw aG.c LF.frames);(try rw [<-hr]at cl);(try rw [<-hr]at hf);(try rw [<-hr]at⊢)
   clear ci cs hp hbx ht
   subst hkn
   refine ae (aP f37) aC func37 fun g F hg hF=> ?_
   have t0:g .ln ([]:LLA)=0:=by rw [bH hg];rfl
   have t1:g .q .eql (0:Int) 0=true:=by rw [bB hg];rfl
   cbv
   (repeat'((first|rw [t0]|rw [t1]|refine ad hg hn ?_|refine aa hg hn ?_|refine ad hg cy ?_|refine aa hg cy ?_|refine mc hg cl rfl hf ?_|refine tP hg cl (gM rfl) hf ?_);cbv))
   exact ni hF rfl hf
  ·rw [if_neg hkn]
   clear cW cR cl xr xO
   obtain⟨q,hq⟩:∃q:Pl,q=⟨s0,row,⟨w0,w1⟩,⟨ha,hb⟩,⟨im,iN⟩,ih,al,ac,kids⟩:=⟨_,rfl⟩
   rw [<-hq]at ci cs⊢
   have yh:q.kids=kids:=by rw [hq]
   unfold uV
   rw [yh]
   have ci:=AJ ci (fun _=>rfl)
   have hh:=yg b q rtl ns kids
   obtain⟨I,hI⟩:=nmE (uu b q rtl ns kids)
   rw [<-hI]at ci hh⊢
   have xL:I.length<=1048576:=by rw [hh];exact Nat.le_of_lt (Nat.lt_trans hu (by decide))
   have cN:=jX n s0 ⟨w0,w1⟩ ⟨ha,hb⟩ row ⟨im,iN⟩ ih al ac (vw aj kids) I xL
   have h3:=xB q I
   have cs:=cs (mj q I) (by rw [h3,hh])
   obtain⟨S0,xP⟩:=nmE (rE b q rtl ns (kids.zip (mj q I)))
   have hM:S0.length=kids.length:=by rw [xP,xN,zqB,h3,hh];exact Nat.min_self _
   rw [<-xP]at cs⊢
   change PC0 _ _ (.tup [.c (.view (vwA lnA (lns I (nC s0 row) (nB al) (!decide (s0.wrap=1))))),ai (tak al (lng I (nC s0 row) (nB al) (!decide (s0.wrap=1)))),.c (.view (vw aj (lsz I (nC s0 row) (nB al) (!decide (s0.wrap=1)) (tak al (lng I (nC s0 row) (nB al) (!decide (s0.wrap=1)))))))])at cN
   have hQ:mO q I=lns I (nC s0 row) (nB al) (!decide (s0.wrap=1)):=by rw [hq];rfl
   have xQ:yi q I=tak al (lng I (nC s0 row) (nB al) (!decide (s0.wrap=1))):=by rw [hq];rfl
   have xR:mj q I=lsz I (nC s0 row) (nB al) (!decide (s0.wrap=1)) (tak al (lng I (nC s0 row) (nB al) (!decide (s0.wrap=1)))):=by rw [hq];rfl
   rw [<-xR,<-xQ,<-hQ]at cN
   have hA:(mO q I).flatten=ixs 0 kids.length:=by rw [hQ,i7,hh]
   have hP:(mO q I).length<=64:=by rw [hQ];exact Nat.le_trans (pu ..) (by omega)
   have xy:∀l∈mO q I,l.length<=1048576/\∀i∈l,0<=i/\i<(S0.length:Int):=fun l hm=>by
    rw [hQ]at hm
    exact⟨Nat.le_trans (pt hm) xL,fun i hi=>by have:=wn hm hi;omega⟩
   have cC:=kS n s0 ⟨w0,w1⟩ ⟨ha,hb⟩ row ⟨im,iN⟩ ih al ac (vw aj kids) (mO q I) S0 (by omega) hP xy
   have xS:uW q (mO q I) S0=Dl s0 row ac (mO q I) S0:=by rw [hq];rfl
   rw [<-xS]at cC
   have ho:(uW q (mO q I) S0).length=(mO q I).length:=tJ q _ _ hP
   unfold xp
   dsimp only
   obtain⟨LL,yb⟩:=nmE (mO q I)
   obtain⟨ZZ,yc⟩:=nmE (mj q I)
   obtain⟨IN,xM⟩:=nmE (yi q I)
   rw [<-yb]at hA hP xy cC ho cN⊢
   rw [<-yc]at h3 cs cN⊢
   rw [<-xM]at cN⊢
   obtain⟨CC,x8⟩:=nmE (uW q LL S0)
   rw [<-x8]at ho cC⊢
   clear hQ xQ xR xS
   have cG:=fP s0 (!row)
   have xT:uU q=nC s0 (!row):=by rw [hq];rfl
   have cT:=ej CC (uU q) (by rw [ho];omega)
   obtain⟨am,an⟩:=ac
   have cK:=dL am an (crt CC (uU q))
   have xU:xq q CC=tak ⟨am,an⟩ (crt CC (uU q)):=by rw [hq];rfl
   rw [<-xU]at cK
   have cL:=ld CC (uU q) (xq q CC) (ctP q) (by omega)
   have xz:ctP q=if s0.wrap=1 then 2 else s0.content:=by rw [hq];rfl
   rw [<-xT]at cG
   have xA:Bq q CC=pll CC (uU q) (xq q CC) (ctP q):=rfl
   rw [<-xA]at cL
   obtain⟨GC,xK⟩:=nmE (uU q)
   obtain⟨hd,xH⟩:=nmE (xq q CC)
   obtain⟨ST,xu⟩:=nmE (Bq q CC)
   rw [<-xK]at cG cT cK cL
   rw [<-xH]at cK cL⊢
   rw [<-xu]at cL⊢
   have xv:ST.length<=1048576:=by rw [xu,xA];exact Nat.le_trans (Ac ..) (by omega)
   clear xT xU xA
   obtain⟨TT,hTT⟩:=nmE (crt CC GC)
   rw [<-hTT]at cT cK
   have cB:=db am an
   obtain⟨KB,xi⟩:=nmE (knS ⟨am,an⟩)
   rw [<-xi]at cB
   obtain⟨K,hK⟩:=nmE (vw aj kids)
   have xk:=lmV hK
   have iK:=imV hK
   have kK:=kmV (k:=1) hK fun _=>rfl
   have dK:=dmV hK
   rw [<-hK]at hn ci cN cs cC
   obtain⟨vI,xC⟩:=nmE (vw ag.c I);(try rw [<-xC]at ci);(try rw [<-xC]at cN)
   obtain⟨vZ,hz⟩:=nmE (vw aj ZZ)
   have yn:=lmV hz
   have yz:=imV hz
   have yB:=kmV (k:=1) hz fun _=>rfl
   have yv:=dmV hz
   rw [<-hz]at cN cs
   obtain⟨vS,hy⟩:=nmE (vw ao.c S0)
   have yl:=lmV hy
   have yq:=imV hy
   have x6:=kmV (k:=7) hy fun _=>rfl
   have xG:=dmV hy
   rw [<-hy]at cs cC
   obtain⟨vC,hw⟩:=nmE (vw aj CC)
   have yj:=lmV hw
   have xZ:=imV hw
   have hT:=kmV (k:=1) hw fun _=>rfl
   have hD:=dmV hw
   rw [<-hw]at cC cT cL
   obtain⟨vL,h2⟩:=nmE (vwA lnA LL);(try rw [<-h2]at cN);(try rw [<-h2]at cC)
   obtain⟨vT,hC⟩:=nmE (vw aj ST)
   have ym:=lmV hC
   have x5:=imV hC
   have ys:=kmV (k:=1) hC fun _=>rfl
   have x7:=dmV hC
   rw [<-hC]at cL
   have hs:kids.length<=1048576:=Nat.le_of_lt (Nat.lt_trans hu (by decide))
   have xx:ZZ.length=kids.length:=by rw [h3,hh]
   have hH:LL.length<=1048576:=Nat.le_trans hP (by decide)
   have hJ:=fun(g:Gd)(hg:g= @G0 bp0 prog 0 f37.ntmps)(Q':Exit->List (Nat×AV)->EH->Prop) hQ'=>wu hg (Q:=Q') ns hl V hV rtl n s0 row ⟨im,iN⟩ ih al ⟨am,an⟩ w0 w1 ha hb kids K hK hs ht IN hd KB xi vI vL vZ vC vT ZZ CC hz hw S0 xx hM LL h2 hH ho hA hQ'
   rw [<-hq,<-hy]at hJ
   obtain⟨S1,xt⟩:=nmE (rq q ns S0 ZZ (LL.zip CC))
   have hN:S1.length=kids.length:=by rw [xt,tC,fC ho,hA,dl]
   rw [<-xt]at hJ⊢
   have h6:=dB s0
   obtain⟨fe,h0⟩:=nmE (lx s0)
   rw [<-h0]at h6
   have hR:q.s=s0:=by rw [hq]
   have xX:q.w=⟨w0,w1⟩:=by rw [hq]
   have xV:q.h=⟨ha,hb⟩:=by rw [hq]
   have xW:q.row=row:=by rw [hq]
   obtain⟨fl,ft,fr,fb⟩:=fe
   have hX:=dY fl ft fr fb
   have hW:=d5 fl ft fr fb
   obtain⟨hU,hc⟩:=nmE (vw ao.c S1)
   have xY:=lmV hc
   have yr:=imV hc
   have xE:=kmV (k:=7) hc fun _=>rfl
   have h9:=dmV hc
   have hL:=fun(g:Gd)(hg:g= @G0 bp0 prog 0 f37.ntmps)(Q':Exit->List (Nat×AV)->EH->Prop) E hE hQ'=>wt hg (Q:=Q') V rtl n s0 row ⟨im,iN⟩ ih al ⟨am,an⟩ w0 w1 ha hb K IN hd vI vL vZ hU vC vT fl ft fr fb kids hK hs I xC hh ZZ CC ST S1 hz hw hC hc xv xx hN h0.symm LL h2 hH ho hA E hE hQ'
   rw [<-hq]at hL
   obtain⟨FF,xg⟩:=nmE (ux q rtl I IN hd ZZ S1 ST 0 (LL.zip CC))
   have xJ:FF.length=kids.length:=by rw [xg,pQ,fC ho,hA,dl]
   rw [<-xg]at hL⊢
   have yx:0<kids.length:=List.length_pos_iff.2 hkn
   obtain⟨f0,FT,xd⟩:∃f t,FF=f::t:=by
    cases FF with
    |nil=>simp at xJ;omega
    |cons a b=>exact⟨_,_,rfl⟩
   obtain⟨h4,hv⟩:∃y,S1[(0:Int).toNat]? =some y:=⟨_,zqc (by show 0<S1.length;omega)⟩
   have hS:sdZ S1 0=h4:=vG (Int.le_refl 0) hv
   obtain⟨vF,he⟩:=nmE (vw aG.c FF)
   have yk:=lmV he
   have yy:=imV he
   have yA:=kmV (k:=5) he fun _=>rfl
   have yu:=dmV he
   have pF:=pmV he
   have xf:vF[(0:Int).toNat]? =some (lc (aG.c f0)):=by rw [he,xd];rfl
   have xe:(0:Int)<aD vF:=by rw [he,bg];omega
   have xs:hU[(0:Int).toNat]? =some (lc (ao.c h4)):=by rw [hc];exact bu hv
   obtain⟨A1,xa⟩:=nmE (adE fl fr)
   obtain⟨A2,xb⟩:=nmE (adE ft fb)
   change PC0 _ _ (.i (adE fl fr))at hX
   change PC0 _ _ (.i (adE ft fb))at hW
   rw [<-xa]at hX
   rw [<-xb]at hW
   obtain⟨XW,hZ⟩:=nmE ((if row then IN else hd))
   obtain⟨XH,hY⟩:=nmE ((if row then hd else IN))
   obtain⟨W1,xw⟩:=nmE (wrap64 (XW+A1))
   obtain⟨H1,xh⟩:=nmE (wrap64 (XH+A2))
   obtain⟨BB,xc⟩:=nmE (wrap64 (f0.y+h4.base))
   have h7:=dL w0 w1 W1
   have h8:=dL ha hb H1
   have h5:=ar BB
   obtain⟨R1,xl⟩:=nmE (tak ⟨w0,w1⟩ W1);(try rw [<-xl]at h7)
   obtain⟨R2,xm⟩:=nmE (tak ⟨ha,hb⟩ H1);(try rw [<-xm]at h8)
   obtain⟨R3,xn⟩:=nmE (cl BB);(try rw [<-xn]at h5)
   have hO:(zE q IN hd FF S1).wide=R1/\(zE q IN hd FF S1).high=R2/\(zE q IN hd FF S1).base=R3/\(zE q IN hd FF S1).frames=FF:=by
    rw [xl,xm,xn,xw,xh,xc,hZ,hY,xa,xb]
    unfold zE
    rw [hR,xX,xV,xW,<-h0,hS,xd]
    exact⟨rfl,rfl,rfl,rfl⟩
   rw [hO.1,hO.2.1,hO.2.2.1,hO.2.2.2,<-he]
   have t1:∀g:Gd,g=G0 prog 0 f37.ntmps->g .w .add .i64 XW A1=W1:=fun g hg=>by rw [aJ hg,xw]
   have t2:∀g:Gd,g=G0 prog 0 f37.ntmps->g .w .add .i64 XH A2=H1:=fun g hg=>by rw [aJ hg,xh]
   have t3:∀g:Gd,g=G0 prog 0 f37.ntmps->g .w .add .i64 f0.y h4.base=BB:=fun g hg=>by rw [aJ hg,xc]
   have xF:∀g:Gd,g=G0 prog 0 f37.ntmps->g .rp (g .ln K) [.J 0,.J 0,.J 0,.J 0,.J 0]=vw aG.c (List.replicate kids.length ⟨0,0,0,0,0⟩):=fun g hg=>by
    rw [DS hg,bH hg,hK,bg,Int.toNat_natCast];exact zL aG.c kids.length ⟨0,0,0,0,0⟩
   have xk:K.length<=1048576:=by rw [hK,ak];exact hs
   have pS:=pmV hy
   have t0:∀g:Gd,g=G0 prog 0 f37.ntmps->g .q .eql s0.wrap 1=decide (s0.wrap=1):=fun g hg=>by rw [bB hg];exact zqn _ _
   have xD:∀g:Gd,g=G0 prog 0 f37.ntmps->g .q .eql (g .ln K) 0=false:=fun g hg=>by
    rw [bB hg,bH hg,hK,bg]
    have:kids.length≠0:=fun h=>hkn (zqv h)
    exact beq_eq_false_iff_ne.2 (by omega)
   clear hO xl xm xn xw xh xc xa xb h0 hR xX xV xW hS xd xJ xg xt hv hN hM hh xx hP xy hA ho hTT xi xK xH xu xM hq hp hbx ht
   refine ae (aP f37) aC func37 fun g F hg hF=> ?_
   have t0:=t0 g hg
   have xD:=xD g hg
   have t1:=t1 g hg
   have t2:=t2 g hg
   have t3:=t3 g hg
   have xF:=xF g hg
   have hJ:=hJ g hg
   have hL:=hL g hg
   cbv
   (repeat'((first|rw [xD]|refine ad hg hn ?_|refine ad hg cy ?_|refine ad hg ci ?_|refine ad hg cN ?_|refine ce hg cs (dg rfl) yq ?_|refine ce hg cC (sN rfl (ay (be rfl) (ay (bA (ab:=⟨_,_,vS⟩) rfl x6 xG) (aU)))) xZ ?_|refine eY hg cC (sN rfl (ay (be rfl) (ay (bA (ab:=⟨_,_,vS⟩) rfl x6 xG) (aU)))) xZ ?_|refine uG hg cT (ay (bA (ab:=⟨_,_,vC⟩) rfl hT hD) (ay (be rfl) (aU))) rfl ?_|refine oH hg cT (ay (bA (ab:=⟨_,_,vC⟩) rfl hT hD) (ay (be rfl) (aU))) rfl ?_|refine ad hg cG ?_|refine ad hg cK ?_|refine aa hg cK ?_);cbv))
   by_cases hw1:s0.wrap=1
   all_goals
    first|rw [if_pos hw1]at xz|rw [if_neg hw1]at xz
    rw [xz]at cL
    first|rw [zqu hw1]at t0|rw [zqt hw1]at t0
    (repeat'((first|rw [t0]|refine ce hg cL (ay (bA (ab:=⟨_,_,vC⟩) rfl hT hD) (ay (be rfl) (ay (be rfl) (ay (be rfl) (aU))))) x5 ?_|refine eY hg cL (ay (bA (ab:=⟨_,_,vC⟩) rfl hT hD) (ay (be rfl) (ay (be rfl) (ay (be rfl) (aU))))) x5 ?_|refine ad hg cB ?_);cbv))
    refine iu hg (je (aP f37) 0) (by kernel_rfl) [(4,.p 0),(6,.p 1),(7,.p 2),(8,.p 3),(9,.p 4),(11,.v vI),(12,.v vL),(13,.i (IN)),(14,.v vZ),(15,.o 5),(16,.v vC),(18,.i (hd)),(20,.v vT),(21,.i (KB)),(116,.v vL),(117,.i (g .ln vL)),(118,.i (0))] [.bx 70 3 (jM V rtl),.bx 44 2 [.J w0,.J w1],.bx 44 2 [.J ha,.J hb],.bx 47 4 [.J 0,.J 0,.J 0,.N],.bx 98 75 (plL n s0 ⟨w0,w1⟩ ⟨ha,hb⟩ row ⟨im,iN⟩ ih al ⟨am,an⟩ (.view K)),.rw ⟨117,7,vS⟩] (bO (sl2 7 8 vC vT) (Dt rfl hT hD rfl ys x7) (Wk.weak (wkG [some _,some _,some _,some _,some _,some 6] ⟨rfl,rfl,rfl,rfl,rfl,rfl,rfl,rfl,rfl,rfl,rfl,rfl,rfl,rfl,rfl,rfl,rfl,trivial⟩ ⟨wqE rfl rfl,wqE rfl rfl,wqE rfl rfl,wqE rfl rfl,wqE rfl rfl,⟨_,_,rfl,rfl,rfl,rfl,.inl (bU pS)⟩,trivial⟩ (by decide) aq))) ?_
    refine hJ _ fun z1 E1 x9=> ?_
    obtain rfl:hU=E1:=by rw [x9,hc]
    cbv
    ((repeat'((first|refine ad hg h6 ?_|refine aa hg h6 ?_);cbv)))
    refine DT hg (by decide) xk ?_
    cbv
    generalize hE0:g .rp (g .ln K) _=E3
    have xI:E3=vw aG.c (List.replicate kids.length ⟨0,0,0,0,0⟩):=by rw [<-hE0];exact xF
    clear hE0
    have yt:=pmV xI
    refine iu hg (je (aP f37) 2) (by kernel_rfl) [(4,.p 0),(6,.p 1),(7,.p 2),(8,.p 3),(9,.p 4),(11,.v vI),(12,.v vL),(13,.i (IN)),(14,.v vZ),(15,.v hU),(16,.v vC),(18,.i (hd)),(20,.v vT),(28,.p 5),(29,.o 6),(210,.v vL),(211,.i (g .ln vL)),(212,.i (0))] [.bx 70 3 (jM V rtl),.bx 44 2 [.J w0,.J w1],.bx 44 2 [.J ha,.J hb],.bx 47 4 [.J 0,.J 0,.J 0,.N],.bx 98 75 (plL n s0 ⟨w0,w1⟩ ⟨ha,hb⟩ row ⟨im,iN⟩ ih al ⟨am,an⟩ (.view K)),.bx 32 4 [.J fl,.J ft,.J fr,.J fb],.rw ⟨50,5,E3⟩] (bO (sl1 5 hU) (kL rfl xE h9) (Wk.weak (wkG [some _,some _,some _,some _,some _,some 6,some 7] ⟨rfl,rfl,rfl,rfl,rfl,rfl,rfl,rfl,rfl,rfl,rfl,rfl,rfl,rfl,rfl,rfl,rfl,rfl,trivial⟩ ⟨wqE rfl rfl,wqE rfl rfl,wqE rfl rfl,wqE rfl rfl,wqE rfl rfl,wqE rfl rfl,⟨_,_,rfl,rfl,rfl,rfl,.inl (bU yt)⟩,trivial⟩ (by decide) aq))) ?_
    refine hL _ E3 xI fun z2 E2 ya=> ?_
    obtain rfl:vF=E2:=by rw [ya,he]
    cbv
    cases row
    all_goals
     (try simp only [Bool.false_eq_true,if_false]at hZ hY)
     (try simp only [if_true]at hZ hY)
     subst hZ hY
     (try cbv)
     ((repeat'((first|rw [t1]|rw [t2]|rw [t3]|refine ad hg hX ?_|refine aa hg hX ?_|refine ad hg hW ?_|refine aa hg hW ?_|refine ad hg h7 ?_|refine aa hg h7 ?_|refine ad hg h8 ?_|refine aa hg h8 ?_|refine ad hg h5 ?_|refine aa hg h5 ?_|refine goX hg _ (Int.le_refl 0) xs rfl ?_|refine goY hg (Int.le_refl 0) xe fun j hj yw=> ?_;subst hj|refine⟨_,xf,?_⟩);cbv)))
     exact ni hF rfl pF
theorem tG{ns:List af}:∀(f:Nat)(k n:Int),0<=k->0<l9 ns f (k+1) n->l9 ns (f+1) k n=l9 ns f (k+1) n-1
 |0,k,n,h0,h=>by
  by_cases hn:n=0
  ·subst hn;rw [gN,gN];omega
  ·rw [p7 ns hn]at h;omega
 |f+1,k,n,h0,h=>by
  by_cases hn:n=0
  ·subst hn;rw [gN,gN];omega
  ·by_cases hi:isN ns n=true
   ·rw [eV ns hn hi]at h
    rw [eV ns hn hi,eV ns hn hi]
    exact tG f (k+1) (upN ns n) (by omega) h
   ·rw [nr ns (f+1) (k+1) n hn (by simpa using hi)]at h;omega
theorem oQ(h:aM ns=true)(hn:isN ns n=true):1<=kC ns n/\kC ns n<=4:=by
 obtain⟨n1,n2,x,hx⟩:=aZ hn
 simp only [aM,zqs]at h
 have:=(en ns ns 0).1 h.2 _ x hx
 simp only [aR,zqs,rng,zqp]at this
 have h2:=this.2.1
 rw [show(0:Int)+(((n-1).toNat:Nat):Int)+1=n by omega]at h2
 exact h2
theorem zU(h:aM ns=true){x:af}(h1:1<=n)(hx:ns[(n-1).toNat]? =some x):∀k∈x.kids,upN ns k=n:=fun k ha=>by
 simp only [aM,zqs]at h
 have:=(en ns ns 0).1 h.2 _ x hx
 simp only [aR,zqs,zqf,dz,zqp]at this
 have:=(this.2.2.2.1 k ha).2
 omega
theorem Ar(h:aM ns=true){x:af}(h1:1<=n)(hx:ns[(n-1).toNat]? =some x):∀k∈x.kids,kC ns k=kC ns n+1:=fun k ha=>by
 have hk:=ij h h1 hx k ha
 obtain⟨k1,k2,y,hy⟩:=aZ hk
 have hu:=zU h h1 hx k ha
 have hd:=oQ h hk
 obtain⟨L,hL⟩:∃L,ns.length=L+1:=⟨ns.length-1,by omega⟩
 unfold kC at hd⊢
 rw [hL]at hd⊢
 rw [eV ns (by omega) hk,hu]at hd⊢
 have:=tG (ns:=ns) L 0 n (Int.le_refl 0) (by omega)
 rw [this];omega
theorem AN{x:af}(hx:ns[(n-1).toNat]? =some x):∀k∈flK ns n,k∈x.kids:=fun k hk=>by
 rw [zn hx,qr]at hk
 exact(List.mem_filter.1 hk).1
theorem ka{ns:List af}(hl:ns.length<=1048576)(hs:∀y∈ns,af.small y)(ht:aM ns=true)(rtl:Bool):∀(f:Nat)(n:Int),isN ns n=true->5<=kC ns n+(f:Int)->Bo (vwA af.ac ns) rtl (uX ns rtl f) n
 |0,n,hn,hd=>by have:=oQ ht hn;omega
 |f+1,n,hn,hd=>by
  obtain⟨n1,n2,x,hx⟩:=aZ hn
  have hb:=vo ht n1 hx
  have ha:=ij ht n1 hx
  refine rQ _ rtl _ n (qO ns hl n x hn hx (by omega) ha ?_ rtl (uX ns rtl f) fun kid hk=> ?_)
  ·have:=hs x (zqd hx)
   exact this.2.1
  ·have hm:=AN hx kid hk
   have:=Ar ht n1 hx kid hm
   exact rR _ rtl _ kid (ka hl hs ht rtl f kid (ha kid hm) (by omega))
theorem Cl{w h:aI}(hO:zd ns n w h=true):aM ns=true/\isN ns n=true/\1<=n/\n<=(ns.length:Int)/\∃x,ns[(n-1).toNat]? =some x/\x.kids.length<=12/\∀k∈x.kids,isN ns k=true:=by
 simp only [zd,zqs]at hO
 obtain⟨hT,hI,_⟩:=hO
 obtain⟨n1,n2,x,hx⟩:=aZ hI
 exact⟨hT,hI,n1,n2,x,hx,vo hT n1 hx,ij hT n1 hx⟩
def sbO(ns:List af)(n:Int)(w h:aI)(rtl:Bool):lQ:=if zd ns n w h=false then⟨0,0,0,[]⟩else uX ns rtl 4 n w h
section
variable {P:Program}{n0 N:Nat}{g:Gd}
end
theorem m6(ns:List af)(hl:ns.length<=1048576)(hs:∀y∈ns,af.small y)(n a b c d:Int)(rtl:Bool):du prog 13 [.agg [.view (vwA af.ac ns)],ai n,agP ⟨a,b⟩,agP ⟨c,d⟩,abl rtl] (su (sbO ns n ⟨a,b⟩ ⟨c,d⟩ rtl)):=by
 have cO:=pJ ns hl hs n a b c d
 unfold sbO su
 cases hO:zd ns n ⟨a,b⟩ ⟨c,d⟩
 case false=>
  rw [hO]at cO
  simp only [if_true]
  rw [show vw aG.c ([]:List aG)=[]from rfl]
  obtain⟨V,hV⟩:=nmE (vwA af.ac ns)
  rw [<-hV]at cO⊢
  refine ae (aP f13) aC func13 fun g F hg hF=> ?_
  cbv
  repeat'((first|refine ad hg cO ?_|refine aa hg cO ?_);cbv)
  exact tA hF
 obtain⟨hT,hI,n1,n2,x,hx,hd,hc⟩:=Cl hO
 rw [hO]at cO
 simp only [Bool.true_eq_false,if_false]
 have cb:=ka hl hs hT rtl 4 n hI (by have:=oQ hT hI;omega) a b c d
 unfold su at cb
 obtain⟨q,hq⟩:=nmE (uX ns rtl 4 n ⟨a,b⟩ ⟨c,d⟩)
 rw [<-hq]at cb⊢
 have hb:aN (vw aG.c q.frames)=true:=aF _ _
 obtain⟨FR,ha⟩:=nmE (vw aG.c q.frames);(try rw [<-ha]at cb);(try rw [<-ha]at hb);(try rw [<-ha]at⊢)
 obtain⟨V,hV⟩:=nmE (vwA af.ac ns)
 rw [<-hV]at cO cb⊢
 clear ha hq
 refine ae (aP f13) aC func13 fun g F hg hF=> ?_
 cbv
 repeat'((first|refine ad hg cO ?_|refine aa hg cO ?_);cbv)
 refine mc hg cb rfl hb ?_
 cbv
 exact ni hF rfl hb
def DP:ah:={ah.of (fun _=>0) (fun _=>false)with dir:=2,wrap:=1,justify:=1,items:=1,content:=2}
def mH:ah:={DP with dir:=1}
def uN(ns:List af)(s:ah)(i:Int):List af:=inN (jN ns s) 1 (nv ns s) i
def xl(s:Nat->ah)(ns:List af):Nat->List af
 |0=>ns
 |i+1=>uN (xl s ns i) (s i) (i:Int)
theorem jJ(ns:List af)(hl:ns.length<=1048576)(hs:∀y∈ns,af.small y)(s:ah):(jN ns s).length<=1048576/\∀y∈jN ns s,af.small y:=by
 unfold jN
 split
 ·rename_i h
  simp only [rr,zqs,zqp]at h
  refine⟨by rw [zqe,zqm];omega,fun y hy=> ?_⟩
  rcases List.mem_append.1 hy with h1|h1
  ·exact hs y h1
  ·rw [List.mem_singleton.1 h1]
   exact⟨by simp,by simp,trivial⟩
 ·exact⟨hl,hs⟩
instance:DecidableEq zG:=fun⟨a⟩⟨b⟩=>decidable_of_iff (a=b) (by simp)
instance:DecidableEq af:=fun⟨a0,a1,a2,a3,a4⟩⟨b0,b1,b2,b3,b4⟩=>decidable_of_iff (a0=b0/\a1=b1/\a2=b2/\a3=b3/\a4=b4) (by simp)
theorem kz(s:Nat->ah)(ns:List af)(hl:ns.length<=1048576)(hs:∀y∈ns,af.small y):∀i,(xl s ns i).length<=1048576/\∀y∈xl s ns i,af.small y
 |0=>⟨hl,hs⟩
 |i+1=>by
  obtain⟨h1,h2⟩:=kz s ns hl hs i
  obtain⟨h3,h4⟩:=jJ _ h1 h2 (s i)
  obtain⟨h5,h6,-⟩:=Ct _ h3 h4 1 (nv (xl s ns i) (s i)) i
  exact⟨h5,h6⟩
end Go.Proofs.YtbnplcingdgaaaaGreat
