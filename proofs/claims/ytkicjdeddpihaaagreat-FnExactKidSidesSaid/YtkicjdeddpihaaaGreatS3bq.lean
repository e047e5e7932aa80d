/- What the layout's laws share; the program's KidBase, KidItems. -/
import Derived.Test.YtkicjdeddpihaaaGreatS3bp
set_option linter.unusedVariables false
set_option linter.unusedSimpArgs false
set_option maxHeartbeats 16000000
namespace Go.Proofs.YtkicjdeddpihaaaGreat
open Go.ChangeShapes Go.WideShapes Go.ChangeAt Go.RowKit Am Go.Proofs.Tryz
set_option maxRecDepth 100000
theorem CK{g:Gd}(hg:g= @G0 bp0 prog 0 f98.ntmps){Q:Exit->List (Nat×AV)->EH->Prop}(V:LLA)(rtl:Bool)(n:Int)(s0:ak)(row:Bool)(iw ih al ac:az)(w0 w1 h0' h1':Int)(K:LLA)(IN AC':Int)(vI vL vZ vS vC vT:LLA)(fl ft fr fb:Int)(kids:List Int)(hK:K=vw ah kids)(hkl:kids.length<=1048576)(I:List ag)(hvI:vI=vw ag.c I)(hIl:I.length=kids.length)(ZZ CC ST:List Int)(S1:List ar)(hvZ:vZ=vw ah ZZ)(hvC:vC=vw ah CC)(hvT:vT=vw ah ST)(hvS:vS=vw ar.c S1)(hTl:ST.length<=1048576)
  (hzl:ZZ.length=kids.length) (hsl:S1.length=kids.length) (hf:oE s0=⟨fl,ft,fr,fb⟩) (LL:List (List Int)) (hH:vL=vwA lnA LL) (hLl:LL.length<=1048576) (hcl:CC.length=LL.length) (hfl:LL.flatten=ixs 0 kids.length)
  (E:LLA) (hE:E=vw aX.c (List.replicate kids.length ⟨0,0,0,0,0⟩))
  (hQ:∀(z:Int)(E:LLA),E=vw aX.c (xU ⟨s0,row,⟨w0,w1⟩,⟨h0',h1'⟩,iw,ih,al,ac,kids⟩ rtl I IN AC' ZZ S1 ST 0 (LL.zip CC))->Q (.exit 4) [(213,.t (abl (false))),(4,.p 0),(6,.p 1),(7,.p 2),(8,.p 3),(9,.p 4),(11,.v vI),(12,.v vL),(13,.i (IN)),(14,.v vZ),(15,.v vS),(16,.v vC),(18,.i (AC')),(20,.v vT),(28,.p 5),(29,.o 6),(210,.v vL),(211,.i (g .ln vL)),(212,.i (z))] [.bx 78 3 (nm V rtl),.bx 34 2 [.J w0,.J w1],.bx 34 2 [.J h0',.J h1'],.bx 43 4 [.J 0,.J 0,.J 0,.N],.bx 80 75 (plL n s0 ⟨w0,w1⟩ ⟨h0',h1'⟩ row iw ih al ac (.view K)),.bx 62 4 [.J fl,.J ft,.J fr,.J fb],.rw ⟨156,5,E⟩]):
  g .L (my (aK f98) 2) Q [(4,.p 0),(6,.p 1),(7,.p 2),(8,.p 3),(9,.p 4),(11,.v vI),(12,.v vL),(13,.i (IN)),(14,.v vZ),(15,.v vS),(16,.v vC),(18,.i (AC')),(20,.v vT),(28,.p 5),(29,.o 6),(210,.v vL),(211,.i (g .ln vL)),(212,.i (0))] [.bx 78 3 (nm V rtl),.bx 34 2 [.J w0,.J w1],.bx 34 2 [.J h0',.J h1'],.bx 43 4 [.J 0,.J 0,.J 0,.N],.bx 80 75 (plL n s0 ⟨w0,w1⟩ ⟨h0',h1'⟩ row iw ih al ac (.view K)),.bx 62 4 [.J fl,.J ft,.J fr,.J fb],.rw ⟨156,5,E⟩]:=by
 have hI:vL=(LL.zip CC).map (fun t=>lnA t.1):=by rw [hH];exact qF hcl
 have hJ:(LL.zip CC).map (·.1)=LL:=fB hcl
 have ho:(LL.zip CC).length<=1048576:=by rw [zqB];exact Nat.le_trans (Nat.min_le_left ..) hLl
 have hu:=fun{i t} h=>xW (a:=LL) (b:=CC) (i:=i) (t:=t) h
 have hV:∀l∈LL,∀i∈l,0<=i/\i<(kids.length:Int):=fun l hl i hi=>by
  have:i∈LL.flatten:=List.mem_flatten.2 ⟨l,hl,hi⟩
  rw [hfl,lN]at this
  omega
 obtain⟨qs,hC⟩:=nmE (LL.zip CC)
 rw [<-hC]at hI hJ ho hQ
 simp only [<-hC]at hu
 have hT:(qs.map (·.1)).flatten=ixs 0 kids.length:=by rw [hJ];exact hfl
 obtain⟨q,hq⟩:∃q:Pl,q=⟨s0,row,⟨w0,w1⟩,⟨h0',h1'⟩,iw,ih,al,ac,kids⟩:=⟨_,rfl⟩
 rw [<-hq]at hQ
 obtain⟨D1,hN⟩:=nmE (xU q rtl I IN AC' ZZ S1 ST 0 qs)
 rw [<-hN]at hQ
 have xc:I.length<=1048576:=by omega
 have cG:=hP s0 row
 have hU:DB q=gu s0 row:=by rw [hq];rfl
 have xe:q.s.justify=s0.justify:=by rw [hq]
 have ht:=fun(zo c lb:Int)(h1:0<=zo)(h2:CC[zo.toNat]? =some c) PS vP h3 h4 l L h5 h6 done h7 h8 E h9 Q' hQ'=>Eg hg (Q:=Q') V rtl n s0 row iw ih al ac w0 w1 h0' h1' K IN AC' vI vL vZ vS vC vT fl ft fr fb zo kids hK I ZZ CC ST PS S1 hvZ hvC hvT hvS vP h3 h4 hTl hzl hsl hf h1 c h2 lb l L h5 h6 done h7 h8 E h9 hQ'
 simp only [<-hq]at ht
 obtain⟨G,hG⟩:=nmE (gu s0 row);(try rw [<-hG]at cG);(try rw [<-hG]at hU)
 replace hH:=hI
 have pE:=pmV hE
 refine aY hg ay (by kernel_rfl) vL (fun t=>lnA t.1) qs hH ho (fun z(s:Int×List aX×LLA)=>[(4,.p 0),(6,.p 1),(7,.p 2),(8,.p 3),(9,.p 4),(11,.v vI),(12,.v vL),(13,.i (IN)),(14,.v vZ),(15,.v vS),(16,.v vC),(18,.i (AC')),(20,.v vT),(28,.p 5),(29,.o 6),(210,.v vL),(211,.i (g .ln vL)),(212,.i (z))]) (fun z(s:Int×List aX×LLA)=>[.bx 78 3 (nm V rtl),.bx 34 2 [.J w0,.J w1],.bx 34 2 [.J h0',.J h1'],.bx 43 4 [.J 0,.J 0,.J 0,.N],.bx 80 75 (plL n s0 ⟨w0,w1⟩ ⟨h0',h1'⟩ row iw ih al ac (.view K)),.bx 62 4 [.J fl,.J ft,.J fr,.J fb],.rw ⟨156,5,s.2.2⟩]) (fun z(s:Int×List aX×LLA)=>s.1=z/\s.2.2=vw aX.c (s.2.1++List.replicate (kids.length-s.2.1.length) ⟨0,0,0,0,0⟩)) (fun(s:Int×List aX×LLA) rest=>(s.2.1++xU q rtl I IN AC' ZZ S1 ST s.1 rest,ixs 0 s.2.1.length++(rest.map (·.1)).flatten)) ((D1,ixs 0 kids.length)) (0,[],E) (by rw [hN];exact Prod.ext rfl hT) ⟨rfl,hE⟩ (Wk.weak (wkG [some _,some _,some _,some _,some _,some _,some 6] ⟨rfl,rfl,rfl,rfl,rfl,rfl,rfl,rfl,rfl,rfl,rfl,rfl,rfl,rfl,rfl,rfl,rfl,rfl,trivial⟩ ⟨wqE rfl rfl,wqE rfl rfl,wqE rfl rfl,wqE rfl rfl,wqE rfl rfl,wqE rfl rfl,wqE rfl pE,trivial⟩ (by decide) aD)) (fun z s B hz h0 hi he=> ?_) (fun z s x rest B z0 z1 z2 hx hy h0 hi hc e1 hB=> ?_)
 ·obtain⟨k,D,E1⟩:=s
  obtain⟨i1,i2⟩:=hi
  obtain⟨hs,hk⟩:=Prod.mk.inj h0
  dsimp only at i1 i2
  obtain rfl:D=D1:=by simpa [xU]using hs
  have xa:D.length=kids.length:=by
   have:=congrArg List.length hk
   simpa [bX]using this
  have hQ:=hQ z E1 (by rw [i2,xa,Nat.sub_self,List.replicate_zero,List.append_nil])
  cbv;rw [he];cbv
  exact hQ
 ·obtain⟨k,done,E1⟩:=s
  obtain⟨l,c⟩:=x
  obtain⟨i1,i2⟩:=hi
  obtain⟨hs,hk⟩:=Prod.mk.inj h0
  dsimp only at i1 i2 hy hs hk
  subst i1
  obtain⟨L,hL⟩:=nmE (vw ah l)
  have xh:vL[k.toNat]? =some [.view L]:=by rw [hL];exact hy
  have hF:=oh hk
  rw [bX]at hF
  have hn:=mo (l:=l) (ls:=rest.map (fun t:List Int×Int=>t.1)) hF.2.2
  have hd:l.length<=1048576:=Nat.le_trans hn.1 (Nat.le_trans (Nat.sub_le ..) hkl)
  have hA:=hV l (zqd (hu hx).1)
  have hM:=pmV i2
  have hX:done.length+l.length<=kids.length:=by have:=hn.1;omega
  have hp:=ik I l xc hd
  have hr:=ky S1 l (by omega) hd (fun i hi=>by have:=hA i hi;omega)
  have hv:=oC (pck S1 l) (Nat.le_trans (vl S1 l) hd)
  have hh:(l.map (elZ ZZ)).length<=1048576:=by rw [zql];exact hd
  have hj:=ow (lit I l) (l.map (elZ ZZ)) G IN s0.justify (Nat.le_trans rS hd) hh
  obtain⟨PS,hw⟩:=nmE (H4 q I IN ZZ l)
  have ha:alg (lit I l) (l.map (elZ ZZ)) G IN s0.justify=PS:=by rw [hw];unfold H4;rw [hU,xe]
  rw [ha]at hj
  have xd:PS.length<=1048576:=by
   rw [<-ha]
   exact Nat.le_trans (Hm _ _ _ _ _) hh
  obtain⟨lb,hb⟩:=nmE (bas (pck S1 l))
  rw [<-hb]at hv
  obtain⟨LI,hR⟩:=nmE (vw ag.c (lit I l));(try rw [<-hR]at hp);(try rw [<-hR]at hj)
  obtain⟨PK,hS⟩:=nmE (vw ar.c (pck S1 l));(try rw [<-hS]at hr);(try rw [<-hS]at hv)
  rw [<-hvI,<-hL]at hp
  rw [<-hvS,<-hL]at hr
  obtain⟨W,hW⟩:=nmE (vw ah (l.map (elZ ZZ)))
  have xk:W.length=(l.map (elZ ZZ)).length:=by rw [hW,av]
  have iW:=imV hW
  have kW:=kmV (k:=1) hW fun _=>rfl
  have dW:=dmV hW
  rw [<-hW]at hj
  obtain⟨vP,hm⟩:=nmE (vw ah PS)
  have xg:=lmV hm
  have hY:=imV hm
  have xi:=kmV (k:=1) hm fun _=>rfl
  have hZ:=dmV hm
  rw [<-hm]at hj
  have xf:∀i∈l,0<=i/\i<(ZZ.length:Int):=fun i hi=>by have:=hA i hi;omega
  have ht:=ht k c lb z0 (hu hx).2 PS vP hm xd l L hL hd done (by simpa using hn.2.1) hX E1 i2
  have h3:∀D,D=done++sI q rtl IN AC' ZZ S1 (elZ ST k) c lb PS 0 l->(D++xU q rtl I IN AC' ZZ S1 ST (k+1) rest,ixs 0 D.length++(rest.map (·.1)).flatten)=(D1,ixs 0 kids.length):=fun D hD=>Prod.ext (by
   rw [<-hs,hD,hb,hw,zqC];rfl) (by
   show ixs 0 D.length++(rest.map (·.1)).flatten=ixs 0 kids.length
   rw [<-hk,hD,zqe,mr,jY,zqC]
   congr 1
   rw [zqA,List.flatten_cons]
   congr 1
   exact hn.2.1.symm)
  clear hF hn hX hk hT hJ hu hI hq hC hA hV ha hw hb hvI hvS hh
  cbv
  rw [hc]
  cbv
  refine goX hg _ z0 xh rfl ?_
  cbv
  refine lI hg (my (aK f98) 3) (by kernel_rfl) [(4,.p 0),(6,.p 1),(7,.p 2),(8,.p 3),(9,.p 4),(11,.v vI),(12,.v vL),(13,.i (IN)),(14,.v vZ),(15,.v vS),(16,.v vC),(18,.i (AC')),(20,.v vT),(28,.p 5),(29,.o 6),(210,.v vL),(211,.i (g .ln vL)),(212,.i (k)),(30,.i (k)),(31,.v L),(32,.o 7),(217,.v L),(218,.i (g .ln L)),(219,.i (0))] [.bx 78 3 (nm V rtl),.bx 34 2 [.J w0,.J w1],.bx 34 2 [.J h0',.J h1'],.bx 43 4 [.J 0,.J 0,.J 0,.N],.bx 80 75 (plL n s0 ⟨w0,w1⟩ ⟨h0',h1'⟩ row iw ih al ac (.view K)),.bx 62 4 [.J fl,.J ft,.J fr,.J fb],.rw ⟨156,5,E1⟩,.rw ⟨3,1,[]⟩] (Wk.weak (wkG [some _,some _,some _,some _,some _,some _,some _,none] ⟨rfl,rfl,rfl,rfl,rfl,rfl,rfl,rfl,rfl,rfl,rfl,rfl,rfl,rfl,rfl,rfl,rfl,rfl,rfl,rfl,rfl,rfl,rfl,rfl,trivial⟩ ⟨wqE rfl rfl,wqE rfl rfl,wqE rfl rfl,wqE rfl rfl,wqE rfl rfl,wqE rfl rfl,wqE rfl hM,⟨_,rfl,rfl⟩,trivial⟩ (by decide) aD)) ?_
  refine Eh hg V rtl n s0 row iw ih al ac w0 w1 h0' h1' K IN AC' vI vL vZ vS vC vT fl ft fr fb k E1 hM ZZ hvZ l L hL hd xf fun z2 E2 xb=> ?_
  obtain rfl:W=E2:=by rw [xb,hW]
  cbv
  (repeat'((first|refine aa hg cG ?_|refine aa hg hp ?_|refine ad hg hr ?_|refine ad hg hv ?_|refine bQ hg hj (ao (aw rfl) (ao (bf (ab:=⟨_,_,W⟩) rfl kW dW) (ao (aw rfl) (ao (aw rfl) (ao (aw rfl) (aC)))))) hY ?_);cbv))
  refine lI hg (my (aK f98) 4) (by kernel_rfl) [(4,.p 0),(6,.p 1),(7,.p 2),(8,.p 3),(9,.p 4),(11,.v vI),(12,.v vL),(13,.i (IN)),(14,.v vZ),(15,.v vS),(16,.v vC),(18,.i (AC')),(20,.v vT),(28,.p 5),(29,.o 6),(210,.v vL),(211,.i (g .ln vL)),(212,.i (k)),(30,.i (k)),(31,.v L),(35,.v vP),(36,.i (lb)),(249,.v L),(250,.i (g .ln L)),(251,.i (0))] [.bx 78 3 (nm V rtl),.bx 34 2 [.J w0,.J w1],.bx 34 2 [.J h0',.J h1'],.bx 43 4 [.J 0,.J 0,.J 0,.N],.bx 80 75 (plL n s0 ⟨w0,w1⟩ ⟨h0',h1'⟩ row iw ih al ac (.view K)),.bx 62 4 [.J fl,.J ft,.J fr,.J fb],.rw ⟨156,5,E1⟩] (bH (sl1 8 vP) (jD rfl xi hZ) (Wk.weak (wkG [some _,some _,some _,some _,some _,some _,some 6] ⟨rfl,rfl,rfl,rfl,rfl,rfl,rfl,rfl,rfl,rfl,rfl,rfl,rfl,rfl,rfl,rfl,rfl,rfl,rfl,rfl,rfl,rfl,rfl,rfl,rfl,trivial⟩ ⟨wqE rfl rfl,wqE rfl rfl,wqE rfl rfl,wqE rfl rfl,wqE rfl rfl,wqE rfl rfl,⟨_,_,rfl,rfl,rfl,rfl,.inl (bG hM)⟩,trivial⟩ (by decide) aD))) ?_
  refine ht _ fun z3 E3 D hD hO=> ?_
  have xj:=pmV hO
  cbv
  (repeat'(rw [e1];cbv))
  skip
  exact hB ((k+1,D,E3)) _ _ ⟨h3 D hD,⟨rfl,hO⟩⟩ (Wk.weak (wkG [some _,some _,some _,some _,some _,some _,some 6] ⟨rfl,rfl,rfl,rfl,rfl,rfl,rfl,rfl,rfl,rfl,rfl,rfl,rfl,rfl,rfl,rfl,rfl,rfl,trivial⟩ ⟨wqE rfl rfl,wqE rfl rfl,wqE rfl rfl,wqE rfl rfl,wqE rfl rfl,wqE rfl rfl,wqE rfl xj,trivial⟩ (by decide) aD))
theorem oZ(cs:List Int)(gap inner ct:Int)(hl:cs.length<=64):cV prog 235 [.c (.view (vw ah cs)),ai gap,ai inner,ai ct] fun res hm=>res= .o 0/\hm=[⟨3,1,vw ah (pll cs gap inner ct)⟩]:=by
 have cT:=gd cs gap (by omega)
 have cA:=lz cs gap inner (by omega)
 have cJ:=oX ct
 have cS:=bP (wrap64 (inner-crt cs gap))
 have cL:=nH (sg (wrap64 (inner-crt cs gap))) (cs.length:Int) (wD ct)
 have cB:=fun(h:(cs.length:Int)<=12)=>ko (sg (wrap64 (inner-crt cs gap))) (cs.length:Int) (wD ct) (by omega) h
 have ha:=fun i(h0:0<=i)(h1:i<(cs.length:Int))=>Fk (sg (wrap64 (inner-crt cs gap))) (cs.length:Int) (wD ct) h0 h1
 have hd:acr cs gap inner=true->(cs.length:Int)<=12:=fun h=>by simp only [acr,zqs,zqp]at h;exact h.2.1
 obtain⟨R,hR⟩:=nmE (pll cs gap inner ct)
 rw [<-hR]
 unfold pll at hR
 obtain⟨BW,hp⟩:=nmE (btw (sg (wrap64 (inner-crt cs gap))) (cs.length:Int) (wD ct))
 rw [<-hp]at hR ha
 obtain⟨SC,hs⟩:=nmE (spc (sg (wrap64 (inner-crt cs gap))) (cs.length:Int) (wD ct))
 rw [<-hs]at cB ha
 obtain⟨T,hT⟩:=nmE (crt cs gap);(try rw [<-hT]at cT);(try rw [<-hT]at cS);(try rw [<-hT]at cL);(try rw [<-hT]at cB);(try rw [<-hT]at hR)
 obtain⟨LD,hr⟩:=nmE (led (sg (wrap64 (inner-T))) (cs.length:Int) (wD ct));(try rw [<-hr]at cL);(try rw [<-hr]at hR)
 obtain⟨fr,hj⟩:=nmE (sg (wrap64 (inner-T)));(try rw [<-hj]at cS);(try rw [<-hj]at cL);(try rw [<-hj]at cB)
 obtain⟨D,hD⟩:=nmE (wrap64 (inner-T));(try rw [<-hD]at cS)
 obtain⟨js,hk⟩:=nmE (wD ct);(try rw [<-hk]at cJ);(try rw [<-hk]at cL);(try rw [<-hk]at cB)
 obtain⟨A,hA⟩:=nmE (acr cs gap inner);(try rw [<-hA]at cA);(try rw [<-hA]at hR);(try rw [<-hA]at hd)
 obtain⟨V,hV⟩:=nmE (vw ah cs)
 have hI:=lmV hV
 have iV:=imV hV
 have kV:=kmV (k:=1) hV fun _=>rfl
 have dV:=dmV hV
 have hf:aM V=(cs.length:Int):=by rw [hV,aN]
 rw [<-hV]at cT cA
 rw [<-hV]
 have hG:0<=(cs.length:Int):=by omega
 obtain⟨n,hn⟩:=nmE ((cs.length:Int));(try rw [<-hn]at hf);(try rw [<-hn]at cL);(try rw [<-hn]at cB);(try rw [<-hn]at hd);(try rw [<-hn]at hG);(try rw [<-hn]at ha)
 have ht:∀i:Int,0<=i->i<n->(vw ah SC)[i.toNat]? =some [.J (if i+1<n then BW i else 0)]:=fun i i0 i1=>ba (ha i i0 i1)
 obtain⟨Y,hY⟩:=nmE (vw ah SC);(try rw [<-hY]at cB);(try rw [<-hY]at ht)
 clear ha hs hp
 refine ae (aK f235) ay func235 fun g F hg hF=> ?_
 have t4:g .ln V=n:=by rw [bA hg,hf]
 have e0:g .w .sub .i64 inner T=D:=by rw [dq hg,hD]
 cases hA2:A
 ·rw [hA2]at cA hR
  cbv
  (repeat'(refine ad hg cA ?_;cbv))
  obtain rfl:R=[]:=hR
  exact bR hF rfl rfl
 rw [hA2]at cA hR
 replace hR:R=plG BW gap 0 LD cs:=hR
 replace hd:=hd hA2
 replace cB:=cB hd
 cbv
 (repeat'((first|rw [e0]|rw [t4]|refine ad hg cA ?_|refine ad hg cJ ?_|refine ad hg cT ?_|refine ad hg cS ?_|refine ad hg cL ?_|refine ad hg cB ?_);cbv))
 refine aY hg ay (by kernel_rfl) V (fun x=>lc (ah x)) cs hV (by omega) (fun z(s:Int×List Int×LLA)=>[(0,.v V),(1,.i (gap)),(9,.o 0),(11,.i (s.1)),(12,.v Y),(13,.i (z))]) (fun z(s:Int×List Int×LLA)=>[.rw ⟨3,1,s.2.2⟩]) (fun z(s:Int×List Int×LLA)=>s.2.2=vw ah s.2.1/\(s.2.1.length:Int)=z) (fun(s:Int×List Int×LLA) rest=>(s.2.1++plG BW gap (s.2.1.length:Int) s.1 rest,(s.2.1.length:Int)+rest.length)) ((R,n)) (LD,[],[]) (by rw [hR,hn];simp) ⟨rfl,rfl⟩ (Wk.weak (wkG [some 0] zr6 ⟨wqE rfl rfl,trivial⟩ (by decide) aD)) (fun z s B hz h0 hi he=> ?_) (fun z s x rest B z0 z1 z2 hx hy h0 hi hc e1 hB=> ?_)
 ·obtain⟨a,hb,E⟩:=s
  obtain⟨i1,i2⟩:=hi
  dsimp only at i1 i2 h0
  have pE:=pmV i1
  obtain rfl:hb=R:=by simpa [plG]using congrArg Prod.fst h0
  rw [<-i1]at hF
  cbv;rw [he];cbv
  exact bR hF rfl pE
 ·obtain⟨a,hb,E⟩:=s
  obtain⟨i1,i2⟩:=hi
  dsimp only at i1 i2 h0
  have ho:hb++plG BW gap (hb.length:Int) a (x::rest)=R:=congrArg Prod.fst h0
  have hv:(hb.length:Int)+((rest.length+1:Nat):Int)=n:=congrArg Prod.snd h0
  clear h0
  have hE:E.length<=1048576:=by rw [i1,av];omega
  have zn:z<n:=by rw [hf]at z1;exact z1
  have hu:=ht z z0 zn
  obtain⟨bw,hh⟩:∃b,b=if z+1<n then BW z else 0:=⟨_,rfl⟩
  rw [<-hh]at hu
  have nl:((hb++[a]).length:Int)=z+1:=by simp;omega
  have hw:(hb++[a])++plG BW gap ((hb++[a]).length:Int) (wrap64 (wrap64 (wrap64 (a+x)+gap)+bw)) rest=R:=by
   rw [<-ho,i2]
   cases rest with
   |nil=>simp [plG]
   |cons y rest=>
    simp only [zqx]at hv
    rw [hh,if_pos (by omega),nl]
    simp only [plG,zqC,List.singleton_append]
    rw [show wrap64 (wrap64 (wrap64 (a+x)+gap)+BW z)=wrap64 (a+wrap64 (wrap64 (x+gap)+BW z)) by simp only [nt,tZ];rw [show a+x+gap+BW z=a+(x+gap+BW z) by omega]]
  have hC:((hb++[a]).length:Int)+rest.length=n:=by rw [nl];omega
  have e2:g .w .add .i64 a x=wrap64 (a+x):=aJ hg _ _
  have e3:g .w .add .i64 (wrap64 (a+x)) gap=wrap64 (wrap64 (a+x)+gap):=aJ hg _ _
  have e4:g .w .add .i64 (wrap64 (wrap64 (a+x)+gap)) bw=wrap64 (wrap64 (wrap64 (a+x)+gap)+bw):=aJ hg _ _
  have aE:E++[[.J a]]=vw ah (hb++[a]):=by rw [i1,bu];rfl
  obtain⟨E2,hq⟩:∃E2,E2=E++[[.J a]]:=⟨_,rfl⟩
  rw [<-hq]at aE
  have hH:=pmV aE
  clear ho hh
  generalize wrap64 (wrap64 (wrap64 (a+x)+gap)+bw)=Q1 at *
  generalize wrap64 (wrap64 (a+x)+gap)=Q2 at *
  generalize wrap64 (a+x)=Q3 at *
  cbv
  rw [hc]
  cbv
  (repeat'((first|rw [e1]|rw [e2]|rw [e3]|rw [e4]|refine goX hg _ (by omega) hy rfl ?_|refine goX hg _ (by omega) hu rfl ?_|refine dz hg rfl (by decide) hE ?_;cbv;rw [ia hg,<-hq]);cbv))
  exact hB ((Q1,hb++[a],E2)) _ _ ⟨Prod.ext hw hC,⟨aE,nl⟩⟩ (Wk.weak (wkG [some 2] zr6 ⟨wqE rfl hH,trivial⟩ (by decide) aD))
theorem oY(cs:List Int)(gap inner ct:Int)(hl:cs.length<=64):PC0 235 [.c (.view (vw ah cs)),ai gap,ai inner,ai ct] (.t (.c (.view (vw ah (pll cs gap inner ct))))):=xT (oZ cs gap inner ct hl) fun _=>rfl
theorem yl(sp:Int->Int)(gap:Int):∀(cs:List Int)(i a:Int),(plG sp gap i a cs).length=cs.length
 | [],_,_=>rfl
 |c::r,i,a=>by simp only [plG,zqx,yl sp gap r]
theorem GG(cs:List Int)(gap inner ct:Int):(pll cs gap inner ct).length<=cs.length:=by
 unfold pll
 split
 ·exact Nat.zero_le _
 ·rw [yl];exact Nat.le_refl _
variable {ns:List af}{n:Int}
theorem Fv{x:af}(h:ns[(n-1).toNat]? =some x):nod ns n=x:=by
 unfold nod;rw [h];rfl
theorem sn{x:af}(h:ns[(n-1).toNat]? =some x):flK ns n=iA (i6 ns) (x.kids.filter (mz ns)):=by
 unfold flK vN;rw [h]
theorem xr(ns:List af)(hl:ns.length<=1048576)(n:Int)(x:af)(h1:isN ns n=true)(hx:ns[(n-1).toNat]? =some x)(hkl:x.kids.length<20)(hk:∀k∈x.kids,isN ns k=true)(hrl:x.table.rules.length<=1048576)(rtl:Bool)(b:Bv)(hbx:∀kid∈flK ns n,yY (vwA af.ac ns) rtl b kid):F7 (vwA af.ac ns) rtl (Ib b ns rtl) n:=by
 intro w0 w1 ha hb
 have b2:=bD h1
 have cP:=oc ns n x hl b2.1 (by have:=b2.2.1;omega) hx hkl hk rtl w0 w1 ha hb
 have xl:flK ns n=iA (i6 ns) (x.kids.filter (mz ns)):=sn hx
 have ht:∀k∈flK ns n,isN ns k=true:=fun k h=>hk k (by rw [xl]at h;exact(List.mem_filter.1 ((wU _ _ _).1 h)).1)
 have hu:(flK ns n).length<20:=by rw [xl,lA];exact Nat.lt_of_le_of_lt (List.length_filter_le _ _) hkl
 rw [<-xl]at cP
 obtain⟨p,hp⟩:=nmE (plO ns n ⟨w0,w1⟩ ⟨ha,hb⟩)
 have hn:PC0 39 [.agg (nm (vwA af.ac ns) rtl),ai n,agP ⟨w0,w1⟩,agP ⟨ha,hb⟩] (.t (.agg (plL n p.s p.w p.h p.row p.wide p.high p.al p.ac (.view (vw ah p.kids))))):=by
  rw [hp]
  unfold plO
  rw [jg hx]
  exact cP
 clear cP
 have xR:kst ns n=x.style:=jg hx
 have yi:nod ns n=x:=Fv hx
 have yj:p.w=⟨w0,w1⟩/\p.h=⟨ha,hb⟩/\p.s=x.style/\p.wide=inW x.style ⟨w0,w1⟩/\p.kids=flK ns n:=by rw [hp];exact⟨rfl,rfl,jg hx,by show inW (kst ns n) _=_;rw [xR],rfl⟩
 obtain⟨e1,e2,e3,e4,e5⟩:=yj
 unfold Fc Ib
 rw [yi,xR,<-hp,<-e1,<-e2,<-e3,<-e5]
 have yq:inW p.s p.w=p.wide:=by rw [e3,e1,e4]
 rw [yq]
 rw [<-e5]at ht hu hbx
 have cy:=dv ns n x b2.1 (by have:=b2.2.1;omega) hx (vwA af.ac ns) _ _ rfl rfl rfl
 obtain⟨s0,row,w,h,iw,ih,al,ac,kids⟩:=p
 dsimp only at *
 subst e1 e2
 have cl:=xf n s0 ⟨w0,w1⟩ ⟨ha,hb⟩ row iw ih al ac (vw ah kids)
 have ci:=kv ns hl rtl b n ⟨s0,row,⟨w0,w1⟩,⟨ha,hb⟩,iw,ih,al,ac,kids⟩ (by dsimp only;omega) ht hbx
 have cs:=fun zs yr=>kt ns hl rtl b n ⟨s0,row,⟨w0,w1⟩,⟨ha,hb⟩,iw,ih,al,ac,kids⟩ zs (by dsimp only;omega) yr ht hbx
 obtain⟨V,hV⟩:=nmE (vwA af.ac ns)
 rw [<-hV]at cy hn ci⊢
 simp only [<-hV]at cs
 obtain⟨Kx,xO⟩:=nmE (vw ah x.kids)
 obtain⟨Rx,xs⟩:=nmE (vw aI.c x.table.rules)
 rw [<-xO,<-xs]at cy
 obtain⟨im,iN⟩:=iw
 have cR:=j8 im iN
 have cW:=r9 x.table.rules (iv ⟨im,iN⟩) hrl
 rw [<-xs]at cW
 have yh:∀q:km,km.ac q=[.J q.wide,.J q.high,.J q.base,.view (vw aX.c q.frames)]:=fun q=>rfl
 obtain⟨x0,x1,x2,x3,x4⟩:=x
 dsimp only at *
 by_cases hB:x3=true
 ·rw [if_pos hB]
  subst hB
  obtain⟨RO,xq⟩:=nmE (iv ⟨im,iN⟩);(try rw [<-xq]at cR);(try rw [<-xq]at cW);(try rw [<-xq]at⊢)
  obtain⟨⟨q0,q1⟩,hq⟩:∃q,q=wnt x4.rules RO:=⟨_,rfl⟩
  rw [<-hq]at cW⊢
  have cl:=cl q0 q1
  obtain⟨LF,hG⟩:=nmE (Bb s0 ⟨w0,w1⟩ ⟨ha,hb⟩ (q0,q1));(try rw [<-hG]at cl);(try rw [<-hG]at⊢)
  have hf:aB (vw aX.c LF.frames)=true:=aG _ _
  obtain⟨FR,hr⟩:=nmE (vw aX.c LF.frames);(try rw [<-hr]at cl);(try rw [<-hr]at hf);(try rw [<-hr]at⊢)
  obtain⟨K,hK⟩:=nmE (vw ah kids)
  have xm:=lmV hK
  have iK:=imV hK
  have kK:=kmV (k:=1) hK fun _=>rfl
  have dK:=dmV hK
  rw [<-hK]at hn cl
  clear ci cs hp hbx ht
  refine ae (aK f98) ay func98 fun g F hg hF=> ?_
  cbv
  (repeat'((first|refine ad hg hn ?_|refine ad hg cy ?_|refine aa hg cR ?_|refine aa hg cW ?_|refine Ao hg cl (fz rfl) hf ?_);cbv))
  exact wh hF rfl hf
 ·rw [if_neg hB]
  replace hB:x3=false:=by simpa using hB
  subst hB
  by_cases hkn:kids=[]
  ·rw [if_pos hkn]
   have cl:=cl 0 0
   obtain⟨LF,hG⟩:=nmE (Bb s0 ⟨w0,w1⟩ ⟨ha,hb⟩ (0,0));(try rw [<-hG]at cl);(try rw [<-hG]at⊢)
   have hf:aB (vw aX.c LF.frames)=true:=aG _ _
   obtain⟨FR,hr⟩:=nmE (vw aX.c LF.frames);(try rw [<-hr]at cl);(try rw [<-hr]at hf);(try rw [<-hr]at⊢)
   clear ci cs hp hbx ht
   subst hkn
   refine ae (aK f98) ay func98 fun g F hg hF=> ?_
   have t0:g .ln ([]:LLA)=0:=by rw [bA hg];rfl
   have t1:g .q .eql (0:Int) 0=true:=by rw [bm hg];rfl
   cbv
   (repeat'((first|rw [t0]|rw [t1]|refine ad hg hn ?_|refine ad hg cy ?_|refine wu hg cl rfl hf ?_);cbv))
   exact wh hF rfl hf
  ·rw [if_neg hkn]
   clear cW cR cl xs xO
   obtain⟨q,hq⟩:∃q:Pl,q=⟨s0,row,⟨w0,w1⟩,⟨ha,hb⟩,⟨im,iN⟩,ih,al,ac,kids⟩:=⟨_,rfl⟩
   rw [<-hq]at ci cs⊢
   have yk:q.kids=kids:=by rw [hq]
   unfold Jk
   rw [yk]
   have ci:=xT ci (fun _=>rfl)
   have hh:=om b q rtl ns kids
   obtain⟨I,hI⟩:=nmE (xu b q rtl ns kids)
   rw [<-hI]at ci hh⊢
   have xM:I.length<=1048576:=by rw [hh];exact Nat.le_of_lt (Nat.lt_trans hu (by decide))
   have cN:=nX n s0 ⟨w0,w1⟩ ⟨ha,hb⟩ row ⟨im,iN⟩ ih al ac (vw ah kids) I xM
   have h4:=nv q I
   have cs:=cs (pv q I) (by rw [h4,hh])
   obtain⟨S0,xP⟩:=nmE (AG b q rtl ns (kids.zip (pv q I)))
   have hM:S0.length=kids.length:=by rw [xP,zA,zqB,h4,hh];exact Nat.min_self _
   rw [<-xP]at cs⊢
   change PC0 _ _ (.tup [.c (.view (vwA lnA (lns I (gu s0 row) (iv al) (!decide (s0.wrap=1))))),ai (tak al (lng I (gu s0 row) (iv al) (!decide (s0.wrap=1)))),.c (.view (vw ah (lsz I (gu s0 row) (iv al) (!decide (s0.wrap=1)) (tak al (lng I (gu s0 row) (iv al) (!decide (s0.wrap=1)))))))])at cN
   have hR:nj q I=lns I (gu s0 row) (iv al) (!decide (s0.wrap=1)):=by rw [hq];rfl
   have xS:Dz q I=tak al (lng I (gu s0 row) (iv al) (!decide (s0.wrap=1))):=by rw [hq];rfl
   have xV:pv q I=lsz I (gu s0 row) (iv al) (!decide (s0.wrap=1)) (tak al (lng I (gu s0 row) (iv al) (!decide (s0.wrap=1)))):=by rw [hq];rfl
   rw [<-xV,<-xS,<-hR]at cN
   have hA:(nj q I).flatten=ixs 0 kids.length:=by rw [hR,ml,hh]
   have hQ:(nj q I).length<=64:=by rw [hR];exact Nat.le_trans (ni ..) (by omega)
   have xA:∀l∈nj q I,l.length<=1048576/\∀i∈l,0<=i/\i<(S0.length:Int):=fun l hm=>by
    rw [hR]at hm
    exact⟨Nat.le_trans (jW hm) xM,fun i hi=>by have:=vq hm hi;omega⟩
   have cC:=o8 n s0 ⟨w0,w1⟩ ⟨ha,hb⟩ row ⟨im,iN⟩ ih al ac (vw ah kids) (nj q I) S0 (by omega) hQ xA
   have xW:yM q (nj q I) S0=EL s0 row ac (nj q I) S0:=by rw [hq];rfl
   rw [<-xW]at cC
   have ho:(yM q (nj q I) S0).length=(nj q I).length:=wq q _ _ hQ
   unfold Jl
   dsimp only
   obtain⟨LL,yf⟩:=nmE (nj q I)
   obtain⟨ZZ,yg⟩:=nmE (pv q I)
   obtain⟨IN,xN⟩:=nmE (Dz q I)
   rw [<-yf]at hA hQ xA cC ho cN⊢
   rw [<-yg]at h4 cs cN⊢
   rw [<-xN]at cN⊢
   obtain⟨CC,yc⟩:=nmE (yM q LL S0)
   rw [<-yc]at ho cC⊢
   clear hR xS xV xW
   have cG:=hP s0 (!row)
   have xX:uz q=gu s0 (!row):=by rw [hq];rfl
   have cT:=gp CC (uz q) (by rw [ho];omega)
   obtain⟨am,an⟩:=ac
   have cK:=fh am an (crt CC (uz q))
   have xY:Aw q CC=tak ⟨am,an⟩ (crt CC (uz q)):=by rw [hq];rfl
   rw [<-xY]at cK
   have cL:=pc CC (uz q) (Aw q CC) (ctP q) (by omega)
   have xB:ctP q=if s0.wrap=1 then 2 else s0.content:=by rw [hq];rfl
   rw [<-xX]at cG
   have xC:Hr q CC=pll CC (uz q) (Aw q CC) (ctP q):=rfl
   rw [<-xC]at cL
   obtain⟨GC,xL⟩:=nmE (uz q)
   obtain⟨hd,xI⟩:=nmE (Aw q CC)
   obtain⟨ST,xw⟩:=nmE (Hr q CC)
   rw [<-xL]at cG cT cK cL
   rw [<-xI]at cK cL⊢
   rw [<-xw]at cL⊢
   have xx:ST.length<=1048576:=by rw [xw,xC];exact Nat.le_trans (GG ..) (by omega)
   clear xX xY xC
   obtain⟨TT,xQ⟩:=nmE (crt CC GC)
   rw [<-xQ]at cT cK
   have cB:=eN am an
   obtain⟨KB,xk⟩:=nmE (knS ⟨am,an⟩)
   rw [<-xk]at cB
   obtain⟨K,hK⟩:=nmE (vw ah kids)
   have xm:=lmV hK
   have iK:=imV hK
   have kK:=kmV (k:=1) hK fun _=>rfl
   have dK:=dmV hK
   rw [<-hK]at hn ci cN cs cC
   obtain⟨vI,xD⟩:=nmE (vw ag.c I);(try rw [<-xD]at ci);(try rw [<-xD]at cN)
   obtain⟨vZ,hz⟩:=nmE (vw ah ZZ)
   have yp:=lmV hz
   have yB:=imV hz
   have yD:=kmV (k:=1) hz fun _=>rfl
   have yx:=dmV hz
   rw [<-hz]at cN cs
   obtain⟨vS,hy⟩:=nmE (vw ar.c S0)
   have yn:=lmV hy
   have ys:=imV hy
   have ya:=kmV (k:=7) hy fun _=>rfl
   have xH:=dmV hy
   rw [<-hy]at cs cC
   obtain⟨vC,hw⟩:=nmE (vw ah CC)
   have yl:=lmV hw
   have x8:=imV hw
   have hU:=kmV (k:=1) hw fun _=>rfl
   have hD:=dmV hw
   rw [<-hw]at cC cT cL
   obtain⟨vL,h3⟩:=nmE (vwA lnA LL);(try rw [<-h3]at cN);(try rw [<-h3]at cC)
   obtain⟨vT,hC⟩:=nmE (vw ah ST)
   have yo:=lmV hC
   have x9:=imV hC
   have yu:=kmV (k:=1) hC fun _=>rfl
   have yb:=dmV hC
   rw [<-hC]at cL
   have hs:kids.length<=1048576:=Nat.le_of_lt (Nat.lt_trans hu (by decide))
   have xz:ZZ.length=kids.length:=by rw [h4,hh]
   have hH:LL.length<=1048576:=Nat.le_trans hQ (by decide)
   have hJ:=fun(g:Gd)(hg:g= @G0 bp0 prog 0 f98.ntmps)(Q':Exit->List (Nat×AV)->EH->Prop) hQ'=>CL hg (Q:=Q') ns hl V hV rtl n s0 row ⟨im,iN⟩ ih al ⟨am,an⟩ w0 w1 ha hb kids K hK hs ht IN hd KB xk vI vL vZ vC vT ZZ CC hz hw S0 xz hM LL h3 hH ho hA hQ'
   rw [<-hq,<-hy]at hJ
   obtain⟨S1,xv⟩:=nmE (C1 q ns S0 ZZ (LL.zip CC))
   have hN:S1.length=kids.length:=by rw [xv,Ac,fB ho,hA,bX]
   rw [<-xv]at hJ⊢
   have h7:=fw s0
   obtain⟨fe,h2⟩:=nmE (oE s0)
   rw [<-h2]at h7
   have hS:q.s=s0:=by rw [hq]
   have x6:q.w=⟨w0,w1⟩:=by rw [hq]
   have xZ:q.h=⟨ha,hb⟩:=by rw [hq]
   have x5:q.row=row:=by rw [hq]
   obtain⟨fl,ft,fr,fb⟩:=fe
   have hY:=fT fl ft fr fb
   have hX:=fV fl ft fr fb
   obtain⟨hW,hc⟩:=nmE (vw ar.c S1)
   have x7:=lmV hc
   have yt:=imV hc
   have xF:=kmV (k:=7) hc fun _=>rfl
   have xa:=dmV hc
   have hL:=fun(g:Gd)(hg:g= @G0 bp0 prog 0 f98.ntmps)(Q':Exit->List (Nat×AV)->EH->Prop) E hE hQ'=>CK hg (Q:=Q') V rtl n s0 row ⟨im,iN⟩ ih al ⟨am,an⟩ w0 w1 ha hb K IN hd vI vL vZ hW vC vT fl ft fr fb kids hK hs I xD hh ZZ CC ST S1 hz hw hC hc xx xz hN h2.symm LL h3 hH ho hA E hE hQ'
   rw [<-hq]at hL
   obtain⟨FF,xi⟩:=nmE (xU q rtl I IN hd ZZ S1 ST 0 (LL.zip CC))
   have xK:FF.length=kids.length:=by rw [xi,we,fB ho,hA,bX]
   rw [<-xi]at hL⊢
   have yz:0<kids.length:=List.length_pos_iff.2 hkn
   obtain⟨f0,FT,xe⟩:∃f t,FF=f::t:=by
    cases FF with
    |nil=>simp at xK;omega
    |cons a b=>exact⟨_,_,rfl⟩
   obtain⟨h5,hv⟩:∃y,S1[(0:Int).toNat]? =some y:=⟨_,zqc (by show 0<S1.length;omega)⟩
   have hT:sdZ S1 0=h5:=wZ (Int.le_refl 0) hv
   obtain⟨vF,he⟩:=nmE (vw aX.c FF)
   have ym:=lmV he
   have yA:=imV he
   have yC:=kmV (k:=5) he fun _=>rfl
   have yw:=dmV he
   have pF:=pmV he
   have xh:vF[(0:Int).toNat]? =some (lc (aX.c f0)):=by rw [he,xe];rfl
   have xg:(0:Int)<aM vF:=by rw [he,aN];omega
   have xt:hW[(0:Int).toNat]? =some (lc (ar.c h5)):=by rw [hc];exact ba hv
   obtain⟨A1,xb⟩:=nmE (adE fl fr)
   obtain⟨A2,xc⟩:=nmE (adE ft fb)
   change PC0 _ _ (.i (adE fl fr))at hY
   change PC0 _ _ (.i (adE ft fb))at hX
   rw [<-xb]at hY
   rw [<-xc]at hX
   obtain⟨XW,h0⟩:=nmE ((if row then IN else hd))
   obtain⟨XH,hZ⟩:=nmE ((if row then hd else IN))
   obtain⟨W1,xy⟩:=nmE (wrap64 (XW+A1))
   obtain⟨H1,xj⟩:=nmE (wrap64 (XH+A2))
   obtain⟨BB,xd⟩:=nmE (wrap64 (f0.y+h5.base))
   have h8:=fh w0 w1 W1
   have h9:=fh ha hb H1
   have h6:=aZ BB
   obtain⟨R1,xn⟩:=nmE (tak ⟨w0,w1⟩ W1);(try rw [<-xn]at h8)
   obtain⟨R2,xo⟩:=nmE (tak ⟨ha,hb⟩ H1);(try rw [<-xo]at h9)
   obtain⟨R3,xp⟩:=nmE (cl BB);(try rw [<-xp]at h6)
   have hO:(F6 q IN hd FF S1).wide=R1/\(F6 q IN hd FF S1).high=R2/\(F6 q IN hd FF S1).base=R3/\(F6 q IN hd FF S1).frames=FF:=by
    rw [xn,xo,xp,xy,xj,xd,h0,hZ,xb,xc]
    unfold F6
    rw [hS,x6,xZ,x5,<-h2,hT,xe]
    exact⟨rfl,rfl,rfl,rfl⟩
   rw [hO.1,hO.2.1,hO.2.2.1,hO.2.2.2,<-he]
   have t1:∀g:Gd,g=G0 prog 0 f98.ntmps->g .w .add .i64 XW A1=W1:=fun g hg=>by rw [aJ hg,xy]
   have t2:∀g:Gd,g=G0 prog 0 f98.ntmps->g .w .add .i64 XH A2=H1:=fun g hg=>by rw [aJ hg,xj]
   have t3:∀g:Gd,g=G0 prog 0 f98.ntmps->g .w .add .i64 f0.y h5.base=BB:=fun g hg=>by rw [aJ hg,xd]
   have xG:∀g:Gd,g=G0 prog 0 f98.ntmps->g .rp (g .ln K) [.J 0,.J 0,.J 0,.J 0,.J 0]=vw aX.c (List.replicate kids.length ⟨0,0,0,0,0⟩):=fun g hg=>by
    rw [yE hg,bA hg,hK,aN,Int.toNat_natCast];exact qU aX.c kids.length ⟨0,0,0,0,0⟩
   have xm:K.length<=1048576:=by rw [hK,av];exact hs
   have pS:=pmV hy
   have t0:∀g:Gd,g=G0 prog 0 f98.ntmps->g .q .eql s0.wrap 1=decide (s0.wrap=1):=fun g hg=>by rw [bm hg];exact zqn _ _
   have xE:∀g:Gd,g=G0 prog 0 f98.ntmps->g .q .eql (g .ln K) 0=false:=fun g hg=>by
    rw [bm hg,bA hg,hK,aN]
    have:kids.length≠0:=fun h=>hkn (zqv h)
    exact beq_eq_false_iff_ne.2 (by omega)
   clear hO xn xo xp xy xj xd xb xc h2 hS x6 xZ x5 hT xe xK xi xv hv hN hM hh xz hQ xA hA ho xQ xk xL xI xw xN hq hp hbx ht
   refine ae (aK f98) ay func98 fun g F hg hF=> ?_
   have t0:=t0 g hg
   have xE:=xE g hg
   have t1:=t1 g hg
   have t2:=t2 g hg
   have t3:=t3 g hg
   have xG:=xG g hg
   have hJ:=hJ g hg
   have hL:=hL g hg
   cbv
   (repeat'((first|rw [xE]|refine ad hg hn ?_|refine ad hg cy ?_|refine ad hg ci ?_|refine ad hg cN ?_|refine bC hg cs (bn rfl) ys ?_|refine bC hg cC (bN rfl (ao (aw rfl) (ao (bf (ab:=⟨_,_,vS⟩) rfl ya xH) (aC)))) x8 ?_|refine fj hg cT (ao (bf (ab:=⟨_,_,vC⟩) rfl hU hD) (ao (aw rfl) (aC))) rfl ?_|refine ad hg cG ?_|refine aa hg cK ?_);cbv))
   by_cases hw1:s0.wrap=1
   all_goals
    first|rw [if_pos hw1]at xB|rw [if_neg hw1]at xB
    rw [xB]at cL
    first|rw [zqu hw1]at t0|rw [zqt hw1]at t0
    (repeat'((first|rw [t0]|refine bC hg cL (ao (bf (ab:=⟨_,_,vC⟩) rfl hU hD) (ao (aw rfl) (ao (aw rfl) (ao (aw rfl) (aC))))) x9 ?_|refine ad hg cB ?_);cbv))
    refine lI hg (my (aK f98) 0) (by kernel_rfl) [(4,.p 0),(6,.p 1),(7,.p 2),(8,.p 3),(9,.p 4),(11,.v vI),(12,.v vL),(13,.i (IN)),(14,.v vZ),(15,.o 5),(16,.v vC),(18,.i (hd)),(20,.v vT),(21,.i (KB)),(116,.v vL),(117,.i (g .ln vL)),(118,.i (0))] [.bx 78 3 (nm V rtl),.bx 34 2 [.J w0,.J w1],.bx 34 2 [.J ha,.J hb],.bx 43 4 [.J 0,.J 0,.J 0,.N],.bx 80 75 (plL n s0 ⟨w0,w1⟩ ⟨ha,hb⟩ row ⟨im,iN⟩ ih al ⟨am,an⟩ (.view K)),.rw ⟨96,7,vS⟩] (bH (sl2 7 8 vC vT) (Gw rfl hU hD rfl yu yb) (Wk.weak (wkG [some _,some _,some _,some _,some _,some 6] ⟨rfl,rfl,rfl,rfl,rfl,rfl,rfl,rfl,rfl,rfl,rfl,rfl,rfl,rfl,rfl,rfl,rfl,trivial⟩ ⟨wqE rfl rfl,wqE rfl rfl,wqE rfl rfl,wqE rfl rfl,wqE rfl rfl,⟨_,_,rfl,rfl,rfl,rfl,.inl (bG pS)⟩,trivial⟩ (by decide) aD))) ?_
    refine hJ _ fun z1 E1 yd=> ?_
    obtain rfl:hW=E1:=by rw [yd,hc]
    cbv
    ((repeat'(refine ad hg h7 ?_;cbv)))
    refine FM hg (by decide) xm ?_
    cbv
    generalize hE0:g .rp (g .ln K) _=E3
    have xJ:E3=vw aX.c (List.replicate kids.length ⟨0,0,0,0,0⟩):=by rw [<-hE0];exact xG
    clear hE0
    have yv:=pmV xJ
    refine lI hg (my (aK f98) 2) (by kernel_rfl) [(4,.p 0),(6,.p 1),(7,.p 2),(8,.p 3),(9,.p 4),(11,.v vI),(12,.v vL),(13,.i (IN)),(14,.v vZ),(15,.v hW),(16,.v vC),(18,.i (hd)),(20,.v vT),(28,.p 5),(29,.o 6),(210,.v vL),(211,.i (g .ln vL)),(212,.i (0))] [.bx 78 3 (nm V rtl),.bx 34 2 [.J w0,.J w1],.bx 34 2 [.J ha,.J hb],.bx 43 4 [.J 0,.J 0,.J 0,.N],.bx 80 75 (plL n s0 ⟨w0,w1⟩ ⟨ha,hb⟩ row ⟨im,iN⟩ ih al ⟨am,an⟩ (.view K)),.bx 62 4 [.J fl,.J ft,.J fr,.J fb],.rw ⟨156,5,E3⟩] (bH (sl1 5 hW) (jD rfl xF xa) (Wk.weak (wkG [some _,some _,some _,some _,some _,some 6,some 7] ⟨rfl,rfl,rfl,rfl,rfl,rfl,rfl,rfl,rfl,rfl,rfl,rfl,rfl,rfl,rfl,rfl,rfl,rfl,trivial⟩ ⟨wqE rfl rfl,wqE rfl rfl,wqE rfl rfl,wqE rfl rfl,wqE rfl rfl,wqE rfl rfl,⟨_,_,rfl,rfl,rfl,rfl,.inl (bG yv)⟩,trivial⟩ (by decide) aD))) ?_
    refine hL _ E3 xJ fun z2 E2 ye=> ?_
    obtain rfl:vF=E2:=by rw [ye,he]
    cbv
    cases row
    all_goals
     (try simp only [Bool.false_eq_true,if_false]at h0 hZ)
     (try simp only [if_true]at h0 hZ)
     subst h0 hZ
     (try cbv)
     ((repeat'((first|rw [t1]|rw [t2]|rw [t3]|refine aa hg hY ?_|refine aa hg hX ?_|refine aa hg h8 ?_|refine aa hg h9 ?_|refine aa hg h6 ?_|refine goX hg _ (Int.le_refl 0) xt rfl ?_|refine goY hg (Int.le_refl 0) xg fun j hj yy=> ?_;subst hj|refine⟨_,xh,?_⟩);cbv)))
     exact wh hF rfl pF
theorem Af{ns:List af}:∀(f:Nat)(k n:Int),0<=k->0<uF ns f (k+1) n->uF ns (f+1) k n=uF ns f (k+1) n-1
 |0,k,n,h0,h=>by
  by_cases hn:n=0
  ·subst hn;rw [mt,mt];omega
  ·rw [yK ns hn]at h;omega
 |f+1,k,n,h0,h=>by
  by_cases hn:n=0
  ·subst hn;rw [mt,mt];omega
  ·by_cases hi:isN ns n=true
   ·rw [kl ns hn hi]at h
    rw [kl ns hn hi,kl ns hn hi]
    exact Af f (k+1) (upN ns n) (by omega) h
   ·rw [wn ns (f+1) (k+1) n hn (by simpa using hi)]at h;omega
theorem ma(h:eV ns=true)(hn:isN ns n=true):1<=wo ns n/\wo ns n<=4:=by
 obtain⟨n1,n2,x,hx⟩:=bD hn
 simp only [eV,zqs]at h
 have:=(ka ns ns 0).1 h.2 _ x hx
 simp only [fJ,zqs,rng,zqp]at this
 have h2:=this.2.1
 rw [show(0:Int)+(((n-1).toNat:Nat):Int)+1=n by omega]at h2
 exact h2
theorem Gi(h:eV ns=true){x:af}(h1:1<=n)(hx:ns[(n-1).toNat]? =some x):∀k∈x.kids,upN ns k=n:=fun k ha=>by
 simp only [eV,zqs]at h
 have:=(ka ns ns 0).1 h.2 _ x hx
 simp only [fJ,zqs,zqf,ij,zqp]at this
 have:=(this.2.2.2.1 k ha).2
 omega
theorem CM(h:eV ns=true){x:af}(h1:1<=n)(hx:ns[(n-1).toNat]? =some x):∀k∈x.kids,wo ns k=wo ns n+1:=fun k ha=>by
 have hk:=jB h h1 hx k ha
 obtain⟨k1,k2,y,hy⟩:=bD hk
 have hu:=Gi h h1 hx k ha
 have hd:=ma h hk
 obtain⟨L,hL⟩:∃L,ns.length=L+1:=⟨ns.length-1,by omega⟩
 unfold wo at hd⊢
 rw [hL]at hd⊢
 rw [kl ns (by omega) hk,hu]at hd⊢
 have:=Af (ns:=ns) L 0 n (Int.le_refl 0) (by omega)
 rw [this];omega
theorem sm{x:af}(hx:ns[(n-1).toNat]? =some x):∀k∈flK ns n,k∈x.kids:=fun k hk=>by
 rw [sn hx,wU]at hk
 exact(List.mem_filter.1 hk).1
theorem od{ns:List af}(hl:ns.length<=1048576)(hs:∀y∈ns,af.small y)(ht:eV ns=true)(rtl:Bool):∀(f:Nat)(n:Int),isN ns n=true->5<=wo ns n+(f:Int)->Hq (vwA af.ac ns) rtl (tX ns rtl f) n
 |0,n,hn,hd=>by have:=ma ht hn;omega
 |f+1,n,hn,hd=>by
  obtain⟨n1,n2,x,hx⟩:=bD hn
  have hc:=uO ht n1 hx
  have hb:=jB ht n1 hx
  refine yA _ rtl _ n (xr ns hl n x hn hx (by omega) hb ?_ rtl (tX ns rtl f) fun ha hk=> ?_)
  ·have:=hs x (zqd hx)
   exact this.2.1
  ·have hm:=sm hx ha hk
   have:=CM ht n1 hx ha hm
   exact rX _ rtl _ ha (od hl hs ht rtl f ha (hb ha hm) (by omega))
theorem oe(hl:ns.length<=1048576)(hs:∀y∈ns,af.small y)(ht:eV ns=true)(rtl:Bool)(f:Nat)(n:Int)(hn:isN ns n=true)(hd:5<=wo ns n+(f:Int)):yY (vwA af.ac ns) rtl (tX ns rtl f) n:=
 rX _ rtl _ n (od hl hs ht rtl f n hn hd)
theorem zV{w h:az}(hO:Bu ns n w h=true):eV ns=true/\isN ns n=true/\1<=n/\n<=(ns.length:Int)/\∃x,ns[(n-1).toNat]? =some x/\x.kids.length<=12/\∀k∈x.kids,isN ns k=true:=by
 simp only [Bu,zqs]at hO
 obtain⟨hT,hI,_⟩:=hO
 obtain⟨n1,n2,x,hx⟩:=bD hI
 exact⟨hT,hI,n1,n2,x,hx,uO hT n1 hx,jB hT n1 hx⟩
theorem z9{x:af}(hx:ns[(n-1).toNat]? =some x)(hkl:x.kids.length<=12)(hkd:∀k∈x.kids,isN ns k=true):(flK ns n).length<=12/\∀k∈flK ns n,isN ns k=true:=
 ⟨by rw [sn hx,lA];exact Nat.le_trans (List.length_filter_le _ _) hkl,fun k h=>hkd k (sm hx k h)⟩
theorem n9(ns:List af)(hl:ns.length<=1048576)(n:Int)(x:af)(n1:1<=n)(n2:n<=(ns.length:Int))(hx:ns[(n-1).toNat]? =some x)(hkl:x.kids.length<=12)(hkd:∀k∈x.kids,isN ns k=true)(rtl:Bool)(a b c d:Int):∀p,p=plO ns n ⟨a,b⟩ ⟨c,d⟩->PC0 39 [.agg (nm (vwA af.ac ns) rtl),ai n,agP ⟨a,b⟩,agP ⟨c,d⟩] (.t (.agg (plL n p.s p.w p.h p.row p.wide p.high p.al p.ac (.view (vw ah p.kids))))):=by
 intro p hp
 have cP:=oc ns n x hl n1 (by omega) hx (by omega) hkd rtl a b c d
 rw [<-sn hx]at cP
 rw [hp]
 unfold plO
 rw [jg hx]
 exact cP
theorem uR(ns:List af)(hl:ns.length<=1048576)(hs:∀y∈ns,af.small y)(ht:eV ns=true)(n:Int)(x:af)(n1:1<=n)(n2:n<=(ns.length:Int))(hx:ns[(n-1).toNat]? =some x)(hkl:x.kids.length<=12)(hkd:∀k∈x.kids,isN ns k=true)(a b c d:Int):∀p,p=plO ns n ⟨a,b⟩ ⟨c,d⟩->PC0 34 [.agg [.view (vwA af.ac ns)],ai n,agP ⟨a,b⟩,agP ⟨c,d⟩] (.t (.agg (nwL n p.s p.row p.al p.ac (knS p.wide) (.view (vw ah p.kids))))):=by
 intro p hp
 have cP:=nw ns n x hs ht hl n1 n2 hx (by omega) hkd a b c d
 rw [<-sn hx]at cP
 rw [hp]
 unfold plO
 rw [jg hx]
 exact cP
def kzO(ns:List af)(n:Int)(w h:az)(rtl:Bool):List Int:=if Bu ns n w h=false then []else pv (plO ns n w h) (xu (tX ns rtl 4) (plO ns n w h) rtl ns (flK ns n))
def kdO(ns:List af)(n:Int)(w h:az)(rtl:Bool):List ar:=if Bu ns n w h=false then []else AG (tX ns rtl 4) (plO ns n w h) rtl ns ((flK ns n).zip (pv (plO ns n w h) (xu (tX ns rtl 4) (plO ns n w h) rtl ns (flK ns n))))
end Go.Proofs.YtkicjdeddpihaaaGreat
