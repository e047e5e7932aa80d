/- What the layout's laws share; the program's KidBase, KidItems. -/
import Derived.Test.YtkicjdeddpihaaaGreatS2bp
set_option linter.unusedVariables false
set_option linter.unusedSimpArgs false
set_option maxHeartbeats 16000000
namespace Go.Proofs.YtkicjdeddpihaaaGreat
open Go.ChangeShapes Go.WideShapes Go.ChangeAt Go.RowKit Am Go.Proofs.Tryz
set_option maxRecDepth 100000
theorem Ck{g:Gd}(hg:g= @G0 bp0 prog 0 f98.ntmps){Q:Exit->List (Nat×AV)->EH->Prop}(V:LLA)(rtl:Bool)(n:Int)(s0:ak)(row:Bool)(iw ih al ac:az)(w0 w1 h0' h1':Int)(K:LLA)(IN AC':Int)(vI vL vZ vS vC vT:LLA)(fl ft fr fb:Int)(kids:List Int)(hK:K=vw ah kids)(hkl:kids.length<=1048576)(I:List af)(hvI:vI=vw af.c I)(hIl:I.length=kids.length)(ZZ CC ST:List Int)(S1:List av)(hvZ:vZ=vw ah ZZ)(hvC:vC=vw ah CC)(hvT:vT=vw ah ST)(hvS:vS=vw av.c S1)(hTl:ST.length<=1048576)
  (hzl:ZZ.length=kids.length) (hsl:S1.length=kids.length) (hf:oh s0=⟨fl,ft,fr,fb⟩) (LL:List (List Int)) (hH:vL=vwA lnA LL) (hLl:LL.length<=1048576) (hcl:CC.length=LL.length) (hfl:LL.flatten=ixs 0 kids.length)
  (E:LLA) (hE:E=vw aX.c (List.replicate kids.length ⟨0,0,0,0,0⟩))
  (hQ:∀(z:Int)(E:LLA),E=vw aX.c (xx ⟨s0,row,⟨w0,w1⟩,⟨h0',h1'⟩,iw,ih,al,ac,kids⟩ rtl I IN AC' ZZ S1 ST 0 (LL.zip CC))->Q (.exit 4) [(213,.t (abl (false))),(4,.p 0),(6,.p 1),(7,.p 2),(8,.p 3),(9,.p 4),(11,.v vI),(12,.v vL),(13,.i (IN)),(14,.v vZ),(15,.v vS),(16,.v vC),(18,.i (AC')),(20,.v vT),(28,.p 5),(29,.o 6),(210,.v vL),(211,.i (g .ln vL)),(212,.i (z))] [.bx 78 3 (m6 V rtl),.bx 34 2 [.J w0,.J w1],.bx 34 2 [.J h0',.J h1'],.bx 43 4 [.J 0,.J 0,.J 0,.N],.bx 80 75 (plL n s0 ⟨w0,w1⟩ ⟨h0',h1'⟩ row iw ih al ac (.view K)),.bx 62 4 [.J fl,.J ft,.J fr,.J fb],.rw ⟨156,5,E⟩]):
  g .L (mh (aK f98) 2) Q [(4,.p 0),(6,.p 1),(7,.p 2),(8,.p 3),(9,.p 4),(11,.v vI),(12,.v vL),(13,.i (IN)),(14,.v vZ),(15,.v vS),(16,.v vC),(18,.i (AC')),(20,.v vT),(28,.p 5),(29,.o 6),(210,.v vL),(211,.i (g .ln vL)),(212,.i (0))] [.bx 78 3 (m6 V rtl),.bx 34 2 [.J w0,.J w1],.bx 34 2 [.J h0',.J h1'],.bx 43 4 [.J 0,.J 0,.J 0,.N],.bx 80 75 (plL n s0 ⟨w0,w1⟩ ⟨h0',h1'⟩ row iw ih al ac (.view K)),.bx 62 4 [.J fl,.J ft,.J fr,.J fb],.rw ⟨156,5,E⟩]:=by
 have hI:vL=(LL.zip CC).map (fun t=>lnA t.1):=by rw [hH];exact qj hcl
 have hJ:(LL.zip CC).map (·.1)=LL:=fz hcl
 have ho:(LL.zip CC).length<=1048576:=by rw [zqB];exact Nat.le_trans (Nat.min_le_left ..) hLl
 have hu:=fun{i t} h=>xA (a:=LL) (b:=CC) (i:=i) (t:=t) h
 have hU:∀l∈LL,∀i∈l,0<=i/\i<(kids.length:Int):=fun l hl i hi=>by
  have:i∈LL.flatten:=List.mem_flatten.2 ⟨l,hl,hi⟩
  rw [hfl,lI]at this
  omega
 obtain⟨qs,hC⟩:=nmE (LL.zip CC)
 rw [<-hC]at hI hJ ho hQ
 simp only [<-hC]at hu
 have hS:(qs.map (·.1)).flatten=ixs 0 kids.length:=by rw [hJ];exact hfl
 obtain⟨q,hq⟩:∃q:Pl,q=⟨s0,row,⟨w0,w1⟩,⟨h0',h1'⟩,iw,ih,al,ac,kids⟩:=⟨_,rfl⟩
 rw [<-hq]at hQ
 obtain⟨D1,hN⟩:=nmE (xx q rtl I IN AC' ZZ S1 ST 0 qs)
 rw [<-hN]at hQ
 have xb:I.length<=1048576:=by omega
 have cG:=gY s0 row
 have hT:Dd q=gp s0 row:=by rw [hq];rfl
 have xd:q.s.justify=s0.justify:=by rw [hq]
 have ht:=fun(zo c lb:Int)(h1:0<=zo)(h2:CC[zo.toNat]? =some c) PS vP h3 h4 l L h5 h6 done h7 h8 E h9 Q' hQ'=>DU hg (Q:=Q') V rtl n s0 row iw ih al ac w0 w1 h0' h1' K IN AC' vI vL vZ vS vC vT fl ft fr fb zo kids hK I ZZ CC ST PS S1 hvZ hvC hvT hvS vP h3 h4 hTl hzl hsl hf h1 c h2 lb l L h5 h6 done h7 h8 E h9 hQ'
 simp only [<-hq]at ht
 obtain⟨G,hG⟩:=nmE (gp s0 row);(try rw [<-hG]at cG);(try rw [<-hG]at hT)
 replace hH:=hI
 have pE:=pmV hE
 refine aY hg ay (by kernel_rfl) vL (fun t=>lnA t.1) qs hH ho (fun z(s:Int×List aX×LLA)=>[(4,.p 0),(6,.p 1),(7,.p 2),(8,.p 3),(9,.p 4),(11,.v vI),(12,.v vL),(13,.i (IN)),(14,.v vZ),(15,.v vS),(16,.v vC),(18,.i (AC')),(20,.v vT),(28,.p 5),(29,.o 6),(210,.v vL),(211,.i (g .ln vL)),(212,.i (z))]) (fun z(s:Int×List aX×LLA)=>[.bx 78 3 (m6 V rtl),.bx 34 2 [.J w0,.J w1],.bx 34 2 [.J h0',.J h1'],.bx 43 4 [.J 0,.J 0,.J 0,.N],.bx 80 75 (plL n s0 ⟨w0,w1⟩ ⟨h0',h1'⟩ row iw ih al ac (.view K)),.bx 62 4 [.J fl,.J ft,.J fr,.J fb],.rw ⟨156,5,s.2.2⟩]) (fun z(s:Int×List aX×LLA)=>s.1=z/\s.2.2=vw aX.c (s.2.1++List.replicate (kids.length-s.2.1.length) ⟨0,0,0,0,0⟩)) (fun(s:Int×List aX×LLA) rest=>(s.2.1++xx q rtl I IN AC' ZZ S1 ST s.1 rest,ixs 0 s.2.1.length++(rest.map (·.1)).flatten)) ((D1,ixs 0 kids.length)) (0,[],E) (by rw [hN];exact Prod.ext rfl hS) ⟨rfl,hE⟩ (Wk.weak (wkG [some _,some _,some _,some _,some _,some _,some 6] ⟨rfl,rfl,rfl,rfl,rfl,rfl,rfl,rfl,rfl,rfl,rfl,rfl,rfl,rfl,rfl,rfl,rfl,rfl,trivial⟩ ⟨wqE rfl rfl,wqE rfl rfl,wqE rfl rfl,wqE rfl rfl,wqE rfl rfl,wqE rfl rfl,wqE rfl pE,trivial⟩ (by decide) aD)) (fun z s B hz h0 hi he=> ?_) (fun z s x rest B z0 z1 z2 hx hy h0 hi hc e1 hB=> ?_)
 ·obtain⟨k,D,E1⟩:=s
  obtain⟨i1,i2⟩:=hi
  obtain⟨hs,hk⟩:=Prod.mk.inj h0
  dsimp only at i1 i2
  obtain rfl:D=D1:=by simpa [xx]using hs
  have hZ:D.length=kids.length:=by
   have:=congrArg List.length hk
   simpa [bX]using this
  have hQ:=hQ z E1 (by rw [i2,hZ,Nat.sub_self,List.replicate_zero,List.append_nil])
  cbv;rw [he];cbv
  exact hQ
 ·obtain⟨k,done,E1⟩:=s
  obtain⟨l,c⟩:=x
  obtain⟨i1,i2⟩:=hi
  obtain⟨hs,hk⟩:=Prod.mk.inj h0
  dsimp only at i1 i2 hy hs hk
  subst i1
  obtain⟨L,hL⟩:=nmE (vw ah l)
  have xg:vL[k.toNat]? =some [.view L]:=by rw [hL];exact hy
  have hF:=nX hk
  rw [bX]at hF
  have hn:=l9 (l:=l) (ls:=rest.map (fun t:List Int×Int=>t.1)) hF.2.2
  have hd:l.length<=1048576:=Nat.le_trans hn.1 (Nat.le_trans (Nat.sub_le ..) hkl)
  have hA:=hU l (zqd (hu hx).1)
  have hM:=pmV i2
  have hV:done.length+l.length<=kids.length:=by have:=hn.1;omega
  have hp:=ig I l xb hd
  have hr:=kq S1 l (by omega) hd (fun i hi=>by have:=hA i hi;omega)
  have hv:=oe (pck S1 l) (Nat.le_trans (uP S1 l) hd)
  have hh:(l.map (elZ ZZ)).length<=1048576:=by rw [zql];exact hd
  have hj:=n5 (lit I l) (l.map (elZ ZZ)) G IN s0.justify (Nat.le_trans rA hd) hh
  obtain⟨PS,hw⟩:=nmE (Hx q I IN ZZ l)
  have ha:alg (lit I l) (l.map (elZ ZZ)) G IN s0.justify=PS:=by rw [hw];unfold Hx;rw [hT,xd]
  rw [ha]at hj
  have xc:PS.length<=1048576:=by
   rw [<-ha]
   exact Nat.le_trans (GU _ _ _ _ _) hh
  obtain⟨lb,hb⟩:=nmE (bas (pck S1 l))
  rw [<-hb]at hv
  obtain⟨LI,hP⟩:=nmE (vw af.c (lit I l));(try rw [<-hP]at hp);(try rw [<-hP]at hj)
  obtain⟨PK,hR⟩:=nmE (vw av.c (pck S1 l));(try rw [<-hR]at hr);(try rw [<-hR]at hv)
  rw [<-hvI,<-hL]at hp
  rw [<-hvS,<-hL]at hr
  obtain⟨W,hW⟩:=nmE (vw ah (l.map (elZ ZZ)))
  have xj:W.length=(l.map (elZ ZZ)).length:=by rw [hW,ar]
  have iW:=imV hW
  have kW:=kmV (k:=1) hW fun _=>rfl
  have dW:=dmV hW
  rw [<-hW]at hj
  obtain⟨vP,hm⟩:=nmE (vw ah PS)
  have xf:=lmV hm
  have hX:=imV hm
  have xh:=kmV (k:=1) hm fun _=>rfl
  have hY:=dmV hm
  rw [<-hm]at hj
  have xe:∀i∈l,0<=i/\i<(ZZ.length:Int):=fun i hi=>by have:=hA i hi;omega
  have ht:=ht k c lb z0 (hu hx).2 PS vP hm xc l L hL hd done (by simpa using hn.2.1) hV E1 i2
  have h3:∀D,D=done++sj q rtl IN AC' ZZ S1 (elZ ST k) c lb PS 0 l->(D++xx q rtl I IN AC' ZZ S1 ST (k+1) rest,ixs 0 D.length++(rest.map (·.1)).flatten)=(D1,ixs 0 kids.length):=fun D hD=>Prod.ext (by
   rw [<-hs,hD,hb,hw,zqC];rfl) (by
   show ixs 0 D.length++(rest.map (·.1)).flatten=ixs 0 kids.length
   rw [<-hk,hD,zqe,mc,jT,zqC]
   congr 1
   rw [zqA,List.flatten_cons]
   congr 1
   exact hn.2.1.symm)
  clear hF hn hV hk hS hJ hu hI hq hC hA hU ha hw hb hvI hvS hh
  cbv
  rw [hc]
  cbv
  refine goX hg _ z0 xg rfl ?_
  cbv
  refine lA hg (mh (aK f98) 3) (by kernel_rfl) [(4,.p 0),(6,.p 1),(7,.p 2),(8,.p 3),(9,.p 4),(11,.v vI),(12,.v vL),(13,.i (IN)),(14,.v vZ),(15,.v vS),(16,.v vC),(18,.i (AC')),(20,.v vT),(28,.p 5),(29,.o 6),(210,.v vL),(211,.i (g .ln vL)),(212,.i (k)),(30,.i (k)),(31,.v L),(32,.o 7),(217,.v L),(218,.i (g .ln L)),(219,.i (0))] [.bx 78 3 (m6 V rtl),.bx 34 2 [.J w0,.J w1],.bx 34 2 [.J h0',.J h1'],.bx 43 4 [.J 0,.J 0,.J 0,.N],.bx 80 75 (plL n s0 ⟨w0,w1⟩ ⟨h0',h1'⟩ row iw ih al ac (.view K)),.bx 62 4 [.J fl,.J ft,.J fr,.J fb],.rw ⟨156,5,E1⟩,.rw ⟨3,1,[]⟩] (Wk.weak (wkG [some _,some _,some _,some _,some _,some _,some _,none] ⟨rfl,rfl,rfl,rfl,rfl,rfl,rfl,rfl,rfl,rfl,rfl,rfl,rfl,rfl,rfl,rfl,rfl,rfl,rfl,rfl,rfl,rfl,rfl,rfl,trivial⟩ ⟨wqE rfl rfl,wqE rfl rfl,wqE rfl rfl,wqE rfl rfl,wqE rfl rfl,wqE rfl rfl,wqE rfl hM,⟨_,rfl,rfl⟩,trivial⟩ (by decide) aD)) ?_
  refine DV hg V rtl n s0 row iw ih al ac w0 w1 h0' h1' K IN AC' vI vL vZ vS vC vT fl ft fr fb k E1 hM ZZ hvZ l L hL hd xe fun z2 E2 xa=> ?_
  obtain rfl:W=E2:=by rw [xa,hW]
  cbv
  (repeat'((first|refine aa hg cG ?_|refine aa hg hp ?_|refine ad hg hr ?_|refine ad hg hv ?_|refine bT hg hj (ao (aw rfl) (ao (bf (ab:=⟨_,_,W⟩) rfl kW dW) (ao (aw rfl) (ao (aw rfl) (ao (aw rfl) (aC)))))) hX ?_);cbv))
  refine lA hg (mh (aK f98) 4) (by kernel_rfl) [(4,.p 0),(6,.p 1),(7,.p 2),(8,.p 3),(9,.p 4),(11,.v vI),(12,.v vL),(13,.i (IN)),(14,.v vZ),(15,.v vS),(16,.v vC),(18,.i (AC')),(20,.v vT),(28,.p 5),(29,.o 6),(210,.v vL),(211,.i (g .ln vL)),(212,.i (k)),(30,.i (k)),(31,.v L),(35,.v vP),(36,.i (lb)),(249,.v L),(250,.i (g .ln L)),(251,.i (0))] [.bx 78 3 (m6 V rtl),.bx 34 2 [.J w0,.J w1],.bx 34 2 [.J h0',.J h1'],.bx 43 4 [.J 0,.J 0,.J 0,.N],.bx 80 75 (plL n s0 ⟨w0,w1⟩ ⟨h0',h1'⟩ row iw ih al ac (.view K)),.bx 62 4 [.J fl,.J ft,.J fr,.J fb],.rw ⟨156,5,E1⟩] (bH (sl1 8 vP) (jx rfl xh hY) (Wk.weak (wkG [some _,some _,some _,some _,some _,some _,some 6] ⟨rfl,rfl,rfl,rfl,rfl,rfl,rfl,rfl,rfl,rfl,rfl,rfl,rfl,rfl,rfl,rfl,rfl,rfl,rfl,rfl,rfl,rfl,rfl,rfl,rfl,trivial⟩ ⟨wqE rfl rfl,wqE rfl rfl,wqE rfl rfl,wqE rfl rfl,wqE rfl rfl,wqE rfl rfl,⟨_,_,rfl,rfl,rfl,rfl,.inl (bG hM)⟩,trivial⟩ (by decide) aD))) ?_
  refine ht _ fun z3 E3 D hD hO=> ?_
  have xi:=pmV hO
  cbv
  (repeat'(rw [e1];cbv))
  skip
  exact hB ((k+1,D,E3)) _ _ ⟨h3 D hD,⟨rfl,hO⟩⟩ (Wk.weak (wkG [some _,some _,some _,some _,some _,some _,some 6] ⟨rfl,rfl,rfl,rfl,rfl,rfl,rfl,rfl,rfl,rfl,rfl,rfl,rfl,rfl,rfl,rfl,rfl,rfl,trivial⟩ ⟨wqE rfl rfl,wqE rfl rfl,wqE rfl rfl,wqE rfl rfl,wqE rfl rfl,wqE rfl rfl,wqE rfl xi,trivial⟩ (by decide) aD))
theorem oI(cs:List Int)(gap inner ct:Int)(hl:cs.length<=64):cY prog 235 [.c (.view (vw ah cs)),ai gap,ai inner,ai ct] fun res hm=>res= .o 0/\hm=[⟨3,1,vw ah (pll cs gap inner ct)⟩]:=by
 have cT:=fZ cs gap (by omega)
 have cA:=lu cs gap inner (by omega)
 have cJ:=oG ct
 have cS:=bO (wrap64 (inner-crt cs gap))
 have cL:=nx (sg (wrap64 (inner-crt cs gap))) (cs.length:Int) (we ct)
 have cB:=fun(h:(cs.length:Int)<=12)=>kh (sg (wrap64 (inner-crt cs gap))) (cs.length:Int) (we ct) (by omega) h
 have ha:=fun i(h0:0<=i)(h1:i<(cs.length:Int))=>EO (sg (wrap64 (inner-crt cs gap))) (cs.length:Int) (we ct) h0 h1
 have hd:acr cs gap inner=true->(cs.length:Int)<=12:=fun h=>by simp only [acr,zqs,zqp]at h;exact h.2.1
 obtain⟨R,hR⟩:=nmE (pll cs gap inner ct)
 rw [<-hR]
 unfold pll at hR
 obtain⟨BW,hp⟩:=nmE (btw (sg (wrap64 (inner-crt cs gap))) (cs.length:Int) (we ct))
 rw [<-hp]at hR ha
 obtain⟨SC,hs⟩:=nmE (spc (sg (wrap64 (inner-crt cs gap))) (cs.length:Int) (we ct))
 rw [<-hs]at cB ha
 obtain⟨T,hT⟩:=nmE (crt cs gap);(try rw [<-hT]at cT);(try rw [<-hT]at cS);(try rw [<-hT]at cL);(try rw [<-hT]at cB);(try rw [<-hT]at hR)
 obtain⟨LD,hr⟩:=nmE (led (sg (wrap64 (inner-T))) (cs.length:Int) (we ct));(try rw [<-hr]at cL);(try rw [<-hr]at hR)
 obtain⟨fr,hj⟩:=nmE (sg (wrap64 (inner-T)));(try rw [<-hj]at cS);(try rw [<-hj]at cL);(try rw [<-hj]at cB)
 obtain⟨D,hD⟩:=nmE (wrap64 (inner-T));(try rw [<-hD]at cS)
 obtain⟨js,hk⟩:=nmE (we ct);(try rw [<-hk]at cJ);(try rw [<-hk]at cL);(try rw [<-hk]at cB)
 obtain⟨A,hA⟩:=nmE (acr cs gap inner);(try rw [<-hA]at cA);(try rw [<-hA]at hR);(try rw [<-hA]at hd)
 obtain⟨V,hV⟩:=nmE (vw ah cs)
 have hI:=lmV hV
 have iV:=imV hV
 have kV:=kmV (k:=1) hV fun _=>rfl
 have dV:=dmV hV
 have hf:aQ V=(cs.length:Int):=by rw [hV,aM]
 rw [<-hV]at cT cA
 rw [<-hV]
 have hG:0<=(cs.length:Int):=by omega
 obtain⟨n,hn⟩:=nmE ((cs.length:Int));(try rw [<-hn]at hf);(try rw [<-hn]at cL);(try rw [<-hn]at cB);(try rw [<-hn]at hd);(try rw [<-hn]at hG);(try rw [<-hn]at ha)
 have ht:∀i:Int,0<=i->i<n->(vw ah SC)[i.toNat]? =some [.J (if i+1<n then BW i else 0)]:=fun i i0 i1=>bd (ha i i0 i1)
 obtain⟨Y,hY⟩:=nmE (vw ah SC);(try rw [<-hY]at cB);(try rw [<-hY]at ht)
 clear ha hs hp
 refine ae (aK f235) ay func235 fun g F hg hF=> ?_
 have t4:g .ln V=n:=by rw [bB hg,hf]
 have e0:g .w .sub .i64 inner T=D:=by rw [dq hg,hD]
 cases hA2:A
 ·rw [hA2]at cA hR
  cbv
  (repeat'(refine ad hg cA ?_;cbv))
  obtain rfl:R=[]:=hR
  exact bS hF rfl rfl
 rw [hA2]at cA hR
 replace hR:R=plG BW gap 0 LD cs:=hR
 replace hd:=hd hA2
 replace cB:=cB hd
 cbv
 (repeat'((first|rw [e0]|rw [t4]|refine ad hg cA ?_|refine ad hg cJ ?_|refine ad hg cT ?_|refine ad hg cS ?_|refine ad hg cL ?_|refine ad hg cB ?_);cbv))
 refine aY hg ay (by kernel_rfl) V (fun x=>lc (ah x)) cs hV (by omega) (fun z(s:Int×List Int×LLA)=>[(0,.v V),(1,.i (gap)),(9,.o 0),(11,.i (s.1)),(12,.v Y),(13,.i (z))]) (fun z(s:Int×List Int×LLA)=>[.rw ⟨3,1,s.2.2⟩]) (fun z(s:Int×List Int×LLA)=>s.2.2=vw ah s.2.1/\(s.2.1.length:Int)=z) (fun(s:Int×List Int×LLA) rest=>(s.2.1++plG BW gap (s.2.1.length:Int) s.1 rest,(s.2.1.length:Int)+rest.length)) ((R,n)) (LD,[],[]) (by rw [hR,hn];simp) ⟨rfl,rfl⟩ (Wk.weak (wkG [some 0] zr6 ⟨wqE rfl rfl,trivial⟩ (by decide) aD)) (fun z s B hz h0 hi he=> ?_) (fun z s x rest B z0 z1 z2 hx hy h0 hi hc e1 hB=> ?_)
 ·obtain⟨a,hb,E⟩:=s
  obtain⟨i1,i2⟩:=hi
  dsimp only at i1 i2 h0
  have pE:=pmV i1
  obtain rfl:hb=R:=by simpa [plG]using congrArg Prod.fst h0
  rw [<-i1]at hF
  cbv;rw [he];cbv
  exact bS hF rfl pE
 ·obtain⟨a,hb,E⟩:=s
  obtain⟨i1,i2⟩:=hi
  dsimp only at i1 i2 h0
  have ho:hb++plG BW gap (hb.length:Int) a (x::rest)=R:=congrArg Prod.fst h0
  have hv:(hb.length:Int)+((rest.length+1:Nat):Int)=n:=congrArg Prod.snd h0
  clear h0
  have hE:E.length<=1048576:=by rw [i1,ar];omega
  have zn:z<n:=by rw [hf]at z1;exact z1
  have hu:=ht z z0 zn
  obtain⟨bw,hh⟩:∃b,b=if z+1<n then BW z else 0:=⟨_,rfl⟩
  rw [<-hh]at hu
  have nl:((hb++[a]).length:Int)=z+1:=by simp;omega
  have hw:(hb++[a])++plG BW gap ((hb++[a]).length:Int) (wrap64 (wrap64 (wrap64 (a+x)+gap)+bw)) rest=R:=by
   rw [<-ho,i2]
   cases rest with
   |nil=>simp [plG]
   |cons y rest=>
    simp only [zqx]at hv
    rw [hh,if_pos (by omega),nl]
    simp only [plG,zqC,List.singleton_append]
    rw [show wrap64 (wrap64 (wrap64 (a+x)+gap)+BW z)=wrap64 (a+wrap64 (wrap64 (x+gap)+BW z)) by simp only [nf,tC];rw [show a+x+gap+BW z=a+(x+gap+BW z) by omega]]
  have hC:((hb++[a]).length:Int)+rest.length=n:=by rw [nl];omega
  have e2:g .w .add .i64 a x=wrap64 (a+x):=aJ hg _ _
  have e3:g .w .add .i64 (wrap64 (a+x)) gap=wrap64 (wrap64 (a+x)+gap):=aJ hg _ _
  have e4:g .w .add .i64 (wrap64 (wrap64 (a+x)+gap)) bw=wrap64 (wrap64 (wrap64 (a+x)+gap)+bw):=aJ hg _ _
  have aE:E++[[.J a]]=vw ah (hb++[a]):=by rw [i1,br];rfl
  obtain⟨E2,hq⟩:∃E2,E2=E++[[.J a]]:=⟨_,rfl⟩
  rw [<-hq]at aE
  have hH:=pmV aE
  clear ho hh
  generalize wrap64 (wrap64 (wrap64 (a+x)+gap)+bw)=Q1 at *
  generalize wrap64 (wrap64 (a+x)+gap)=Q2 at *
  generalize wrap64 (a+x)=Q3 at *
  cbv
  rw [hc]
  cbv
  (repeat'((first|rw [e1]|rw [e2]|rw [e3]|rw [e4]|refine goX hg _ (by omega) hy rfl ?_|refine goX hg _ (by omega) hu rfl ?_|refine dz hg rfl (by decide) hE ?_;cbv;rw [gZ hg,<-hq]);cbv))
  exact hB ((Q1,hb++[a],E2)) _ _ ⟨Prod.ext hw hC,⟨aE,nl⟩⟩ (Wk.weak (wkG [some 2] zr6 ⟨wqE rfl hH,trivial⟩ (by decide) aD))
theorem oH(cs:List Int)(gap inner ct:Int)(hl:cs.length<=64):PC0 235 [.c (.view (vw ah cs)),ai gap,ai inner,ai ct] (.t (.c (.view (vw ah (pll cs gap inner ct))))):=xw (oI cs gap inner ct hl) fun _=>rfl
theorem xO(sp:Int->Int)(gap:Int):∀(cs:List Int)(i a:Int),(plG sp gap i a cs).length=cs.length
 | [],_,_=>rfl
 |c::r,i,a=>by simp only [plG,zqx,xO sp gap r]
theorem Gf(cs:List Int)(gap inner ct:Int):(pll cs gap inner ct).length<=cs.length:=by
 unfold pll
 split
 ·exact Nat.zero_le _
 ·rw [xO];exact Nat.le_refl _
variable {ns:List ag}{n:Int}
theorem E6{x:ag}(h:ns[(n-1).toNat]? =some x):nod ns n=x:=by
 unfold nod;rw [h];rfl
theorem rS{x:ag}(h:ns[(n-1).toNat]? =some x):flK ns n=ix (iU ns) (x.kids.filter (mi ns)):=by
 unfold flK vm;rw [h]
theorem wX(ns:List ag)(hl:ns.length<=1048576)(n:Int)(x:ag)(h1:isN ns n=true)(hx:ns[(n-1).toNat]? =some x)(hkl:x.kids.length<20)(hk:∀k∈x.kids,isN ns k=true)(hrl:x.table.rules.length<=1048576)(rtl:Bool)(b:Bv)(hbx:∀kid∈flK ns n,yB (vwA ag.ac ns) rtl b kid):FA (vwA ag.ac ns) rtl (HE b ns rtl) n:=by
 intro w0 w1 ha hb
 have b2:=bD h1
 have cP:=nT ns n x hl b2.1 (by have:=b2.2.1;omega) hx hkl hk rtl w0 w1 ha hb
 have xj:flK ns n=ix (iU ns) (x.kids.filter (mi ns)):=rS hx
 have ht:∀k∈flK ns n,isN ns k=true:=fun k h=>hk k (by rw [xj]at h;exact(List.mem_filter.1 ((wz _ _ _).1 h)).1)
 have hu:(flK ns n).length<20:=by rw [xj,lv];exact Nat.lt_of_le_of_lt (List.length_filter_le _ _) hkl
 rw [<-xj]at cP
 obtain⟨p,hp⟩:=nmE (plO ns n ⟨w0,w1⟩ ⟨ha,hb⟩)
 have hn:PC0 39 [.agg (m6 (vwA ag.ac ns) rtl),ai n,agP ⟨w0,w1⟩,agP ⟨ha,hb⟩] (.t (.agg (plL n p.s p.w p.h p.row p.wide p.high p.al p.ac (.view (vw ah p.kids))))):=by
  rw [hp]
  unfold plO
  rw [jb hx]
  exact cP
 clear cP
 have xP:kst ns n=x.style:=jb hx
 have yf:nod ns n=x:=E6 hx
 have yh:p.w=⟨w0,w1⟩/\p.h=⟨ha,hb⟩/\p.s=x.style/\p.wide=inW x.style ⟨w0,w1⟩/\p.kids=flK ns n:=by rw [hp];exact⟨rfl,rfl,jb hx,by show inW (kst ns n) _=_;rw [xP],rfl⟩
 obtain⟨e1,e2,e3,e4,e5⟩:=yh
 unfold EC HE
 rw [yf,xP,<-hp,<-e1,<-e2,<-e3,<-e5]
 have yp:inW p.s p.w=p.wide:=by rw [e3,e1,e4]
 rw [yp]
 rw [<-e5]at ht hu hbx
 have cy:=du ns n x b2.1 (by have:=b2.2.1;omega) hx (vwA ag.ac ns) _ _ rfl rfl rfl
 obtain⟨s0,row,w,h,iw,ih,al,ac,kids⟩:=p
 dsimp only at *
 subst e1 e2
 have cl:=wK n s0 ⟨w0,w1⟩ ⟨ha,hb⟩ row iw ih al ac (vw ah kids)
 have ci:=kl ns hl rtl b n ⟨s0,row,⟨w0,w1⟩,⟨ha,hb⟩,iw,ih,al,ac,kids⟩ (by dsimp only;omega) ht hbx
 have cs:=fun zs yq=>pU ns hl rtl b n ⟨s0,row,⟨w0,w1⟩,⟨ha,hb⟩,iw,ih,al,ac,kids⟩ zs (by dsimp only;omega) yq ht hbx
 obtain⟨V,hV⟩:=nmE (vwA ag.ac ns)
 rw [<-hV]at cy hn ci⊢
 simp only [<-hV]at cs
 obtain⟨Kx,xM⟩:=nmE (vw ah x.kids)
 obtain⟨Rx,xp⟩:=nmE (vw aI.c x.table.rules)
 rw [<-xM,<-xp]at cy
 obtain⟨im,iN⟩:=iw
 have cR:=jW im iN
 have cW:=rM x.table.rules (iq ⟨im,iN⟩) hrl
 rw [<-xp]at cW
 have ye:∀q:kg,kg.ac q=[.J q.wide,.J q.high,.J q.base,.view (vw aX.c q.frames)]:=fun q=>rfl
 obtain⟨x0,x1,x2,x3,x4⟩:=x
 dsimp only at *
 by_cases hB:x3=true
 ·rw [if_pos hB]
  subst hB
  obtain⟨RO,xo⟩:=nmE (iq ⟨im,iN⟩);(try rw [<-xo]at cR);(try rw [<-xo]at cW);(try rw [<-xo]at⊢)
  obtain⟨⟨q0,q1⟩,hq⟩:∃q,q=wnt x4.rules RO:=⟨_,rfl⟩
  rw [<-hq]at cW⊢
  have cl:=cl q0 q1
  obtain⟨LF,hG⟩:=nmE (Av s0 ⟨w0,w1⟩ ⟨ha,hb⟩ (q0,q1));(try rw [<-hG]at cl);(try rw [<-hG]at⊢)
  have hf:aB (vw aX.c LF.frames)=true:=aG _ _
  obtain⟨FR,hr⟩:=nmE (vw aX.c LF.frames);(try rw [<-hr]at cl);(try rw [<-hr]at hf);(try rw [<-hr]at⊢)
  obtain⟨K,hK⟩:=nmE (vw ah kids)
  have xk:=lmV hK
  have iK:=imV hK
  have kK:=kmV (k:=1) hK fun _=>rfl
  have dK:=dmV hK
  rw [<-hK]at hn cl
  clear ci cs hp hbx ht
  refine ae (aK f98) ay func98 fun g F hg hF=> ?_
  cbv
  (repeat'((first|refine ad hg hn ?_|refine ad hg cy ?_|refine aa hg cR ?_|refine aa hg cW ?_|refine zT hg cl (fw rfl) hf ?_);cbv))
  exact vH hF rfl hf
 ·rw [if_neg hB]
  replace hB:x3=false:=by simpa using hB
  subst hB
  by_cases hkn:kids=[]
  ·rw [if_pos hkn]
   have cl:=cl 0 0
   obtain⟨LF,hG⟩:=nmE (Av s0 ⟨w0,w1⟩ ⟨ha,hb⟩ (0,0));(try rw [<-hG]at cl);(try rw [<-hG]at⊢)
   have hf:aB (vw aX.c LF.frames)=true:=aG _ _
   obtain⟨FR,hr⟩:=nmE (vw aX.c LF.frames);(try rw [<-hr]at cl);(try rw [<-hr]at hf);(try rw [<-hr]at⊢)
   clear ci cs hp hbx ht
   subst hkn
   refine ae (aK f98) ay func98 fun g F hg hF=> ?_
   have t0:g .ln ([]:LLA)=0:=by rw [bB hg];rfl
   have t1:g .q .eql (0:Int) 0=true:=by rw [bm hg];rfl
   cbv
   (repeat'((first|rw [t0]|rw [t1]|refine ad hg hn ?_|refine ad hg cy ?_|refine vX hg cl rfl hf ?_);cbv))
   exact vH hF rfl hf
  ·rw [if_neg hkn]
   clear cW cR cl xp xM
   obtain⟨q,hq⟩:∃q:Pl,q=⟨s0,row,⟨w0,w1⟩,⟨ha,hb⟩,⟨im,iN⟩,ih,al,ac,kids⟩:=⟨_,rfl⟩
   rw [<-hq]at ci cs⊢
   have yi:q.kids=kids:=by rw [hq]
   unfold IX
   rw [yi]
   have ci:=xw ci (fun _=>rfl)
   have hh:=qu b q rtl ns kids
   obtain⟨I,hI⟩:=nmE (yd b q rtl ns kids)
   rw [<-hI]at ci hh⊢
   have xK:I.length<=1048576:=by rw [hh];exact Nat.le_of_lt (Nat.lt_trans hu (by decide))
   have cN:=nO n s0 ⟨w0,w1⟩ ⟨ha,hb⟩ row ⟨im,iN⟩ ih al ac (vw ah kids) I xK
   have h3:=ql q I
   have cs:=cs (qm q I) (by rw [h3,hh])
   obtain⟨S0,xN⟩:=nmE (ER b q rtl ns (kids.zip (qm q I)))
   have hM:S0.length=kids.length:=by rw [xN,Dz,zqB,h3,hh];exact Nat.min_self _
   rw [<-xN]at cs⊢
   change PC0 _ _ (.tup [.c (.view (vwA lnA (lns I (gp s0 row) (iq al) (!decide (s0.wrap=1))))),ai (tak al (lng I (gp s0 row) (iq al) (!decide (s0.wrap=1)))),.c (.view (vw ah (lsz I (gp s0 row) (iq al) (!decide (s0.wrap=1)) (tak al (lng I (gp s0 row) (iq al) (!decide (s0.wrap=1)))))))])at cN
   have hQ:mZ q I=lns I (gp s0 row) (iq al) (!decide (s0.wrap=1)):=by rw [hq];rfl
   have xQ:Dc q I=tak al (lng I (gp s0 row) (iq al) (!decide (s0.wrap=1))):=by rw [hq];rfl
   have xR:qm q I=lsz I (gp s0 row) (iq al) (!decide (s0.wrap=1)) (tak al (lng I (gp s0 row) (iq al) (!decide (s0.wrap=1)))):=by rw [hq];rfl
   rw [<-xR,<-xQ,<-hQ]at cN
   have hA:(mZ q I).flatten=ixs 0 kids.length:=by rw [hQ,l8,hh]
   have hP:(mZ q I).length<=64:=by rw [hQ];exact Nat.le_trans (mY ..) (by omega)
   have xy:∀l∈mZ q I,l.length<=1048576/\∀i∈l,0<=i/\i<(S0.length:Int):=fun l hm=>by
    rw [hQ]at hm
    exact⟨Nat.le_trans (jR hm) xK,fun i hi=>by have:=uU hm hi;omega⟩
   have cC:=oQ n s0 ⟨w0,w1⟩ ⟨ha,hb⟩ row ⟨im,iN⟩ ih al ac (vw ah kids) (mZ q I) S0 (by omega) hP xy
   have xS:yo q (mZ q I) S0=El s0 row ac (mZ q I) S0:=by rw [hq];rfl
   rw [<-xS]at cC
   have ho:(yo q (mZ q I) S0).length=(mZ q I).length:=vU q _ _ hP
   unfold IY
   dsimp only
   obtain⟨LL,yb⟩:=nmE (mZ q I)
   obtain⟨ZZ,yc⟩:=nmE (qm q I)
   obtain⟨IN,xL⟩:=nmE (Dc q I)
   rw [<-yb]at hA hP xy cC ho cN⊢
   rw [<-yc]at h3 cs cN⊢
   rw [<-xL]at cN⊢
   obtain⟨CC,x8⟩:=nmE (yo q LL S0)
   rw [<-x8]at ho cC⊢
   clear hQ xQ xR xS
   have cG:=gY s0 (!row)
   have xT:uc q=gp s0 (!row):=by rw [hq];rfl
   have cT:=gk CC (uc q) (by rw [ho];omega)
   obtain⟨am,an⟩:=ac
   have cK:=fg am an (crt CC (uc q))
   have xU:z6 q CC=tak ⟨am,an⟩ (crt CC (uc q)):=by rw [hq];rfl
   rw [<-xU]at cK
   have cL:=oU CC (uc q) (z6 q CC) (ctP q) (by omega)
   have xz:ctP q=if s0.wrap=1 then 2 else s0.content:=by rw [hq];rfl
   rw [<-xT]at cG
   have xA:G4 q CC=pll CC (uc q) (z6 q CC) (ctP q):=rfl
   rw [<-xA]at cL
   obtain⟨GC,xJ⟩:=nmE (uc q)
   obtain⟨hd,xG⟩:=nmE (z6 q CC)
   obtain⟨ST,xs⟩:=nmE (G4 q CC)
   rw [<-xJ]at cG cT cK cL
   rw [<-xG]at cK cL⊢
   rw [<-xs]at cL⊢
   have xt:ST.length<=1048576:=by rw [xs,xA];exact Nat.le_trans (Gf ..) (by omega)
   clear xT xU xA
   obtain⟨TT,xO⟩:=nmE (crt CC GC)
   rw [<-xO]at cT cK
   have cB:=eJ am an
   obtain⟨KB,xi⟩:=nmE (knS ⟨am,an⟩)
   rw [<-xi]at cB
   obtain⟨K,hK⟩:=nmE (vw ah kids)
   have xk:=lmV hK
   have iK:=imV hK
   have kK:=kmV (k:=1) hK fun _=>rfl
   have dK:=dmV hK
   rw [<-hK]at hn ci cN cs cC
   obtain⟨vI,xB⟩:=nmE (vw af.c I);(try rw [<-xB]at ci);(try rw [<-xB]at cN)
   obtain⟨vZ,hz⟩:=nmE (vw ah ZZ)
   have yn:=lmV hz
   have yA:=imV hz
   have yD:=kmV (k:=1) hz fun _=>rfl
   have yw:=dmV hz
   rw [<-hz]at cN cs
   obtain⟨vS,hy⟩:=nmE (vw av.c S0)
   have yl:=lmV hy
   have yr:=imV hy
   have x6:=kmV (k:=7) hy fun _=>rfl
   have xF:=dmV hy
   rw [<-hy]at cs cC
   obtain⟨vC,hw⟩:=nmE (vw ah CC)
   have yj:=lmV hw
   have xZ:=imV hw
   have hT:=kmV (k:=1) hw fun _=>rfl
   have hD:=dmV hw
   rw [<-hw]at cC cT cL
   obtain⟨vL,h2⟩:=nmE (vwA lnA LL);(try rw [<-h2]at cN);(try rw [<-h2]at cC)
   obtain⟨vT,hC⟩:=nmE (vw ah ST)
   have ym:=lmV hC
   have x5:=imV hC
   have yt:=kmV (k:=1) hC fun _=>rfl
   have x7:=dmV hC
   rw [<-hC]at cL
   have hs:kids.length<=1048576:=Nat.le_of_lt (Nat.lt_trans hu (by decide))
   have xv:ZZ.length=kids.length:=by rw [h3,hh]
   have hH:LL.length<=1048576:=Nat.le_trans hP (by decide)
   have hJ:=fun(g:Gd)(hg:g= @G0 bp0 prog 0 f98.ntmps)(Q':Exit->List (Nat×AV)->EH->Prop) hQ'=>Cl hg (Q:=Q') ns hl V hV rtl n s0 row ⟨im,iN⟩ ih al ⟨am,an⟩ w0 w1 ha hb kids K hK hs ht IN hd KB xi vI vL vZ vC vT ZZ CC hz hw S0 xv hM LL h2 hH ho hA hQ'
   rw [<-hq,<-hy]at hJ
   obtain⟨S1,xr⟩:=nmE (CG q ns S0 ZZ (LL.zip CC))
   have hN:S1.length=kids.length:=by rw [xr,zH,fz ho,hA,bX]
   rw [<-xr]at hJ⊢
   have h6:=fu s0
   obtain⟨fe,h0⟩:=nmE (oh s0)
   rw [<-h0]at h6
   have hR:q.s=s0:=by rw [hq]
   have xX:q.w=⟨w0,w1⟩:=by rw [hq]
   have xV:q.h=⟨ha,hb⟩:=by rw [hq]
   have xW:q.row=row:=by rw [hq]
   obtain⟨fl,ft,fr,fb⟩:=fe
   have hX:=fP fl ft fr fb
   have hW:=fS fl ft fr fb
   obtain⟨hU,hc⟩:=nmE (vw av.c S1)
   have xY:=lmV hc
   have ys:=imV hc
   have xD:=kmV (k:=7) hc fun _=>rfl
   have h9:=dmV hc
   have hL:=fun(g:Gd)(hg:g= @G0 bp0 prog 0 f98.ntmps)(Q':Exit->List (Nat×AV)->EH->Prop) E hE hQ'=>Ck hg (Q:=Q') V rtl n s0 row ⟨im,iN⟩ ih al ⟨am,an⟩ w0 w1 ha hb K IN hd vI vL vZ hU vC vT fl ft fr fb kids hK hs I xB hh ZZ CC ST S1 hz hw hC hc xt xv hN h0.symm LL h2 hH ho hA E hE hQ'
   rw [<-hq]at hL
   obtain⟨FF,xg⟩:=nmE (xx q rtl I IN hd ZZ S1 ST 0 (LL.zip CC))
   have xI:FF.length=kids.length:=by rw [xg,vE,fz ho,hA,bX]
   rw [<-xg]at hL⊢
   have yy:0<kids.length:=List.length_pos_iff.2 hkn
   obtain⟨f0,FT,xd⟩:∃f t,FF=f::t:=by
    cases FF with
    |nil=>simp at xI;omega
    |cons a b=>exact⟨_,_,rfl⟩
   obtain⟨h4,hv⟩:∃y,S1[(0:Int).toNat]? =some y:=⟨_,zqc (by show 0<S1.length;omega)⟩
   have hS:sdZ S1 0=h4:=wE (Int.le_refl 0) hv
   obtain⟨vF,he⟩:=nmE (vw aX.c FF)
   have yk:=lmV he
   have yz:=imV he
   have yC:=kmV (k:=5) he fun _=>rfl
   have yv:=dmV he
   have pF:=pmV he
   have xf:vF[(0:Int).toNat]? =some (lc (aX.c f0)):=by rw [he,xd];rfl
   have xe:(0:Int)<aQ vF:=by rw [he,aM];omega
   have xq:hU[(0:Int).toNat]? =some (lc (av.c h4)):=by rw [hc];exact bd hv
   obtain⟨A1,xa⟩:=nmE (adE fl fr)
   obtain⟨A2,xb⟩:=nmE (adE ft fb)
   change PC0 _ _ (.i (adE fl fr))at hX
   change PC0 _ _ (.i (adE ft fb))at hW
   rw [<-xa]at hX
   rw [<-xb]at hW
   obtain⟨XW,hZ⟩:=nmE ((if row then IN else hd))
   obtain⟨XH,hY⟩:=nmE ((if row then hd else IN))
   obtain⟨W1,xu⟩:=nmE (wrap64 (XW+A1))
   obtain⟨H1,xh⟩:=nmE (wrap64 (XH+A2))
   obtain⟨BB,xc⟩:=nmE (wrap64 (f0.y+h4.base))
   have h7:=fg w0 w1 W1
   have h8:=fg ha hb H1
   have h5:=aZ BB
   obtain⟨R1,xl⟩:=nmE (tak ⟨w0,w1⟩ W1);(try rw [<-xl]at h7)
   obtain⟨R2,xm⟩:=nmE (tak ⟨ha,hb⟩ H1);(try rw [<-xm]at h8)
   obtain⟨R3,xn⟩:=nmE (cl BB);(try rw [<-xn]at h5)
   have hO:(Fz q IN hd FF S1).wide=R1/\(Fz q IN hd FF S1).high=R2/\(Fz q IN hd FF S1).base=R3/\(Fz q IN hd FF S1).frames=FF:=by
    rw [xl,xm,xn,xu,xh,xc,hZ,hY,xa,xb]
    unfold Fz
    rw [hR,xX,xV,xW,<-h0,hS,xd]
    exact⟨rfl,rfl,rfl,rfl⟩
   rw [hO.1,hO.2.1,hO.2.2.1,hO.2.2.2,<-he]
   have t1:∀g:Gd,g=G0 prog 0 f98.ntmps->g .w .add .i64 XW A1=W1:=fun g hg=>by rw [aJ hg,xu]
   have t2:∀g:Gd,g=G0 prog 0 f98.ntmps->g .w .add .i64 XH A2=H1:=fun g hg=>by rw [aJ hg,xh]
   have t3:∀g:Gd,g=G0 prog 0 f98.ntmps->g .w .add .i64 f0.y h4.base=BB:=fun g hg=>by rw [aJ hg,xc]
   have xE:∀g:Gd,g=G0 prog 0 f98.ntmps->g .rp (g .ln K) [.J 0,.J 0,.J 0,.J 0,.J 0]=vw aX.c (List.replicate kids.length ⟨0,0,0,0,0⟩):=fun g hg=>by
    rw [yg hg,bB hg,hK,aM,Int.toNat_natCast];exact qB aX.c kids.length ⟨0,0,0,0,0⟩
   have xk:K.length<=1048576:=by rw [hK,ar];exact hs
   have pS:=pmV hy
   have t0:∀g:Gd,g=G0 prog 0 f98.ntmps->g .q .eql s0.wrap 1=decide (s0.wrap=1):=fun g hg=>by rw [bm hg];exact zqn _ _
   have xC:∀g:Gd,g=G0 prog 0 f98.ntmps->g .q .eql (g .ln K) 0=false:=fun g hg=>by
    rw [bm hg,bB hg,hK,aM]
    have:kids.length≠0:=fun h=>hkn (zqv h)
    exact beq_eq_false_iff_ne.2 (by omega)
   clear hO xl xm xn xu xh xc xa xb h0 hR xX xV xW hS xd xI xg xr hv hN hM hh xv hP xy hA ho xO xi xJ xG xs xL hq hp hbx ht
   refine ae (aK f98) ay func98 fun g F hg hF=> ?_
   have t0:=t0 g hg
   have xC:=xC g hg
   have t1:=t1 g hg
   have t2:=t2 g hg
   have t3:=t3 g hg
   have xE:=xE g hg
   have hJ:=hJ g hg
   have hL:=hL g hg
   cbv
   (repeat'((first|rw [xC]|refine ad hg hn ?_|refine ad hg cy ?_|refine ad hg ci ?_|refine ad hg cN ?_|refine bC hg cs (bq rfl) yr ?_|refine bC hg cC (bN rfl (ao (aw rfl) (ao (bf (ab:=⟨_,_,vS⟩) rfl x6 xF) (aC)))) xZ ?_|refine fi hg cT (ao (bf (ab:=⟨_,_,vC⟩) rfl hT hD) (ao (aw rfl) (aC))) rfl ?_|refine ad hg cG ?_|refine aa hg cK ?_);cbv))
   by_cases hw1:s0.wrap=1
   all_goals
    first|rw [if_pos hw1]at xz|rw [if_neg hw1]at xz
    rw [xz]at cL
    first|rw [zqu hw1]at t0|rw [zqt hw1]at t0
    (repeat'((first|rw [t0]|refine bC hg cL (ao (bf (ab:=⟨_,_,vC⟩) rfl hT hD) (ao (aw rfl) (ao (aw rfl) (ao (aw rfl) (aC))))) x5 ?_|refine ad hg cB ?_);cbv))
    refine lA hg (mh (aK f98) 0) (by kernel_rfl) [(4,.p 0),(6,.p 1),(7,.p 2),(8,.p 3),(9,.p 4),(11,.v vI),(12,.v vL),(13,.i (IN)),(14,.v vZ),(15,.o 5),(16,.v vC),(18,.i (hd)),(20,.v vT),(21,.i (KB)),(116,.v vL),(117,.i (g .ln vL)),(118,.i (0))] [.bx 78 3 (m6 V rtl),.bx 34 2 [.J w0,.J w1],.bx 34 2 [.J ha,.J hb],.bx 43 4 [.J 0,.J 0,.J 0,.N],.bx 80 75 (plL n s0 ⟨w0,w1⟩ ⟨ha,hb⟩ row ⟨im,iN⟩ ih al ⟨am,an⟩ (.view K)),.rw ⟨96,7,vS⟩] (bH (sl2 7 8 vC vT) (F5 rfl hT hD rfl yt x7) (Wk.weak (wkG [some _,some _,some _,some _,some _,some 6] ⟨rfl,rfl,rfl,rfl,rfl,rfl,rfl,rfl,rfl,rfl,rfl,rfl,rfl,rfl,rfl,rfl,rfl,trivial⟩ ⟨wqE rfl rfl,wqE rfl rfl,wqE rfl rfl,wqE rfl rfl,wqE rfl rfl,⟨_,_,rfl,rfl,rfl,rfl,.inl (bG pS)⟩,trivial⟩ (by decide) aD))) ?_
    refine hJ _ fun z1 E1 x9=> ?_
    obtain rfl:hU=E1:=by rw [x9,hc]
    cbv
    ((repeat'(refine ad hg h6 ?_;cbv)))
    refine Fk hg (by decide) xk ?_
    cbv
    generalize hE0:g .rp (g .ln K) _=E3
    have xH:E3=vw aX.c (List.replicate kids.length ⟨0,0,0,0,0⟩):=by rw [<-hE0];exact xE
    clear hE0
    have yu:=pmV xH
    refine lA hg (mh (aK f98) 2) (by kernel_rfl) [(4,.p 0),(6,.p 1),(7,.p 2),(8,.p 3),(9,.p 4),(11,.v vI),(12,.v vL),(13,.i (IN)),(14,.v vZ),(15,.v hU),(16,.v vC),(18,.i (hd)),(20,.v vT),(28,.p 5),(29,.o 6),(210,.v vL),(211,.i (g .ln vL)),(212,.i (0))] [.bx 78 3 (m6 V rtl),.bx 34 2 [.J w0,.J w1],.bx 34 2 [.J ha,.J hb],.bx 43 4 [.J 0,.J 0,.J 0,.N],.bx 80 75 (plL n s0 ⟨w0,w1⟩ ⟨ha,hb⟩ row ⟨im,iN⟩ ih al ⟨am,an⟩ (.view K)),.bx 62 4 [.J fl,.J ft,.J fr,.J fb],.rw ⟨156,5,E3⟩] (bH (sl1 5 hU) (jx rfl xD h9) (Wk.weak (wkG [some _,some _,some _,some _,some _,some 6,some 7] ⟨rfl,rfl,rfl,rfl,rfl,rfl,rfl,rfl,rfl,rfl,rfl,rfl,rfl,rfl,rfl,rfl,rfl,rfl,trivial⟩ ⟨wqE rfl rfl,wqE rfl rfl,wqE rfl rfl,wqE rfl rfl,wqE rfl rfl,wqE rfl rfl,⟨_,_,rfl,rfl,rfl,rfl,.inl (bG yu)⟩,trivial⟩ (by decide) aD))) ?_
    refine hL _ E3 xH fun z2 E2 ya=> ?_
    obtain rfl:vF=E2:=by rw [ya,he]
    cbv
    cases row
    all_goals
     (try simp only [Bool.false_eq_true,if_false]at hZ hY)
     (try simp only [if_true]at hZ hY)
     subst hZ hY
     (try cbv)
     ((repeat'((first|rw [t1]|rw [t2]|rw [t3]|refine aa hg hX ?_|refine aa hg hW ?_|refine aa hg h7 ?_|refine aa hg h8 ?_|refine aa hg h5 ?_|refine goX hg _ (Int.le_refl 0) xq rfl ?_|refine goY hg (Int.le_refl 0) xe fun j hj yx=> ?_;subst hj|refine⟨_,xf,?_⟩);cbv)))
     exact vH hF rfl pF
theorem zK{ns:List ag}:∀(f:Nat)(k n:Int),0<=k->0<ui ns f (k+1) n->ui ns (f+1) k n=ui ns f (k+1) n-1
 |0,k,n,h0,h=>by
  by_cases hn:n=0
  ·subst hn;rw [me,me];omega
  ·rw [ym ns hn]at h;omega
 |f+1,k,n,h0,h=>by
  by_cases hn:n=0
  ·subst hn;rw [me,me];omega
  ·by_cases hi:isN ns n=true
   ·rw [kf ns hn hi]at h
    rw [kf ns hn hi,kf ns hn hi]
    exact zK f (k+1) (upN ns n) (by omega) h
   ·rw [vQ ns (f+1) (k+1) n hn (by simpa using hi)]at h;omega
theorem ni(h:eU ns=true)(hn:isN ns n=true):1<=vR ns n/\vR ns n<=4:=by
 obtain⟨n1,n2,x,hx⟩:=bD hn
 simp only [eU,zqs]at h
 have:=(jY ns ns 0).1 h.2 _ x hx
 simp only [fH,zqs,rng,zqp]at this
 have h2:=this.2.1
 rw [show(0:Int)+(((n-1).toNat:Nat):Int)+1=n by omega]at h2
 exact h2
theorem FL(h:eU ns=true){x:ag}(h1:1<=n)(hx:ns[(n-1).toNat]? =some x):∀k∈x.kids,upN ns k=n:=fun k ha=>by
 simp only [eU,zqs]at h
 have:=(jY ns ns 0).1 h.2 _ x hx
 simp only [fH,zqs,zqf,ic,zqp]at this
 have:=(this.2.2.2.1 k ha).2
 omega
theorem Cm(h:eU ns=true){x:ag}(h1:1<=n)(hx:ns[(n-1).toNat]? =some x):∀k∈x.kids,vR ns k=vR ns n+1:=fun k ha=>by
 have hk:=ju h h1 hx k ha
 obtain⟨k1,k2,y,hy⟩:=bD hk
 have hu:=FL h h1 hx k ha
 have hd:=ni h hk
 obtain⟨L,hL⟩:∃L,ns.length=L+1:=⟨ns.length-1,by omega⟩
 unfold vR at hd⊢
 rw [hL]at hd⊢
 rw [kf ns (by omega) hk,hu]at hd⊢
 have:=zK (ns:=ns) L 0 n (Int.le_refl 0) (by omega)
 rw [this];omega
theorem rR{x:ag}(hx:ns[(n-1).toNat]? =some x):∀k∈flK ns n,k∈x.kids:=fun k hk=>by
 rw [rS hx,wz]at hk
 exact(List.mem_filter.1 hk).1
theorem nU{ns:List ag}(hl:ns.length<=1048576)(hs:∀y∈ns,ag.small y)(ht:eU ns=true)(rtl:Bool):∀(f:Nat)(n:Int),isN ns n=true->5<=vR ns n+(f:Int)->G3 (vwA ag.ac ns) rtl (AJ ns rtl f) n
 |0,n,hn,hd=>by have:=ni ht hn;omega
 |f+1,n,hn,hd=>by
  obtain⟨n1,n2,x,hx⟩:=bD hn
  have hc:=uu ht n1 hx
  have hb:=ju ht n1 hx
  refine xZ _ rtl _ n (wX ns hl n x hn hx (by omega) hb ?_ rtl (AJ ns rtl f) fun ha hk=> ?_)
  ·have:=hs x (zqd hx)
   exact this.2.1
  ·have hm:=rR hx ha hk
   have:=Cm ht n1 hx ha hm
   exact rE _ rtl _ ha (nU hl hs ht rtl f ha (hb ha hm) (by omega))
theorem uY(hl:ns.length<=1048576)(hs:∀y∈ns,ag.small y)(ht:eU ns=true)(rtl:Bool)(f:Nat)(n:Int)(hn:isN ns n=true)(hd:5<=vR ns n+(f:Int)):yB (vwA ag.ac ns) rtl (AJ ns rtl f) n:=
 rE _ rtl _ n (nU hl hs ht rtl f n hn hd)
theorem Cj{w h:az}(hO:Db ns n w h=true):eU ns=true/\isN ns n=true/\1<=n/\n<=(ns.length:Int)/\∃x,ns[(n-1).toNat]? =some x/\x.kids.length<=12/\∀k∈x.kids,isN ns k=true:=by
 simp only [Db,zqs]at hO
 obtain⟨hT,hI,_⟩:=hO
 obtain⟨n1,n2,x,hx⟩:=bD hI
 exact⟨hT,hI,n1,n2,x,hx,uu hT n1 hx,ju hT n1 hx⟩
theorem CA{x:ag}(hx:ns[(n-1).toNat]? =some x)(hkl:x.kids.length<=12)(hkd:∀k∈x.kids,isN ns k=true):(flK ns n).length<=12/\∀k∈flK ns n,isN ns k=true:=
 ⟨by rw [rS hx,lv];exact Nat.le_trans (List.length_filter_le _ _) hkl,fun k h=>hkd k (rR hx k h)⟩
theorem uX(ns:List ag)(hl:ns.length<=1048576)(n:Int)(x:ag)(n1:1<=n)(n2:n<=(ns.length:Int))(hx:ns[(n-1).toNat]? =some x)(hkl:x.kids.length<=12)(hkd:∀k∈x.kids,isN ns k=true)(rtl:Bool)(a b c d:Int):∀p,p=plO ns n ⟨a,b⟩ ⟨c,d⟩->PC0 39 [.agg (m6 (vwA ag.ac ns) rtl),ai n,agP ⟨a,b⟩,agP ⟨c,d⟩] (.t (.agg (plL n p.s p.w p.h p.row p.wide p.high p.al p.ac (.view (vw ah p.kids))))):=by
 intro p hp
 have cP:=nT ns n x hl n1 (by omega) hx (by omega) hkd rtl a b c d
 rw [<-rS hx]at cP
 rw [hp]
 unfold plO
 rw [jb hx]
 exact cP
theorem ux(ns:List ag)(hl:ns.length<=1048576)(hs:∀y∈ns,ag.small y)(ht:eU ns=true)(n:Int)(x:ag)(n1:1<=n)(n2:n<=(ns.length:Int))(hx:ns[(n-1).toNat]? =some x)(hkl:x.kids.length<=12)(hkd:∀k∈x.kids,isN ns k=true)(a b c d:Int):∀p,p=plO ns n ⟨a,b⟩ ⟨c,d⟩->PC0 34 [.agg [.view (vwA ag.ac ns)],ai n,agP ⟨a,b⟩,agP ⟨c,d⟩] (.t (.agg (nwL n p.s p.row p.al p.ac (knS p.wide) (.view (vw ah p.kids))))):=by
 intro p hp
 have cP:=nj ns n x hs ht hl n1 n2 hx (by omega) hkd a b c d
 rw [<-rS hx]at cP
 rw [hp]
 unfold plO
 rw [jb hx]
 exact cP
def kzO(ns:List ag)(n:Int)(w h:az)(rtl:Bool):List Int:=if Db ns n w h=false then []else qm (plO ns n w h) (yd (AJ ns rtl 4) (plO ns n w h) rtl ns (flK ns n))
end Go.Proofs.YtkicjdeddpihaaaGreat
