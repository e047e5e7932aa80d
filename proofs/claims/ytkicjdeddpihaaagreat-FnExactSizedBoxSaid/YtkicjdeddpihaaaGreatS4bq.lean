/- The program's KidSizes, KidSides, SizedBox. -/
import Derived.Test.YtkicjdeddpihaaaGreatS4bp
set_option linter.unusedVariables false
set_option linter.unusedSimpArgs false
set_option maxHeartbeats 16000000
namespace Go.Proofs.YtkicjdeddpihaaaGreat
open Go.ChangeShapes Go.WideShapes Go.ChangeAt Go.RowKit Am Go.Proofs.Tryz
set_option maxRecDepth 100000
theorem Ct{g:Gd}(hg:g= @G0 bp0 prog 0 f98.ntmps){Q:Exit->List (Nat×AV)->EH->Prop}(V:LLA)(rtl:Bool)(n:Int)(s0:ao)(row:Bool)(iw ih al ac:az)(w0 w1 h0' h1':Int)(K:LLA)(IN AC':Int)(vI vL vZ vS vC vT:LLA)(fl ft fr fb:Int)(kids:List Int)(hK:K=vw aj kids)(hkl:kids.length<=1048576)(I:List af)(hvI:vI=vw af.c I)(hIl:I.length=kids.length)(ZZ CC ST:List Int)(S1:List av)(hvZ:vZ=vw aj ZZ)(hvC:vC=vw aj CC)(hvT:vT=vw aj ST)(hvS:vS=vw av.c S1)(hTl:ST.length<=1048576)
  (hzl:ZZ.length=kids.length) (hsl:S1.length=kids.length) (hf:oc s0=⟨fl,ft,fr,fb⟩) (LL:List (List Int)) (hH:vL=vwA lnA LL) (hLl:LL.length<=1048576) (hcl:CC.length=LL.length) (hfl:LL.flatten=ixs 0 kids.length)
  (E:LLA) (hE:E=vw aD.c (List.replicate kids.length ⟨0,0,0,0,0⟩))
  (hQ:∀(z:Int)(E:LLA),E=vw aD.c (xh ⟨s0,row,⟨w0,w1⟩,⟨h0',h1'⟩,iw,ih,al,ac,kids⟩ rtl I IN AC' ZZ S1 ST 0 (LL.zip CC))->Q (.exit 4) [(213,.t (abl (false))),(4,.p 0),(6,.p 1),(7,.p 2),(8,.p 3),(9,.p 4),(11,.v vI),(12,.v vL),(13,.i (IN)),(14,.v vZ),(15,.v vS),(16,.v vC),(18,.i (AC')),(20,.v vT),(28,.p 5),(29,.o 6),(210,.v vL),(211,.i (g .ln vL)),(212,.i (z))] [.bx 78 3 (m7 V rtl),.bx 34 2 [.J w0,.J w1],.bx 34 2 [.J h0',.J h1'],.bx 43 4 [.J 0,.J 0,.J 0,.N],.bx 80 75 (plL n s0 ⟨w0,w1⟩ ⟨h0',h1'⟩ row iw ih al ac (.view K)),.bx 62 4 [.J fl,.J ft,.J fr,.J fb],.rw ⟨156,5,E⟩]):
  g .L (mf (aM f98) 2) Q [(4,.p 0),(6,.p 1),(7,.p 2),(8,.p 3),(9,.p 4),(11,.v vI),(12,.v vL),(13,.i (IN)),(14,.v vZ),(15,.v vS),(16,.v vC),(18,.i (AC')),(20,.v vT),(28,.p 5),(29,.o 6),(210,.v vL),(211,.i (g .ln vL)),(212,.i (0))] [.bx 78 3 (m7 V rtl),.bx 34 2 [.J w0,.J w1],.bx 34 2 [.J h0',.J h1'],.bx 43 4 [.J 0,.J 0,.J 0,.N],.bx 80 75 (plL n s0 ⟨w0,w1⟩ ⟨h0',h1'⟩ row iw ih al ac (.view K)),.bx 62 4 [.J fl,.J ft,.J fr,.J fb],.rw ⟨156,5,E⟩]:=by
 have hI:vL=(LL.zip CC).map (fun t=>lnA t.1):=by rw [hH];exact qk hcl
 have hJ:(LL.zip CC).map (·.1)=LL:=e9 hcl
 have ho:(LL.zip CC).length<=1048576:=by rw [zqB];exact Nat.le_trans (Nat.min_le_left ..) hLl
 have hu:=fun{i t} h=>xG (a:=LL) (b:=CC) (i:=i) (t:=t) h
 have hU:∀l∈LL,∀i∈l,0<=i/\i<(kids.length:Int):=fun l hl i hi=>by
  have:i∈LL.flatten:=List.mem_flatten.2 ⟨l,hl,hi⟩
  rw [hfl,lA]at this
  omega
 obtain⟨qs,hC⟩:=nmE (LL.zip CC)
 rw [<-hC]at hI hJ ho hQ
 simp only [<-hC]at hu
 have hS:(qs.map (·.1)).flatten=ixs 0 kids.length:=by rw [hJ];exact hfl
 obtain⟨q,hq⟩:∃q:Pl,q=⟨s0,row,⟨w0,w1⟩,⟨h0',h1'⟩,iw,ih,al,ac,kids⟩:=⟨_,rfl⟩
 rw [<-hq]at hQ
 obtain⟨D1,hN⟩:=nmE (xh q rtl I IN AC' ZZ S1 ST 0 qs)
 rw [<-hN]at hQ
 have xb:I.length<=1048576:=by omega
 have cG:=i9 s0 row
 have hT:Dm q=ju s0 row:=by rw [hq];rfl
 have xd:q.s.justify=s0.justify:=by rw [hq]
 have ht:=fun(zo c lb:Int)(h1:0<=zo)(h2:CC[zo.toNat]? =some c) PS vP h3 h4 l L h5 h6 done h7 h8 E h9 Q' hQ'=>D5 hg (Q:=Q') V rtl n s0 row iw ih al ac w0 w1 h0' h1' K IN AC' vI vL vZ vS vC vT fl ft fr fb zo kids hK I ZZ CC ST PS S1 hvZ hvC hvT hvS vP h3 h4 hTl hzl hsl hf h1 c h2 lb l L h5 h6 done h7 h8 E h9 hQ'
 simp only [<-hq]at ht
 obtain⟨G,hG⟩:=nmE (ju s0 row);(try rw [<-hG]at cG);(try rw [<-hG]at hT)
 replace hH:=hI
 have pE:=pmV hE
 refine aY hg ay (by kernel_rfl) vL (fun t=>lnA t.1) qs hH ho (fun z(s:Int×List aD×LLA)=>[(4,.p 0),(6,.p 1),(7,.p 2),(8,.p 3),(9,.p 4),(11,.v vI),(12,.v vL),(13,.i (IN)),(14,.v vZ),(15,.v vS),(16,.v vC),(18,.i (AC')),(20,.v vT),(28,.p 5),(29,.o 6),(210,.v vL),(211,.i (g .ln vL)),(212,.i (z))]) (fun z(s:Int×List aD×LLA)=>[.bx 78 3 (m7 V rtl),.bx 34 2 [.J w0,.J w1],.bx 34 2 [.J h0',.J h1'],.bx 43 4 [.J 0,.J 0,.J 0,.N],.bx 80 75 (plL n s0 ⟨w0,w1⟩ ⟨h0',h1'⟩ row iw ih al ac (.view K)),.bx 62 4 [.J fl,.J ft,.J fr,.J fb],.rw ⟨156,5,s.2.2⟩]) (fun z(s:Int×List aD×LLA)=>s.1=z/\s.2.2=vw aD.c (s.2.1++List.replicate (kids.length-s.2.1.length) ⟨0,0,0,0,0⟩)) (fun(s:Int×List aD×LLA) rest=>(s.2.1++xh q rtl I IN AC' ZZ S1 ST s.1 rest,ixs 0 s.2.1.length++(rest.map (·.1)).flatten)) ((D1,ixs 0 kids.length)) (0,[],E) (by rw [hN];exact Prod.ext rfl hS) ⟨rfl,hE⟩ (Wk.weak (wkG [some _,some _,some _,some _,some _,some _,some 6] ⟨rfl,rfl,rfl,rfl,rfl,rfl,rfl,rfl,rfl,rfl,rfl,rfl,rfl,rfl,rfl,rfl,rfl,rfl,trivial⟩ ⟨wqE rfl rfl,wqE rfl rfl,wqE rfl rfl,wqE rfl rfl,wqE rfl rfl,wqE rfl rfl,wqE rfl pE,trivial⟩ (by decide) aG)) (fun z s B hz h0 hi he=> ?_) (fun z s x rest B z0 z1 z2 hx hy h0 hi hc e1 hB=> ?_)
 ·obtain⟨k,D,E1⟩:=s
  obtain⟨i1,i2⟩:=hi
  obtain⟨hs,hk⟩:=Prod.mk.inj h0
  dsimp only at i1 i2
  obtain rfl:D=D1:=by simpa [xh]using hs
  have hZ:D.length=kids.length:=by
   have:=congrArg List.length hk
   simpa [bU]using this
  have hQ:=hQ z E1 (by rw [i2,hZ,Nat.sub_self,List.replicate_zero,List.append_nil])
  cbv;rw [he];cbv
  exact hQ
 ·obtain⟨k,done,E1⟩:=s
  obtain⟨l,c⟩:=x
  obtain⟨i1,i2⟩:=hi
  obtain⟨hs,hk⟩:=Prod.mk.inj h0
  dsimp only at i1 i2 hy hs hk
  subst i1
  obtain⟨L,hL⟩:=nmE (vw aj l)
  have xg:vL[k.toNat]? =some [.view L]:=by rw [hL];exact hy
  have hF:=nQ hk
  rw [bU]at hF
  have hn:=lZ (l:=l) (ls:=rest.map (fun t:List Int×Int=>t.1)) hF.2.2
  have hd:l.length<=1048576:=Nat.le_trans hn.1 (Nat.le_trans (Nat.sub_le ..) hkl)
  have hA:=hU l (zqd (hu hx).1)
  have hM:=pmV i2
  have hV:done.length+l.length<=kids.length:=by have:=hn.1;omega
  have hp:=ib I l xb hd
  have hr:=kq S1 l (by omega) hd (fun i hi=>by have:=hA i hi;omega)
  have hv:=n7 (pck S1 l) (Nat.le_trans (uW S1 l) hd)
  have hh:(l.map (elZ ZZ)).length<=1048576:=by rw [zql];exact hd
  have hj:=nW (lit I l) (l.map (elZ ZZ)) G IN s0.justify (Nat.le_trans rC hd) hh
  obtain⟨PS,hw⟩:=nmE (HN q I IN ZZ l)
  have ha:alg (lit I l) (l.map (elZ ZZ)) G IN s0.justify=PS:=by rw [hw];unfold HN;rw [hT,xd]
  rw [ha]at hj
  have xc:PS.length<=1048576:=by
   rw [<-ha]
   exact Nat.le_trans (Hd _ _ _ _ _) hh
  obtain⟨lb,hb⟩:=nmE (bas (pck S1 l))
  rw [<-hb]at hv
  obtain⟨LI,hP⟩:=nmE (vw af.c (lit I l));(try rw [<-hP]at hp);(try rw [<-hP]at hj)
  obtain⟨PK,hR⟩:=nmE (vw av.c (pck S1 l));(try rw [<-hR]at hr);(try rw [<-hR]at hv)
  rw [<-hvI,<-hL]at hp
  rw [<-hvS,<-hL]at hr
  obtain⟨W,hW⟩:=nmE (vw aj (l.map (elZ ZZ)))
  have xk:W.length=(l.map (elZ ZZ)).length:=by rw [hW,ar]
  have iW:=imV hW
  have kW:=kmV (k:=1) hW fun _=>rfl
  have dW:=dmV hW
  rw [<-hW]at hj
  obtain⟨vP,hm⟩:=nmE (vw aj PS)
  have xf:=lmV hm
  have hX:=imV hm
  have xi:=kmV (k:=1) hm fun _=>rfl
  have hY:=dmV hm
  rw [<-hm]at hj
  have xe:∀i∈l,0<=i/\i<(ZZ.length:Int):=fun i hi=>by have:=hA i hi;omega
  have ht:=ht k c lb z0 (hu hx).2 PS vP hm xc l L hL hd done (by simpa using hn.2.1) hV E1 i2
  have h3:∀D,D=done++sk q rtl IN AC' ZZ S1 (elZ ST k) c lb PS 0 l->(D++xh q rtl I IN AC' ZZ S1 ST (k+1) rest,ixs 0 D.length++(rest.map (·.1)).flatten)=(D1,ixs 0 kids.length):=fun D hD=>Prod.ext (by
   rw [<-hs,hD,hb,hw,zqC];rfl) (by
   show ixs 0 D.length++(rest.map (·.1)).flatten=ixs 0 kids.length
   rw [<-hk,hD,zqe,l9,jV,zqC]
   congr 1
   rw [zqA,List.flatten_cons]
   congr 1
   exact hn.2.1.symm)
  clear hF hn hV hk hS hJ hu hI hq hC hA hU ha hw hb hvI hvS hh
  cbv
  rw [hc]
  cbv
  refine goX hg _ z0 xg rfl ?_
  cbv
  refine lw hg (mf (aM f98) 3) (by kernel_rfl) [(4,.p 0),(6,.p 1),(7,.p 2),(8,.p 3),(9,.p 4),(11,.v vI),(12,.v vL),(13,.i (IN)),(14,.v vZ),(15,.v vS),(16,.v vC),(18,.i (AC')),(20,.v vT),(28,.p 5),(29,.o 6),(210,.v vL),(211,.i (g .ln vL)),(212,.i (k)),(30,.i (k)),(31,.v L),(32,.o 7),(217,.v L),(218,.i (g .ln L)),(219,.i (0))] [.bx 78 3 (m7 V rtl),.bx 34 2 [.J w0,.J w1],.bx 34 2 [.J h0',.J h1'],.bx 43 4 [.J 0,.J 0,.J 0,.N],.bx 80 75 (plL n s0 ⟨w0,w1⟩ ⟨h0',h1'⟩ row iw ih al ac (.view K)),.bx 62 4 [.J fl,.J ft,.J fr,.J fb],.rw ⟨156,5,E1⟩,.rw ⟨3,1,[]⟩] (Wk.weak (wkG [some _,some _,some _,some _,some _,some _,some _,none] ⟨rfl,rfl,rfl,rfl,rfl,rfl,rfl,rfl,rfl,rfl,rfl,rfl,rfl,rfl,rfl,rfl,rfl,rfl,rfl,rfl,rfl,rfl,rfl,rfl,trivial⟩ ⟨wqE rfl rfl,wqE rfl rfl,wqE rfl rfl,wqE rfl rfl,wqE rfl rfl,wqE rfl rfl,wqE rfl hM,⟨_,rfl,rfl⟩,trivial⟩ (by decide) aG)) ?_
  refine D6 hg V rtl n s0 row iw ih al ac w0 w1 h0' h1' K IN AC' vI vL vZ vS vC vT fl ft fr fb k E1 hM ZZ hvZ l L hL hd xe fun z2 E2 xa=> ?_
  obtain rfl:W=E2:=by rw [xa,hW]
  cbv
  (repeat'((first|refine aa hg cG ?_|refine aa hg hp ?_|refine ae hg hr ?_|refine ae hg hv ?_|refine bW hg hj (aq (aw rfl) (aq (bf (ab:=⟨_,_,W⟩) rfl kW dW) (aq (aw rfl) (aq (aw rfl) (aq (aw rfl) (aC)))))) hX ?_);cbv))
  refine lw hg (mf (aM f98) 4) (by kernel_rfl) [(4,.p 0),(6,.p 1),(7,.p 2),(8,.p 3),(9,.p 4),(11,.v vI),(12,.v vL),(13,.i (IN)),(14,.v vZ),(15,.v vS),(16,.v vC),(18,.i (AC')),(20,.v vT),(28,.p 5),(29,.o 6),(210,.v vL),(211,.i (g .ln vL)),(212,.i (k)),(30,.i (k)),(31,.v L),(35,.v vP),(36,.i (lb)),(249,.v L),(250,.i (g .ln L)),(251,.i (0))] [.bx 78 3 (m7 V rtl),.bx 34 2 [.J w0,.J w1],.bx 34 2 [.J h0',.J h1'],.bx 43 4 [.J 0,.J 0,.J 0,.N],.bx 80 75 (plL n s0 ⟨w0,w1⟩ ⟨h0',h1'⟩ row iw ih al ac (.view K)),.bx 62 4 [.J fl,.J ft,.J fr,.J fb],.rw ⟨156,5,E1⟩] (bG (sl1 8 vP) (jy rfl xi hY) (Wk.weak (wkG [some _,some _,some _,some _,some _,some _,some 6] ⟨rfl,rfl,rfl,rfl,rfl,rfl,rfl,rfl,rfl,rfl,rfl,rfl,rfl,rfl,rfl,rfl,rfl,rfl,rfl,rfl,rfl,rfl,rfl,rfl,rfl,trivial⟩ ⟨wqE rfl rfl,wqE rfl rfl,wqE rfl rfl,wqE rfl rfl,wqE rfl rfl,wqE rfl rfl,⟨_,_,rfl,rfl,rfl,rfl,.inl (bD hM)⟩,trivial⟩ (by decide) aG))) ?_
  refine ht _ fun z3 E3 D hD hO=> ?_
  have xj:=pmV hO
  cbv
  (repeat'(rw [e1];cbv))
  skip
  exact hB ((k+1,D,E3)) _ _ ⟨h3 D hD,⟨rfl,hO⟩⟩ (Wk.weak (wkG [some _,some _,some _,some _,some _,some _,some 6] ⟨rfl,rfl,rfl,rfl,rfl,rfl,rfl,rfl,rfl,rfl,rfl,rfl,rfl,rfl,rfl,rfl,rfl,rfl,trivial⟩ ⟨wqE rfl rfl,wqE rfl rfl,wqE rfl rfl,wqE rfl rfl,wqE rfl rfl,wqE rfl rfl,wqE rfl xj,trivial⟩ (by decide) aG))
theorem oC(cs:List Int)(gap inner ct:Int)(hl:cs.length<=64):da prog 235 [.c (.view (vw aj cs)),ai gap,ai inner,ai ct] fun res hm=>res= .o 0/\hm=[⟨3,1,vw aj (pll cs gap inner ct)⟩]:=by
 have cT:=fY cs gap (by omega)
 have cA:=lk cs gap inner (by omega)
 have cJ:=oA ct
 have cS:=bP (wrap64 (inner-crt cs gap))
 have cL:=nt (sg (wrap64 (inner-crt cs gap))) (cs.length:Int) (wh ct)
 have cB:=fun(h:(cs.length:Int)<=12)=>kh (sg (wrap64 (inner-crt cs gap))) (cs.length:Int) (wh ct) (by omega) h
 have ha:=fun i(h0:0<=i)(h1:i<(cs.length:Int))=>E7 (sg (wrap64 (inner-crt cs gap))) (cs.length:Int) (wh ct) h0 h1
 have hd:acr cs gap inner=true->(cs.length:Int)<=12:=fun h=>by simp only [acr,zqs,zqp]at h;exact h.2.1
 obtain⟨R,hR⟩:=nmE (pll cs gap inner ct)
 rw [<-hR]
 unfold pll at hR
 obtain⟨BW,hp⟩:=nmE (btw (sg (wrap64 (inner-crt cs gap))) (cs.length:Int) (wh ct))
 rw [<-hp]at hR ha
 obtain⟨SC,hs⟩:=nmE (spc (sg (wrap64 (inner-crt cs gap))) (cs.length:Int) (wh ct))
 rw [<-hs]at cB ha
 obtain⟨T,hT⟩:=nmE (crt cs gap);(try rw [<-hT]at cT);(try rw [<-hT]at cS);(try rw [<-hT]at cL);(try rw [<-hT]at cB);(try rw [<-hT]at hR)
 obtain⟨LD,hr⟩:=nmE (led (sg (wrap64 (inner-T))) (cs.length:Int) (wh ct));(try rw [<-hr]at cL);(try rw [<-hr]at hR)
 obtain⟨fr,hj⟩:=nmE (sg (wrap64 (inner-T)));(try rw [<-hj]at cS);(try rw [<-hj]at cL);(try rw [<-hj]at cB)
 obtain⟨D,hD⟩:=nmE (wrap64 (inner-T));(try rw [<-hD]at cS)
 obtain⟨js,hk⟩:=nmE (wh ct);(try rw [<-hk]at cJ);(try rw [<-hk]at cL);(try rw [<-hk]at cB)
 obtain⟨A,hA⟩:=nmE (acr cs gap inner);(try rw [<-hA]at cA);(try rw [<-hA]at hR);(try rw [<-hA]at hd)
 obtain⟨V,hV⟩:=nmE (vw aj cs)
 have hI:=lmV hV
 have iV:=imV hV
 have kV:=kmV (k:=1) hV fun _=>rfl
 have dV:=dmV hV
 have hf:aN V=(cs.length:Int):=by rw [hV,aO]
 rw [<-hV]at cT cA
 rw [<-hV]
 have hG:0<=(cs.length:Int):=by omega
 obtain⟨n,hn⟩:=nmE ((cs.length:Int));(try rw [<-hn]at hf);(try rw [<-hn]at cL);(try rw [<-hn]at cB);(try rw [<-hn]at hd);(try rw [<-hn]at hG);(try rw [<-hn]at ha)
 have ht:∀i:Int,0<=i->i<n->(vw aj SC)[i.toNat]? =some [.J (if i+1<n then BW i else 0)]:=fun i i0 i1=>ba (ha i i0 i1)
 obtain⟨Y,hY⟩:=nmE (vw aj SC);(try rw [<-hY]at cB);(try rw [<-hY]at ht)
 clear ha hs hp
 refine ad (aM f235) ay func235 fun g F hg hF=> ?_
 have t4:g .ln V=n:=by rw [bz hg,hf]
 have e0:g .w .sub .i64 inner T=D:=by rw [dp hg,hD]
 cases hA2:A
 ·rw [hA2]at cA hR
  cbv
  (repeat'(refine ae hg cA ?_;cbv))
  obtain rfl:R=[]:=hR
  exact bV hF rfl rfl
 rw [hA2]at cA hR
 replace hR:R=plG BW gap 0 LD cs:=hR
 replace hd:=hd hA2
 replace cB:=cB hd
 cbv
 (repeat'((first|rw [e0]|rw [t4]|refine ae hg cA ?_|refine ae hg cJ ?_|refine ae hg cT ?_|refine ae hg cS ?_|refine ae hg cL ?_|refine ae hg cB ?_);cbv))
 refine aY hg ay (by kernel_rfl) V (fun x=>lc (aj x)) cs hV (by omega) (fun z(s:Int×List Int×LLA)=>[(0,.v V),(1,.i (gap)),(9,.o 0),(11,.i (s.1)),(12,.v Y),(13,.i (z))]) (fun z(s:Int×List Int×LLA)=>[.rw ⟨3,1,s.2.2⟩]) (fun z(s:Int×List Int×LLA)=>s.2.2=vw aj s.2.1/\(s.2.1.length:Int)=z) (fun(s:Int×List Int×LLA) rest=>(s.2.1++plG BW gap (s.2.1.length:Int) s.1 rest,(s.2.1.length:Int)+rest.length)) ((R,n)) (LD,[],[]) (by rw [hR,hn];simp) ⟨rfl,rfl⟩ (Wk.weak (wkG [some 0] zr6 ⟨wqE rfl rfl,trivial⟩ (by decide) aG)) (fun z s B hz h0 hi he=> ?_) (fun z s x rest B z0 z1 z2 hx hy h0 hi hc e1 hB=> ?_)
 ·obtain⟨a,hb,E⟩:=s
  obtain⟨i1,i2⟩:=hi
  dsimp only at i1 i2 h0
  have pE:=pmV i1
  obtain rfl:hb=R:=by simpa [plG]using congrArg Prod.fst h0
  rw [<-i1]at hF
  cbv;rw [he];cbv
  exact bV hF rfl pE
 ·obtain⟨a,hb,E⟩:=s
  obtain⟨i1,i2⟩:=hi
  dsimp only at i1 i2 h0
  have ho:hb++plG BW gap (hb.length:Int) a (x::rest)=R:=congrArg Prod.fst h0
  have hv:(hb.length:Int)+((rest.length+1:Nat):Int)=n:=congrArg Prod.snd h0
  clear h0
  have hE:E.length<=1048576:=by rw [i1,ar];omega
  have zn:z<n:=by rw [hf]at z1;exact z1
  have hu:=ht z z0 zn
  obtain⟨bw,hh⟩:∃b,b=if z+1<n then BW z else 0:=⟨_,rfl⟩
  rw [<-hh]at hu
  have nl:((hb++[a]).length:Int)=z+1:=by simp;omega
  have hw:(hb++[a])++plG BW gap ((hb++[a]).length:Int) (wrap64 (wrap64 (wrap64 (a+x)+gap)+bw)) rest=R:=by
   rw [<-ho,i2]
   cases rest with
   |nil=>simp [plG]
   |cons y rest=>
    simp only [zqx]at hv
    rw [hh,if_pos (by omega),nl]
    simp only [plG,zqC,List.singleton_append]
    rw [show wrap64 (wrap64 (wrap64 (a+x)+gap)+BW z)=wrap64 (a+wrap64 (wrap64 (x+gap)+BW z)) by simp only [m8,tG];rw [show a+x+gap+BW z=a+(x+gap+BW z) by omega]]
  have hC:((hb++[a]).length:Int)+rest.length=n:=by rw [nl];omega
  have e2:g .w .add .i64 a x=wrap64 (a+x):=aJ hg _ _
  have e3:g .w .add .i64 (wrap64 (a+x)) gap=wrap64 (wrap64 (a+x)+gap):=aJ hg _ _
  have e4:g .w .add .i64 (wrap64 (wrap64 (a+x)+gap)) bw=wrap64 (wrap64 (wrap64 (a+x)+gap)+bw):=aJ hg _ _
  have aE:E++[[.J a]]=vw aj (hb++[a]):=by rw [i1,br];rfl
  obtain⟨E2,hq⟩:∃E2,E2=E++[[.J a]]:=⟨_,rfl⟩
  rw [<-hq]at aE
  have hH:=pmV aE
  clear ho hh
  generalize wrap64 (wrap64 (wrap64 (a+x)+gap)+bw)=Q1 at *
  generalize wrap64 (wrap64 (a+x)+gap)=Q2 at *
  generalize wrap64 (a+x)=Q3 at *
  cbv
  rw [hc]
  cbv
  (repeat'((first|rw [e1]|rw [e2]|rw [e3]|rw [e4]|refine goX hg _ (by omega) hy rfl ?_|refine goX hg _ (by omega) hu rfl ?_|refine dz hg rfl (by decide) hE ?_;cbv;rw [gW hg,<-hq]);cbv))
  exact hB ((Q1,hb++[a],E2)) _ _ ⟨Prod.ext hw hC,⟨aE,nl⟩⟩ (Wk.weak (wkG [some 2] zr6 ⟨wqE rfl hH,trivial⟩ (by decide) aG))
theorem oB(cs:List Int)(gap inner ct:Int)(hl:cs.length<=64):PC0 235 [.c (.view (vw aj cs)),ai gap,ai inner,ai ct] (.t (.c (.view (vw aj (pll cs gap inner ct))))):=xE (oC cs gap inner ct hl) fun _=>rfl
theorem xU(sp:Int->Int)(gap:Int):∀(cs:List Int)(i a:Int),(plG sp gap i a cs).length=cs.length
 | [],_,_=>rfl
 |c::r,i,a=>by simp only [plG,zqx,xU sp gap r]
theorem Gv(cs:List Int)(gap inner ct:Int):(pll cs gap inner ct).length<=cs.length:=by
 unfold pll
 split
 ·exact Nat.zero_le _
 ·rw [xU];exact Nat.le_refl _
variable {ns:List ag}{n:Int}
theorem Fh{x:ag}(h:ns[(n-1).toNat]? =some x):nod ns n=x:=by
 unfold nod;rw [h];rfl
theorem xm{x:ag}(h:ns[(n-1).toNat]? =some x):flK ns n=ir (iQ ns) (x.kids.filter (mh ns)):=by
 unfold flK vu;rw [h]
theorem w9(ns:List ag)(hl:ns.length<=1048576)(n:Int)(x:ag)(h1:isN ns n=true)(hx:ns[(n-1).toNat]? =some x)(hkl:x.kids.length<20)(hk:∀k∈x.kids,isN ns k=true)(hrl:x.table.rules.length<=1048576)(rtl:Bool)(b:Bv)(hbx:∀kid∈flK ns n,Bc (vwA ag.ac ns) rtl b kid):FP (vwA ag.ac ns) rtl (GB b ns rtl) n:=by
 intro w0 w1 ha hb
 have b2:=bC h1
 have cP:=ve ns n x hl b2.1 (by have:=b2.2.1;omega) hx hkl hk rtl w0 w1 ha hb
 have xk:flK ns n=ir (iQ ns) (x.kids.filter (mh ns)):=xm hx
 have ht:∀k∈flK ns n,isN ns k=true:=fun k h=>hk k (by rw [xk]at h;exact(List.mem_filter.1 ((wD _ _ _).1 h)).1)
 have hu:(flK ns n).length<20:=by rw [xk,ll];exact Nat.lt_of_le_of_lt (List.length_filter_le _ _) hkl
 rw [<-xk]at cP
 obtain⟨p,hp⟩:=nmE (plO ns n ⟨w0,w1⟩ ⟨ha,hb⟩)
 have hn:PC0 39 [.agg (m7 (vwA ag.ac ns) rtl),ai n,agP ⟨w0,w1⟩,agP ⟨ha,hb⟩] (.t (.agg (plL n p.s p.w p.h p.row p.wide p.high p.al p.ac (.view (vw aj p.kids))))):=by
  rw [hp]
  unfold plO
  rw [km hx]
  exact cP
 clear cP
 have xR:kst ns n=x.style:=km hx
 have yg:nod ns n=x:=Fh hx
 have yh:p.w=⟨w0,w1⟩/\p.h=⟨ha,hb⟩/\p.s=x.style/\p.wide=inW x.style ⟨w0,w1⟩/\p.kids=flK ns n:=by rw [hp];exact⟨rfl,rfl,km hx,by show inW (kst ns n) _=_;rw [xR],rfl⟩
 obtain⟨e1,e2,e3,e4,e5⟩:=yh
 unfold xC GB
 rw [yg,xR,<-hp,<-e1,<-e2,<-e3,<-e5]
 have yp:inW p.s p.w=p.wide:=by rw [e3,e1,e4]
 rw [yp]
 rw [<-e5]at ht hu hbx
 have cy:=dv ns n x b2.1 (by have:=b2.2.1;omega) hx (vwA ag.ac ns) _ _ rfl rfl rfl
 obtain⟨s0,row,w,h,iw,ih,al,ac,kids⟩:=p
 dsimp only at *
 subst e1 e2
 have cl:=wO n s0 ⟨w0,w1⟩ ⟨ha,hb⟩ row iw ih al ac (vw aj kids)
 have ci:=pT ns hl rtl b n ⟨s0,row,⟨w0,w1⟩,⟨ha,hb⟩,iw,ih,al,ac,kids⟩ (by dsimp only;omega) ht hbx
 have cs:=fun zs yq=>pQ ns hl rtl b n ⟨s0,row,⟨w0,w1⟩,⟨ha,hb⟩,iw,ih,al,ac,kids⟩ zs (by dsimp only;omega) yq ht hbx
 obtain⟨V,hV⟩:=nmE (vwA ag.ac ns)
 rw [<-hV]at cy hn ci⊢
 simp only [<-hV]at cs
 obtain⟨Kx,xO⟩:=nmE (vw aj x.kids)
 obtain⟨Rx,xr⟩:=nmE (vw aK.c x.table.rules)
 rw [<-xO,<-xr]at cy
 obtain⟨im,iN⟩:=iw
 have cR:=nV im iN
 have cW:=rO x.table.rules (kC ⟨im,iN⟩) hrl
 rw [<-xr]at cW
 have yf:∀q:jc,jc.ac q=[.J q.wide,.J q.high,.J q.base,.view (vw aD.c q.frames)]:=fun q=>rfl
 obtain⟨x0,x1,x2,x3,x4⟩:=x
 dsimp only at *
 by_cases hB:x3=true
 ·rw [if_pos hB]
  subst hB
  obtain⟨RO,xq⟩:=nmE (kC ⟨im,iN⟩);(try rw [<-xq]at cR);(try rw [<-xq]at cW);(try rw [<-xq]at⊢)
  obtain⟨⟨q0,q1⟩,hq⟩:∃q,q=wnt x4.rules RO:=⟨_,rfl⟩
  rw [<-hq]at cW⊢
  have cl:=cl q0 q1
  obtain⟨LF,hG⟩:=nmE (AJ s0 ⟨w0,w1⟩ ⟨ha,hb⟩ (q0,q1));(try rw [<-hG]at cl);(try rw [<-hG]at⊢)
  have hf:aB (vw aD.c LF.frames)=true:=aI _ _
  obtain⟨FR,hr⟩:=nmE (vw aD.c LF.frames);(try rw [<-hr]at cl);(try rw [<-hr]at hf);(try rw [<-hr]at⊢)
  obtain⟨K,hK⟩:=nmE (vw aj kids)
  have xl:=lmV hK
  have iK:=imV hK
  have kK:=kmV (k:=1) hK fun _=>rfl
  have dK:=dmV hK
  rw [<-hK]at hn cl
  clear ci cs hp hbx ht
  refine ad (aM f98) ay func98 fun g F hg hF=> ?_
  cbv
  (repeat'((first|refine ae hg hn ?_|refine ae hg cy ?_|refine aa hg cR ?_|refine aa hg cW ?_|refine z7 hg cl (gN rfl) hf ?_);cbv))
  exact rV hF rfl hf
 ·rw [if_neg hB]
  replace hB:x3=false:=by simpa using hB
  subst hB
  by_cases hkn:kids=[]
  ·rw [if_pos hkn]
   have cl:=cl 0 0
   obtain⟨LF,hG⟩:=nmE (AJ s0 ⟨w0,w1⟩ ⟨ha,hb⟩ (0,0));(try rw [<-hG]at cl);(try rw [<-hG]at⊢)
   have hf:aB (vw aD.c LF.frames)=true:=aI _ _
   obtain⟨FR,hr⟩:=nmE (vw aD.c LF.frames);(try rw [<-hr]at cl);(try rw [<-hr]at hf);(try rw [<-hr]at⊢)
   clear ci cs hp hbx ht
   subst hkn
   refine ad (aM f98) ay func98 fun g F hg hF=> ?_
   have t0:g .ln ([]:LLA)=0:=by rw [bz hg];rfl
   have t1:g .q .eql (0:Int) 0=true:=by rw [bn hg];rfl
   cbv
   (repeat'((first|rw [t0]|rw [t1]|refine ae hg hn ?_|refine ae hg cy ?_|refine qA hg cl rfl hf ?_);cbv))
   exact rV hF rfl hf
  ·rw [if_neg hkn]
   clear cW cR cl xr xO
   obtain⟨q,hq⟩:∃q:Pl,q=⟨s0,row,⟨w0,w1⟩,⟨ha,hb⟩,⟨im,iN⟩,ih,al,ac,kids⟩:=⟨_,rfl⟩
   rw [<-hq]at ci cs⊢
   have yi:q.kids=kids:=by rw [hq]
   unfold Iq
   rw [yi]
   have ci:=xE ci (fun _=>rfl)
   have hh:=zF b q rtl ns kids
   obtain⟨I,hI⟩:=nmE (Dk b q rtl ns kids)
   rw [<-hI]at ci hh⊢
   have xM:I.length<=1048576:=by rw [hh];exact Nat.le_of_lt (Nat.lt_trans hu (by decide))
   have cN:=nJ n s0 ⟨w0,w1⟩ ⟨ha,hb⟩ row ⟨im,iN⟩ ih al ac (vw aj kids) I xM
   have h3:=uB q I
   have cs:=cs (sn q I) (by rw [h3,hh])
   obtain⟨S0,xP⟩:=nmE (E9 b q rtl ns (kids.zip (sn q I)))
   have hM:S0.length=kids.length:=by rw [xP,DI,zqB,h3,hh];exact Nat.min_self _
   rw [<-xP]at cs⊢
   change PC0 _ _ (.tup [.c (.view (vwA lnA (lns I (ju s0 row) (kC al) (!decide (s0.wrap=1))))),ai (tak al (lng I (ju s0 row) (kC al) (!decide (s0.wrap=1)))),.c (.view (vw aj (lsz I (ju s0 row) (kC al) (!decide (s0.wrap=1)) (tak al (lng I (ju s0 row) (kC al) (!decide (s0.wrap=1)))))))])at cN
   have hQ:mg q I=lns I (ju s0 row) (kC al) (!decide (s0.wrap=1)):=by rw [hq];rfl
   have xS:Dl q I=tak al (lng I (ju s0 row) (kC al) (!decide (s0.wrap=1))):=by rw [hq];rfl
   have xT:sn q I=lsz I (ju s0 row) (kC al) (!decide (s0.wrap=1)) (tak al (lng I (ju s0 row) (kC al) (!decide (s0.wrap=1)))):=by rw [hq];rfl
   rw [<-xT,<-xS,<-hQ]at cN
   have hA:(mg q I).flatten=ixs 0 kids.length:=by rw [hQ,jT,hh]
   have hP:(mg q I).length<=64:=by rw [hQ];exact Nat.le_trans (lx ..) (by omega)
   have xy:∀l∈mg q I,l.length<=1048576/\∀i∈l,0<=i/\i<(S0.length:Int):=fun l hm=>by
    rw [hQ]at hm
    exact⟨Nat.le_trans (jS hm) xM,fun i hi=>by have:=vb hm hi;omega⟩
   have cC:=oK n s0 ⟨w0,w1⟩ ⟨ha,hb⟩ row ⟨im,iN⟩ ih al ac (vw aj kids) (mg q I) S0 (by omega) hP xy
   have xU:yy q (mg q I) S0=Ev s0 row ac (mg q I) S0:=by rw [hq];rfl
   rw [<-xU]at cC
   have ho:(yy q (mg q I) S0).length=(mg q I).length:=qz q _ _ hP
   unfold I8
   dsimp only
   obtain⟨LL,yd⟩:=nmE (mg q I)
   obtain⟨ZZ,ye⟩:=nmE (sn q I)
   obtain⟨IN,xN⟩:=nmE (Dl q I)
   rw [<-yd]at hA hP xy cC ho cN⊢
   rw [<-ye]at h3 cs cN⊢
   rw [<-xN]at cN⊢
   obtain⟨CC,ya⟩:=nmE (yy q LL S0)
   rw [<-ya]at ho cC⊢
   clear hQ xS xT xU
   have cG:=i9 s0 (!row)
   have xV:uh q=ju s0 (!row):=by rw [hq];rfl
   have cT:=gj CC (uh q) (by rw [ho];omega)
   obtain⟨am,an⟩:=ac
   have cK:=fE am an (crt CC (uh q))
   have xW:Af q CC=tak ⟨am,an⟩ (crt CC (uh q)):=by rw [hq];rfl
   rw [<-xW]at cK
   have cL:=oQ CC (uh q) (Af q CC) (ctP q) (by omega)
   have xz:ctP q=if s0.wrap=1 then 2 else s0.content:=by rw [hq];rfl
   rw [<-xV]at cG
   have xA:Hi q CC=pll CC (uh q) (Af q CC) (ctP q):=rfl
   rw [<-xA]at cL
   obtain⟨GC,xL⟩:=nmE (uh q)
   obtain⟨hd,xI⟩:=nmE (Af q CC)
   obtain⟨ST,xu⟩:=nmE (Hi q CC)
   rw [<-xL]at cG cT cK cL
   rw [<-xI]at cK cL⊢
   rw [<-xu]at cL⊢
   have xv:ST.length<=1048576:=by rw [xu,xA];exact Nat.le_trans (Gv ..) (by omega)
   clear xV xW xA
   obtain⟨TT,xQ⟩:=nmE (crt CC GC)
   rw [<-xQ]at cT cK
   have cB:=eJ am an
   obtain⟨KB,xj⟩:=nmE (knS ⟨am,an⟩)
   rw [<-xj]at cB
   obtain⟨K,hK⟩:=nmE (vw aj kids)
   have xl:=lmV hK
   have iK:=imV hK
   have kK:=kmV (k:=1) hK fun _=>rfl
   have dK:=dmV hK
   rw [<-hK]at hn ci cN cs cC
   obtain⟨vI,xB⟩:=nmE (vw af.c I);(try rw [<-xB]at ci);(try rw [<-xB]at cN)
   obtain⟨vZ,hz⟩:=nmE (vw aj ZZ)
   have yn:=lmV hz
   have yB:=imV hz
   have yD:=kmV (k:=1) hz fun _=>rfl
   have yw:=dmV hz
   rw [<-hz]at cN cs
   obtain⟨vS,hy⟩:=nmE (vw av.c S0)
   have yl:=lmV hy
   have yr:=imV hy
   have x8:=kmV (k:=7) hy fun _=>rfl
   have xH:=dmV hy
   rw [<-hy]at cs cC
   obtain⟨vC,hw⟩:=nmE (vw aj CC)
   have yj:=lmV hw
   have x6:=imV hw
   have hT:=kmV (k:=1) hw fun _=>rfl
   have hD:=dmV hw
   rw [<-hw]at cC cT cL
   obtain⟨vL,h2⟩:=nmE (vwA lnA LL);(try rw [<-h2]at cN);(try rw [<-h2]at cC)
   obtain⟨vT,hC⟩:=nmE (vw aj ST)
   have ym:=lmV hC
   have x7:=imV hC
   have yt:=kmV (k:=1) hC fun _=>rfl
   have x9:=dmV hC
   rw [<-hC]at cL
   have hs:kids.length<=1048576:=Nat.le_of_lt (Nat.lt_trans hu (by decide))
   have xx:ZZ.length=kids.length:=by rw [h3,hh]
   have hH:LL.length<=1048576:=Nat.le_trans hP (by decide)
   have hJ:=fun(g:Gd)(hg:g= @G0 bp0 prog 0 f98.ntmps)(Q':Exit->List (Nat×AV)->EH->Prop) hQ'=>Cu hg (Q:=Q') ns hl V hV rtl n s0 row ⟨im,iN⟩ ih al ⟨am,an⟩ w0 w1 ha hb kids K hK hs ht IN hd KB xj vI vL vZ vC vT ZZ CC hz hw S0 xx hM LL h2 hH ho hA hQ'
   rw [<-hq,<-hy]at hJ
   obtain⟨S1,xt⟩:=nmE (CO q ns S0 ZZ (LL.zip CC))
   have hN:S1.length=kids.length:=by rw [xt,zP,e9 ho,hA,bU]
   rw [<-xt]at hJ⊢
   have h6:=fq s0
   obtain⟨fe,h0⟩:=nmE (oc s0)
   rw [<-h0]at h6
   have hR:q.s=s0:=by rw [hq]
   have xZ:q.w=⟨w0,w1⟩:=by rw [hq]
   have xX:q.h=⟨ha,hb⟩:=by rw [hq]
   have xY:q.row=row:=by rw [hq]
   obtain⟨fl,ft,fr,fb⟩:=fe
   have hX:=fO fl ft fr fb
   have hW:=fQ fl ft fr fb
   obtain⟨hU,hc⟩:=nmE (vw av.c S1)
   have x5:=lmV hc
   have ys:=imV hc
   have xF:=kmV (k:=7) hc fun _=>rfl
   have h9:=dmV hc
   have hL:=fun(g:Gd)(hg:g= @G0 bp0 prog 0 f98.ntmps)(Q':Exit->List (Nat×AV)->EH->Prop) E hE hQ'=>Ct hg (Q:=Q') V rtl n s0 row ⟨im,iN⟩ ih al ⟨am,an⟩ w0 w1 ha hb K IN hd vI vL vZ hU vC vT fl ft fr fb kids hK hs I xB hh ZZ CC ST S1 hz hw hC hc xv xx hN h0.symm LL h2 hH ho hA E hE hQ'
   rw [<-hq]at hL
   obtain⟨FF,xg⟩:=nmE (xh q rtl I IN hd ZZ S1 ST 0 (LL.zip CC))
   have xK:FF.length=kids.length:=by rw [xg,qw,e9 ho,hA,bU]
   rw [<-xg]at hL⊢
   have yz:0<kids.length:=List.length_pos_iff.2 hkn
   obtain⟨f0,FT,xd⟩:∃f t,FF=f::t:=by
    cases FF with
    |nil=>simp at xK;omega
    |cons a b=>exact⟨_,_,rfl⟩
   obtain⟨h4,hv⟩:∃y,S1[(0:Int).toNat]? =some y:=⟨_,zqc (by show 0<S1.length;omega)⟩
   have hS:sdZ S1 0=h4:=wI (Int.le_refl 0) hv
   obtain⟨vF,he⟩:=nmE (vw aD.c FF)
   have yk:=lmV he
   have yA:=imV he
   have yC:=kmV (k:=5) he fun _=>rfl
   have yv:=dmV he
   have pF:=pmV he
   have xf:vF[(0:Int).toNat]? =some (lc (aD.c f0)):=by rw [he,xd];rfl
   have xe:(0:Int)<aN vF:=by rw [he,aO];omega
   have xs:hU[(0:Int).toNat]? =some (lc (av.c h4)):=by rw [hc];exact ba hv
   obtain⟨A1,xa⟩:=nmE (adE fl fr)
   obtain⟨A2,xb⟩:=nmE (adE ft fb)
   change PC0 _ _ (.i (adE fl fr))at hX
   change PC0 _ _ (.i (adE ft fb))at hW
   rw [<-xa]at hX
   rw [<-xb]at hW
   obtain⟨XW,hZ⟩:=nmE ((if row then IN else hd))
   obtain⟨XH,hY⟩:=nmE ((if row then hd else IN))
   obtain⟨W1,xw⟩:=nmE (wrap64 (XW+A1))
   obtain⟨H1,xi⟩:=nmE (wrap64 (XH+A2))
   obtain⟨BB,xc⟩:=nmE (wrap64 (f0.y+h4.base))
   have h7:=fE w0 w1 W1
   have h8:=fE ha hb H1
   have h5:=aZ BB
   obtain⟨R1,xn⟩:=nmE (tak ⟨w0,w1⟩ W1);(try rw [<-xn]at h7)
   obtain⟨R2,xo⟩:=nmE (tak ⟨ha,hb⟩ H1);(try rw [<-xo]at h8)
   obtain⟨R3,xp⟩:=nmE (cl BB);(try rw [<-xp]at h5)
   have hO:(FO q IN hd FF S1).wide=R1/\(FO q IN hd FF S1).high=R2/\(FO q IN hd FF S1).base=R3/\(FO q IN hd FF S1).frames=FF:=by
    rw [xn,xo,xp,xw,xi,xc,hZ,hY,xa,xb]
    unfold FO
    rw [hR,xZ,xX,xY,<-h0,hS,xd]
    exact⟨rfl,rfl,rfl,rfl⟩
   rw [hO.1,hO.2.1,hO.2.2.1,hO.2.2.2,<-he]
   have t1:∀g:Gd,g=G0 prog 0 f98.ntmps->g .w .add .i64 XW A1=W1:=fun g hg=>by rw [aJ hg,xw]
   have t2:∀g:Gd,g=G0 prog 0 f98.ntmps->g .w .add .i64 XH A2=H1:=fun g hg=>by rw [aJ hg,xi]
   have t3:∀g:Gd,g=G0 prog 0 f98.ntmps->g .w .add .i64 f0.y h4.base=BB:=fun g hg=>by rw [aJ hg,xc]
   have xG:∀g:Gd,g=G0 prog 0 f98.ntmps->g .rp (g .ln K) [.J 0,.J 0,.J 0,.J 0,.J 0]=vw aD.c (List.replicate kids.length ⟨0,0,0,0,0⟩):=fun g hg=>by
    rw [yo hg,bz hg,hK,aO,Int.toNat_natCast];exact qD aD.c kids.length ⟨0,0,0,0,0⟩
   have xl:K.length<=1048576:=by rw [hK,ar];exact hs
   have pS:=pmV hy
   have t0:∀g:Gd,g=G0 prog 0 f98.ntmps->g .q .eql s0.wrap 1=decide (s0.wrap=1):=fun g hg=>by rw [bn hg];exact zqn _ _
   have xD:∀g:Gd,g=G0 prog 0 f98.ntmps->g .q .eql (g .ln K) 0=false:=fun g hg=>by
    rw [bn hg,bz hg,hK,aO]
    have:kids.length≠0:=fun h=>hkn (zqv h)
    exact beq_eq_false_iff_ne.2 (by omega)
   clear hO xn xo xp xw xi xc xa xb h0 hR xZ xX xY hS xd xK xg xt hv hN hM hh xx hP xy hA ho xQ xj xL xI xu xN hq hp hbx ht
   refine ad (aM f98) ay func98 fun g F hg hF=> ?_
   have t0:=t0 g hg
   have xD:=xD g hg
   have t1:=t1 g hg
   have t2:=t2 g hg
   have t3:=t3 g hg
   have xG:=xG g hg
   have hJ:=hJ g hg
   have hL:=hL g hg
   cbv
   (repeat'((first|rw [xD]|refine ae hg hn ?_|refine ae hg cy ?_|refine ae hg ci ?_|refine ae hg cN ?_|refine bK hg cs (bA rfl) yr ?_|refine bK hg cC (bN rfl (aq (aw rfl) (aq (bf (ab:=⟨_,_,vS⟩) rfl x8 xH) (aC)))) x6 ?_|refine fg hg cT (aq (bf (ab:=⟨_,_,vC⟩) rfl hT hD) (aq (aw rfl) (aC))) rfl ?_|refine ae hg cG ?_|refine aa hg cK ?_);cbv))
   by_cases hw1:s0.wrap=1
   all_goals
    first|rw [if_pos hw1]at xz|rw [if_neg hw1]at xz
    rw [xz]at cL
    first|rw [zqu hw1]at t0|rw [zqt hw1]at t0
    (repeat'((first|rw [t0]|refine bK hg cL (aq (bf (ab:=⟨_,_,vC⟩) rfl hT hD) (aq (aw rfl) (aq (aw rfl) (aq (aw rfl) (aC))))) x7 ?_|refine ae hg cB ?_);cbv))
    refine lw hg (mf (aM f98) 0) (by kernel_rfl) [(4,.p 0),(6,.p 1),(7,.p 2),(8,.p 3),(9,.p 4),(11,.v vI),(12,.v vL),(13,.i (IN)),(14,.v vZ),(15,.o 5),(16,.v vC),(18,.i (hd)),(20,.v vT),(21,.i (KB)),(116,.v vL),(117,.i (g .ln vL)),(118,.i (0))] [.bx 78 3 (m7 V rtl),.bx 34 2 [.J w0,.J w1],.bx 34 2 [.J ha,.J hb],.bx 43 4 [.J 0,.J 0,.J 0,.N],.bx 80 75 (plL n s0 ⟨w0,w1⟩ ⟨ha,hb⟩ row ⟨im,iN⟩ ih al ⟨am,an⟩ (.view K)),.rw ⟨96,7,vS⟩] (bG (sl2 7 8 vC vT) (Gk rfl hT hD rfl yt x9) (Wk.weak (wkG [some _,some _,some _,some _,some _,some 6] ⟨rfl,rfl,rfl,rfl,rfl,rfl,rfl,rfl,rfl,rfl,rfl,rfl,rfl,rfl,rfl,rfl,rfl,trivial⟩ ⟨wqE rfl rfl,wqE rfl rfl,wqE rfl rfl,wqE rfl rfl,wqE rfl rfl,⟨_,_,rfl,rfl,rfl,rfl,.inl (bD pS)⟩,trivial⟩ (by decide) aG))) ?_
    refine hJ _ fun z1 E1 yb=> ?_
    obtain rfl:hU=E1:=by rw [yb,hc]
    cbv
    ((repeat'(refine ae hg h6 ?_;cbv)))
    refine Fz hg (by decide) xl ?_
    cbv
    generalize hE0:g .rp (g .ln K) _=E3
    have xJ:E3=vw aD.c (List.replicate kids.length ⟨0,0,0,0,0⟩):=by rw [<-hE0];exact xG
    clear hE0
    have yu:=pmV xJ
    refine lw hg (mf (aM f98) 2) (by kernel_rfl) [(4,.p 0),(6,.p 1),(7,.p 2),(8,.p 3),(9,.p 4),(11,.v vI),(12,.v vL),(13,.i (IN)),(14,.v vZ),(15,.v hU),(16,.v vC),(18,.i (hd)),(20,.v vT),(28,.p 5),(29,.o 6),(210,.v vL),(211,.i (g .ln vL)),(212,.i (0))] [.bx 78 3 (m7 V rtl),.bx 34 2 [.J w0,.J w1],.bx 34 2 [.J ha,.J hb],.bx 43 4 [.J 0,.J 0,.J 0,.N],.bx 80 75 (plL n s0 ⟨w0,w1⟩ ⟨ha,hb⟩ row ⟨im,iN⟩ ih al ⟨am,an⟩ (.view K)),.bx 62 4 [.J fl,.J ft,.J fr,.J fb],.rw ⟨156,5,E3⟩] (bG (sl1 5 hU) (jy rfl xF h9) (Wk.weak (wkG [some _,some _,some _,some _,some _,some 6,some 7] ⟨rfl,rfl,rfl,rfl,rfl,rfl,rfl,rfl,rfl,rfl,rfl,rfl,rfl,rfl,rfl,rfl,rfl,rfl,trivial⟩ ⟨wqE rfl rfl,wqE rfl rfl,wqE rfl rfl,wqE rfl rfl,wqE rfl rfl,wqE rfl rfl,⟨_,_,rfl,rfl,rfl,rfl,.inl (bD yu)⟩,trivial⟩ (by decide) aG))) ?_
    refine hL _ E3 xJ fun z2 E2 yc=> ?_
    obtain rfl:vF=E2:=by rw [yc,he]
    cbv
    cases row
    all_goals
     (try simp only [Bool.false_eq_true,if_false]at hZ hY)
     (try simp only [if_true]at hZ hY)
     subst hZ hY
     (try cbv)
     ((repeat'((first|rw [t1]|rw [t2]|rw [t3]|refine aa hg hX ?_|refine aa hg hW ?_|refine aa hg h7 ?_|refine aa hg h8 ?_|refine aa hg h5 ?_|refine goX hg _ (Int.le_refl 0) xs rfl ?_|refine goY hg (Int.le_refl 0) xe fun j hj yx=> ?_;subst hj|refine⟨_,xf,?_⟩);cbv)))
     exact rV hF rfl pF
theorem zT{ns:List ag}:∀(f:Nat)(k n:Int),0<=k->0<uq ns f (k+1) n->uq ns (f+1) k n=uq ns f (k+1) n-1
 |0,k,n,h0,h=>by
  by_cases hn:n=0
  ·subst hn;rw [ma,ma];omega
  ·rw [yw ns hn]at h;omega
 |f+1,k,n,h0,h=>by
  by_cases hn:n=0
  ·subst hn;rw [ma,ma];omega
  ·by_cases hi:isN ns n=true
   ·rw [kg ns hn hi]at h
    rw [kg ns hn hi,kg ns hn hi]
    exact zT f (k+1) (upN ns n) (by omega) h
   ·rw [vY ns (f+1) (k+1) n hn (by simpa using hi)]at h;omega
theorem na(h:fc ns=true)(hn:isN ns n=true):1<=wi ns n/\wi ns n<=4:=by
 obtain⟨n1,n2,x,hx⟩:=bC hn
 simp only [fc,zqs]at h
 have:=(jZ ns ns 0).1 h.2 _ x hx
 simp only [fD,zqs,rng,zqp]at this
 have h2:=this.2.1
 rw [show(0:Int)+(((n-1).toNat:Nat):Int)+1=n by omega]at h2
 exact h2
theorem F6(h:fc ns=true){x:ag}(h1:1<=n)(hx:ns[(n-1).toNat]? =some x):∀k∈x.kids,upN ns k=n:=fun k ha=>by
 simp only [fc,zqs]at h
 have:=(jZ ns ns 0).1 h.2 _ x hx
 simp only [fD,zqs,zqf,ia,zqp]at this
 have:=(this.2.2.2.1 k ha).2
 omega
theorem Cv(h:fc ns=true){x:ag}(h1:1<=n)(hx:ns[(n-1).toNat]? =some x):∀k∈x.kids,wi ns k=wi ns n+1:=fun k ha=>by
 have hk:=jv h h1 hx k ha
 obtain⟨k1,k2,y,hy⟩:=bC hk
 have hu:=F6 h h1 hx k ha
 have hd:=na h hk
 obtain⟨L,hL⟩:∃L,ns.length=L+1:=⟨ns.length-1,by omega⟩
 unfold wi at hd⊢
 rw [hL]at hd⊢
 rw [kg ns (by omega) hk,hu]at hd⊢
 have:=zT (ns:=ns) L 0 n (Int.le_refl 0) (by omega)
 rw [this];omega
theorem rT{x:ag}(hx:ns[(n-1).toNat]? =some x):∀k∈flK ns n,k∈x.kids:=fun k hk=>by
 rw [xm hx,wD]at hk
 exact(List.mem_filter.1 hk).1
theorem nO{ns:List ag}(hl:ns.length<=1048576)(hs:∀y∈ns,ag.small y)(ht:fc ns=true)(rtl:Bool):∀(f:Nat)(n:Int),isN ns n=true->5<=wi ns n+(f:Int)->Hh (vwA ag.ac ns) rtl (C1 ns rtl f) n
 |0,n,hn,hd=>by have:=na ht hn;omega
 |f+1,n,hn,hd=>by
  obtain⟨n1,n2,x,hx⟩:=bC hn
  have hc:=uz ht n1 hx
  have hb:=jv ht n1 hx
  refine yi _ rtl _ n (w9 ns hl n x hn hx (by omega) hb ?_ rtl (C1 ns rtl f) fun ha hk=> ?_)
  ·have:=hs x (zqd hx)
   exact this.2.1
  ·have hm:=rT hx ha hk
   have:=Cv ht n1 hx ha hm
   exact yj _ rtl _ ha (nO hl hs ht rtl f ha (hb ha hm) (by omega))
theorem Cs{w h:az}(hO:Dj ns n w h=true):fc ns=true/\isN ns n=true/\1<=n/\n<=(ns.length:Int)/\∃x,ns[(n-1).toNat]? =some x/\x.kids.length<=12/\∀k∈x.kids,isN ns k=true:=by
 simp only [Dj,zqs]at hO
 obtain⟨hT,hI,_⟩:=hO
 obtain⟨n1,n2,x,hx⟩:=bC hI
 exact⟨hT,hI,n1,n2,x,hx,uz hT n1 hx,jv hT n1 hx⟩
theorem Ir{x:ag}(hx:ns[(n-1).toNat]? =some x)(hkl:x.kids.length<=12)(hkd:∀k∈x.kids,isN ns k=true):(flK ns n).length<=12/\∀k∈flK ns n,isN ns k=true:=
 ⟨by rw [xm hx,ll];exact Nat.le_trans (List.length_filter_le _ _) hkl,fun k h=>hkd k (rT hx k h)⟩
def sbO(ns:List ag)(n:Int)(w h:az)(rtl:Bool):jc:=if Dj ns n w h=false then⟨0,0,0,[]⟩else C1 ns rtl 4 n w h
section
variable {P:Program}{n0 N:Nat}{g:Gd}
end
theorem It{w h:az}(hO:Dj ns n w h=true):(flK ns n).length<=12:=by
 obtain⟨hT,hI,n1,n2,x,hx,hb,ha⟩:=Cs hO
 exact(Ir hx hb ha).1
theorem rP(ns:List ag)(hl:ns.length<=1048576)(hs:∀y∈ns,ag.small y)(n a b c d:Int)(rtl:Bool):da prog 18 [.agg [.view (vwA ag.ac ns)],ai n,agP ⟨a,b⟩,agP ⟨c,d⟩,abl rtl] (xC (sbO ns n ⟨a,b⟩ ⟨c,d⟩ rtl)):=by
 have cO:=vE ns hl hs n a b c d
 unfold sbO xC
 cases hO:Dj ns n ⟨a,b⟩ ⟨c,d⟩
 case false=>
  rw [hO]at cO
  simp only [if_true]
  rw [show vw aD.c ([]:List aD)=[]from rfl]
  obtain⟨V,hV⟩:=nmE (vwA ag.ac ns)
  rw [<-hV]at cO⊢
  refine ad (aM f18) ay func18 fun g F hg hF=> ?_
  cbv
  repeat'(refine ae hg cO ?_;cbv)
  exact vO hF
 obtain⟨hT,hI,n1,n2,x,hx,hd,hc⟩:=Cs hO
 rw [hO]at cO
 simp only [Bool.true_eq_false,if_false]
 have cb:=nO hl hs hT rtl 4 n hI (by have:=na hT hI;omega) a b c d
 unfold xC at cb
 obtain⟨q,hq⟩:=nmE (C1 ns rtl 4 n ⟨a,b⟩ ⟨c,d⟩)
 rw [<-hq]at cb⊢
 have hb:aB (vw aD.c q.frames)=true:=aI _ _
 obtain⟨FR,ha⟩:=nmE (vw aD.c q.frames);(try rw [<-ha]at cb);(try rw [<-ha]at hb);(try rw [<-ha]at⊢)
 obtain⟨V,hV⟩:=nmE (vwA ag.ac ns)
 rw [<-hV]at cO cb⊢
 clear ha hq
 refine ad (aM f18) ay func18 fun g F hg hF=> ?_
 cbv
 repeat'(refine ae hg cO ?_;cbv)
 refine qA hg cb rfl hb ?_
 cbv
 exact rV hF rfl hb
end Go.Proofs.YtkicjdeddpihaaaGreat
