/- The frames of a whole tree, as functions of data. -/
import Derived.Test.YtckchgoblpgpbaaGreatJ5bo
set_option linter.unusedVariables false
set_option linter.unusedSimpArgs false
set_option maxHeartbeats 16000000
namespace Go.Proofs.YtckchgoblpgpbaaGreat
open Go.ChangeShapes Go.WideShapes Go.ChangeAt Go.RowKit Am Go.Proofs.Tryz
set_option maxRecDepth 100000
theorem AG{g:Gd}(hg:g= @G0 bp0 prog 0 f125.ntmps){Q:Exit->List (Nat×AV)->EH->Prop}(V:LLA)(rtl:Bool)(n:Int)(s0:aj)(row:Bool)(iw ih al ac:aI)(w0 w1 h0' h1':Int)(K:LLA)(IN AC':Int)(vI vL vZ vS vC vT:LLA)(fl ft fr fb:Int)(kids:List Int)(hK:K=vw ak kids)(hkl:kids.length<=1048576)(I:List ag)(hvI:vI=vw ag.c I)(hIl:I.length=kids.length)(ZZ CC ST:List Int)(S1:List ar)(hvZ:vZ=vw ak ZZ)(hvC:vC=vw ak CC)(hvT:vT=vw ak ST)(hvS:vS=vw ar.c S1)(hTl:ST.length<=1048576)
  (hzl:ZZ.length=kids.length) (hsl:S1.length=kids.length) (hf:lw s0=⟨fl,ft,fr,fb⟩) (LL:List (List Int)) (hH:vL=vwA lnA LL) (hLl:LL.length<=1048576) (hcl:CC.length=LL.length) (hfl:LL.flatten=ixs 0 kids.length)
  (E:LLA) (hE:E=vw aM.c (List.replicate kids.length ⟨0,0,0,0,0⟩))
  (hQ:∀(z:Int)(E:LLA),E=vw aM.c (wy ⟨s0,row,⟨w0,w1⟩,⟨h0',h1'⟩,iw,ih,al,ac,kids⟩ rtl I IN AC' ZZ S1 ST 0 (LL.zip CC))->Q (.exit 4) [(213,.t (abl (false))),(4,.p 0),(6,.p 1),(7,.p 2),(8,.p 3),(9,.p 4),(11,.v vI),(12,.v vL),(13,.i (IN)),(14,.v vZ),(15,.v vS),(16,.v vC),(18,.i (AC')),(20,.v vT),(28,.p 5),(29,.o 6),(210,.v vL),(211,.i (g .ln vL)),(212,.i (z))] [.bx 76 3 (mo V rtl),.bx 122 2 [.J w0,.J w1],.bx 122 2 [.J h0',.J h1'],.bx 127 4 [.J 0,.J 0,.J 0,.N],.bx 196 75 (plL n s0 ⟨w0,w1⟩ ⟨h0',h1'⟩ row iw ih al ac (.view K)),.bx 34 4 [.J fl,.J ft,.J fr,.J fb],.rw ⟨45,5,E⟩]):
  g .L (lV (aJ f125) 2) Q [(4,.p 0),(6,.p 1),(7,.p 2),(8,.p 3),(9,.p 4),(11,.v vI),(12,.v vL),(13,.i (IN)),(14,.v vZ),(15,.v vS),(16,.v vC),(18,.i (AC')),(20,.v vT),(28,.p 5),(29,.o 6),(210,.v vL),(211,.i (g .ln vL)),(212,.i (0))] [.bx 76 3 (mo V rtl),.bx 122 2 [.J w0,.J w1],.bx 122 2 [.J h0',.J h1'],.bx 127 4 [.J 0,.J 0,.J 0,.N],.bx 196 75 (plL n s0 ⟨w0,w1⟩ ⟨h0',h1'⟩ row iw ih al ac (.view K)),.bx 34 4 [.J fl,.J ft,.J fr,.J fb],.rw ⟨45,5,E⟩]:=by
 have hI:vL=(LL.zip CC).map (fun t=>lnA t.1):=by rw [hH];exact pi hcl
 have hJ:(LL.zip CC).map (·.1)=LL:=fu hcl
 have ho:(LL.zip CC).length<=1048576:=by rw [zqB];exact Nat.le_trans (Nat.min_le_left ..) hLl
 have hu:=fun{i t} h=>wA (a:=LL) (b:=CC) (i:=i) (t:=t) h
 have hU:∀l∈LL,∀i∈l,0<=i/\i<(kids.length:Int):=fun l hl i hi=>by
  have:i∈LL.flatten:=List.mem_flatten.2 ⟨l,hl,hi⟩
  rw [hfl,ll]at this
  omega
 obtain⟨qs,hC⟩:=nmE (LL.zip CC)
 rw [<-hC]at hI hJ ho hQ
 simp only [<-hC]at hu
 have hS:(qs.map (·.1)).flatten=ixs 0 kids.length:=by rw [hJ];exact hfl
 obtain⟨q,hq⟩:∃q:Pl,q=⟨s0,row,⟨w0,w1⟩,⟨h0',h1'⟩,iw,ih,al,ac,kids⟩:=⟨_,rfl⟩
 rw [<-hq]at hQ
 obtain⟨D1,hN⟩:=nmE (wy q rtl I IN AC' ZZ S1 ST 0 qs)
 rw [<-hN]at hQ
 have xb:I.length<=1048576:=by omega
 have cG:=iJ s0 row
 have hT:BD q=jd s0 row:=by rw [hq];rfl
 have xd:q.s.justify=s0.justify:=by rw [hq]
 have ht:=fun(zo c lb:Int)(h1:0<=zo)(h2:CC[zo.toNat]? =some c) PS vP h3 h4 l L h5 h6 done h7 h8 E h9 Q' hQ'=>Cg hg (Q:=Q') V rtl n s0 row iw ih al ac w0 w1 h0' h1' K IN AC' vI vL vZ vS vC vT fl ft fr fb zo kids hK I ZZ CC ST PS S1 hvZ hvC hvT hvS vP h3 h4 hTl hzl hsl hf h1 c h2 lb l L h5 h6 done h7 h8 E h9 hQ'
 simp only [<-hq]at ht
 obtain⟨G,hG⟩:=nmE (jd s0 row);(try rw [<-hG]at cG);(try rw [<-hG]at hT)
 replace hH:=hI
 have pE:=pmV hE
 refine aY hg ay (by kernel_rfl) vL (fun t=>lnA t.1) qs hH ho (fun z(s:Int×List aM×LLA)=>[(4,.p 0),(6,.p 1),(7,.p 2),(8,.p 3),(9,.p 4),(11,.v vI),(12,.v vL),(13,.i (IN)),(14,.v vZ),(15,.v vS),(16,.v vC),(18,.i (AC')),(20,.v vT),(28,.p 5),(29,.o 6),(210,.v vL),(211,.i (g .ln vL)),(212,.i (z))]) (fun z(s:Int×List aM×LLA)=>[.bx 76 3 (mo V rtl),.bx 122 2 [.J w0,.J w1],.bx 122 2 [.J h0',.J h1'],.bx 127 4 [.J 0,.J 0,.J 0,.N],.bx 196 75 (plL n s0 ⟨w0,w1⟩ ⟨h0',h1'⟩ row iw ih al ac (.view K)),.bx 34 4 [.J fl,.J ft,.J fr,.J fb],.rw ⟨45,5,s.2.2⟩]) (fun z(s:Int×List aM×LLA)=>s.1=z/\s.2.2=vw aM.c (s.2.1++List.replicate (kids.length-s.2.1.length) ⟨0,0,0,0,0⟩)) (fun(s:Int×List aM×LLA) rest=>(s.2.1++wy q rtl I IN AC' ZZ S1 ST s.1 rest,ixs 0 s.2.1.length++(rest.map (·.1)).flatten)) ((D1,ixs 0 kids.length)) (0,[],E) (by rw [hN];exact Prod.ext rfl hS) ⟨rfl,hE⟩ (Wk.weak (wkG [some _,some _,some _,some _,some _,some _,some 6] ⟨rfl,rfl,rfl,rfl,rfl,rfl,rfl,rfl,rfl,rfl,rfl,rfl,rfl,rfl,rfl,rfl,rfl,rfl,trivial⟩ ⟨wqE rfl rfl,wqE rfl rfl,wqE rfl rfl,wqE rfl rfl,wqE rfl rfl,wqE rfl rfl,wqE rfl pE,trivial⟩ (by decide) aD)) (fun z s B hz h0 hi he=> ?_) (fun z s x rest B z0 z1 z2 hx hy h0 hi hc e1 hB=> ?_)
 ·obtain⟨k,D,E1⟩:=s
  obtain⟨i1,i2⟩:=hi
  obtain⟨hs,hk⟩:=Prod.mk.inj h0
  dsimp only at i1 i2
  obtain rfl:D=D1:=by simpa [wy]using hs
  have hZ:D.length=kids.length:=by
   have:=congrArg List.length hk
   simpa [bX]using this
  have hQ:=hQ z E1 (by rw [i2,hZ,Nat.sub_self,List.replicate_zero,List.append_nil])
  cbv;rw [he];cbv
  exact hQ
 ·obtain⟨k,done,E1⟩:=s
  obtain⟨l,c⟩:=x
  obtain⟨i1,i2⟩:=hi
  obtain⟨hs,hk⟩:=Prod.mk.inj h0
  dsimp only at i1 i2 hy hs hk
  subst i1
  obtain⟨L,hL⟩:=nmE (vw ak l)
  have xg:vL[k.toNat]? =some [.view L]:=by rw [hL];exact hy
  have hF:=nA hk
  rw [bX]at hF
  have hn:=lM (l:=l) (ls:=rest.map (fun t:List Int×Int=>t.1)) hF.2.2
  have hd:l.length<=1048576:=Nat.le_trans hn.1 (Nat.le_trans (Nat.sub_le ..) hkl)
  have hA:=hU l (zqd (hu hx).1)
  have hM:=pmV i2
  have hV:done.length+l.length<=kids.length:=by have:=hn.1;omega
  have hp:=gN I l xb hd
  have hr:=j8 S1 l (by omega) hd (fun i hi=>by have:=hA i hi;omega)
  have hv:=nM (pck S1 l) (Nat.le_trans (tS S1 l) hd)
  have hh:(l.map (elZ ZZ)).length<=1048576:=by rw [zql];exact hd
  have hj:=nG (lit I l) (l.map (elZ ZZ)) G IN s0.justify (Nat.le_trans qD hd) hh
  obtain⟨PS,hw⟩:=nmE (Ft q I IN ZZ l)
  have ha:alg (lit I l) (l.map (elZ ZZ)) G IN s0.justify=PS:=by rw [hw];unfold Ft;rw [hT,xd]
  rw [ha]at hj
  have xc:PS.length<=1048576:=by
   rw [<-ha]
   exact Nat.le_trans (EO _ _ _ _ _) hh
  obtain⟨lb,hb⟩:=nmE (bas (pck S1 l))
  rw [<-hb]at hv
  obtain⟨LI,hP⟩:=nmE (vw ag.c (lit I l));(try rw [<-hP]at hp);(try rw [<-hP]at hj)
  obtain⟨PK,hR⟩:=nmE (vw ar.c (pck S1 l));(try rw [<-hR]at hr);(try rw [<-hR]at hv)
  rw [<-hvI,<-hL]at hp
  rw [<-hvS,<-hL]at hr
  obtain⟨W,hW⟩:=nmE (vw ak (l.map (elZ ZZ)))
  have xj:W.length=(l.map (elZ ZZ)).length:=by rw [hW,aq]
  have iW:=imV hW
  have kW:=kmV (k:=1) hW fun _=>rfl
  have dW:=dmV hW
  rw [<-hW]at hj
  obtain⟨vP,hm⟩:=nmE (vw ak PS)
  have xf:=lmV hm
  have hX:=imV hm
  have xh:=kmV (k:=1) hm fun _=>rfl
  have hY:=dmV hm
  rw [<-hm]at hj
  have xe:∀i∈l,0<=i/\i<(ZZ.length:Int):=fun i hi=>by have:=hA i hi;omega
  have ht:=ht k c lb z0 (hu hx).2 PS vP hm xc l L hL hd done (by simpa using hn.2.1) hV E1 i2
  have h3:∀D,D=done++rg q rtl IN AC' ZZ S1 (elZ ST k) c lb PS 0 l->(D++wy q rtl I IN AC' ZZ S1 ST (k+1) rest,ixs 0 D.length++(rest.map (·.1)).flatten)=(D1,ixs 0 kids.length):=fun D hD=>Prod.ext (by
   rw [<-hs,hD,hb,hw,zqC];rfl) (by
   show ixs 0 D.length++(rest.map (·.1)).flatten=ixs 0 kids.length
   rw [<-hk,hD,zqe,lO,jK,zqC]
   congr 1
   rw [zqA,List.flatten_cons]
   congr 1
   exact hn.2.1.symm)
  clear hF hn hV hk hS hJ hu hI hq hC hA hU ha hw hb hvI hvS hh
  cbv
  rw [hc]
  cbv
  refine goX hg _ z0 xg rfl ?_
  cbv
  refine li hg (lV (aJ f125) 3) (by kernel_rfl) [(4,.p 0),(6,.p 1),(7,.p 2),(8,.p 3),(9,.p 4),(11,.v vI),(12,.v vL),(13,.i (IN)),(14,.v vZ),(15,.v vS),(16,.v vC),(18,.i (AC')),(20,.v vT),(28,.p 5),(29,.o 6),(210,.v vL),(211,.i (g .ln vL)),(212,.i (k)),(30,.i (k)),(31,.v L),(32,.o 7),(217,.v L),(218,.i (g .ln L)),(219,.i (0))] [.bx 76 3 (mo V rtl),.bx 122 2 [.J w0,.J w1],.bx 122 2 [.J h0',.J h1'],.bx 127 4 [.J 0,.J 0,.J 0,.N],.bx 196 75 (plL n s0 ⟨w0,w1⟩ ⟨h0',h1'⟩ row iw ih al ac (.view K)),.bx 34 4 [.J fl,.J ft,.J fr,.J fb],.rw ⟨45,5,E1⟩,.rw ⟨3,1,[]⟩] (Wk.weak (wkG [some _,some _,some _,some _,some _,some _,some _,none] ⟨rfl,rfl,rfl,rfl,rfl,rfl,rfl,rfl,rfl,rfl,rfl,rfl,rfl,rfl,rfl,rfl,rfl,rfl,rfl,rfl,rfl,rfl,rfl,rfl,trivial⟩ ⟨wqE rfl rfl,wqE rfl rfl,wqE rfl rfl,wqE rfl rfl,wqE rfl rfl,wqE rfl rfl,wqE rfl hM,⟨_,rfl,rfl⟩,trivial⟩ (by decide) aD)) ?_
  refine Ch hg V rtl n s0 row iw ih al ac w0 w1 h0' h1' K IN AC' vI vL vZ vS vC vT fl ft fr fb k E1 hM ZZ hvZ l L hL hd xe fun z2 E2 xa=> ?_
  obtain rfl:W=E2:=by rw [xa,hW]
  cbv
  (repeat'((first|refine aa hg cG ?_|refine aa hg hp ?_|refine ad hg hr ?_|refine ad hg hv ?_|refine bO hg hj (ah (ao rfl) (ah (aZ (ab:=⟨_,_,W⟩) rfl kW dW) (ah (ao rfl) (ah (ao rfl) (ah (ao rfl) (av)))))) hX ?_);cbv))
  refine li hg (lV (aJ f125) 4) (by kernel_rfl) [(4,.p 0),(6,.p 1),(7,.p 2),(8,.p 3),(9,.p 4),(11,.v vI),(12,.v vL),(13,.i (IN)),(14,.v vZ),(15,.v vS),(16,.v vC),(18,.i (AC')),(20,.v vT),(28,.p 5),(29,.o 6),(210,.v vL),(211,.i (g .ln vL)),(212,.i (k)),(30,.i (k)),(31,.v L),(35,.v vP),(36,.i (lb)),(249,.v L),(250,.i (g .ln L)),(251,.i (0))] [.bx 76 3 (mo V rtl),.bx 122 2 [.J w0,.J w1],.bx 122 2 [.J h0',.J h1'],.bx 127 4 [.J 0,.J 0,.J 0,.N],.bx 196 75 (plL n s0 ⟨w0,w1⟩ ⟨h0',h1'⟩ row iw ih al ac (.view K)),.bx 34 4 [.J fl,.J ft,.J fr,.J fb],.rw ⟨45,5,E1⟩] (bH (sl1 8 vP) (jh rfl xh hY) (Wk.weak (wkG [some _,some _,some _,some _,some _,some _,some 6] ⟨rfl,rfl,rfl,rfl,rfl,rfl,rfl,rfl,rfl,rfl,rfl,rfl,rfl,rfl,rfl,rfl,rfl,rfl,rfl,rfl,rfl,rfl,rfl,rfl,rfl,trivial⟩ ⟨wqE rfl rfl,wqE rfl rfl,wqE rfl rfl,wqE rfl rfl,wqE rfl rfl,wqE rfl rfl,⟨_,_,rfl,rfl,rfl,rfl,.inl (bG hM)⟩,trivial⟩ (by decide) aD))) ?_
  refine ht _ fun z3 E3 D hD hO=> ?_
  have xi:=pmV hO
  cbv
  (repeat'(rw [e1];cbv))
  skip
  exact hB ((k+1,D,E3)) _ _ ⟨h3 D hD,⟨rfl,hO⟩⟩ (Wk.weak (wkG [some _,some _,some _,some _,some _,some _,some 6] ⟨rfl,rfl,rfl,rfl,rfl,rfl,rfl,rfl,rfl,rfl,rfl,rfl,rfl,rfl,rfl,rfl,rfl,rfl,trivial⟩ ⟨wqE rfl rfl,wqE rfl rfl,wqE rfl rfl,wqE rfl rfl,wqE rfl rfl,wqE rfl rfl,wqE rfl xi,trivial⟩ (by decide) aD))
theorem nX(cs:List Int)(gap inner ct:Int)(hl:cs.length<=64):dc prog 217 [.c (.view (vw ak cs)),ai gap,ai inner,ai ct] fun res hm=>res= .o 0/\hm=[⟨3,1,vw ak (pll cs gap inner ct)⟩]:=by
 have cT:=fV cs gap (by omega)
 have cA:=kQ cs gap inner (by omega)
 have cJ:=nV ct
 have cS:=bD (wrap64 (inner-crt cs gap))
 have cL:=m8 (sg (wrap64 (inner-crt cs gap))) (cs.length:Int) (u0 ct)
 have cB:=fun(h:(cs.length:Int)<=12)=>jW (sg (wrap64 (inner-crt cs gap))) (cs.length:Int) (u0 ct) (by omega) h
 have ha:=fun i(h0:0<=i)(h1:i<(cs.length:Int))=>C6 (sg (wrap64 (inner-crt cs gap))) (cs.length:Int) (u0 ct) h0 h1
 have hd:acr cs gap inner=true->(cs.length:Int)<=12:=fun h=>by simp only [acr,zqs,zqp]at h;exact h.2.1
 obtain⟨R,hR⟩:=nmE (pll cs gap inner ct)
 rw [<-hR]
 unfold pll at hR
 obtain⟨BW,hp⟩:=nmE (btw (sg (wrap64 (inner-crt cs gap))) (cs.length:Int) (u0 ct))
 rw [<-hp]at hR ha
 obtain⟨SC,hs⟩:=nmE (spc (sg (wrap64 (inner-crt cs gap))) (cs.length:Int) (u0 ct))
 rw [<-hs]at cB ha
 obtain⟨T,hT⟩:=nmE (crt cs gap);(try rw [<-hT]at cT);(try rw [<-hT]at cS);(try rw [<-hT]at cL);(try rw [<-hT]at cB);(try rw [<-hT]at hR)
 obtain⟨LD,hr⟩:=nmE (led (sg (wrap64 (inner-T))) (cs.length:Int) (u0 ct));(try rw [<-hr]at cL);(try rw [<-hr]at hR)
 obtain⟨fr,hj⟩:=nmE (sg (wrap64 (inner-T)));(try rw [<-hj]at cS);(try rw [<-hj]at cL);(try rw [<-hj]at cB)
 obtain⟨D,hD⟩:=nmE (wrap64 (inner-T));(try rw [<-hD]at cS)
 obtain⟨js,hk⟩:=nmE (u0 ct);(try rw [<-hk]at cJ);(try rw [<-hk]at cL);(try rw [<-hk]at cB)
 obtain⟨A,hA⟩:=nmE (acr cs gap inner);(try rw [<-hA]at cA);(try rw [<-hA]at hR);(try rw [<-hA]at hd)
 obtain⟨V,hV⟩:=nmE (vw ak cs)
 have hI:=lmV hV
 have iV:=imV hV
 have kV:=kmV (k:=1) hV fun _=>rfl
 have dV:=dmV hV
 have hf:aX V=(cs.length:Int):=by rw [hV,aQ]
 rw [<-hV]at cT cA
 rw [<-hV]
 have hG:0<=(cs.length:Int):=by omega
 obtain⟨n,hn⟩:=nmE ((cs.length:Int));(try rw [<-hn]at hf);(try rw [<-hn]at cL);(try rw [<-hn]at cB);(try rw [<-hn]at hd);(try rw [<-hn]at hG);(try rw [<-hn]at ha)
 have ht:∀i:Int,0<=i->i<n->(vw ak SC)[i.toNat]? =some [.J (if i+1<n then BW i else 0)]:=fun i i0 i1=>bf (ha i i0 i1)
 obtain⟨Y,hY⟩:=nmE (vw ak SC);(try rw [<-hY]at cB);(try rw [<-hY]at ht)
 clear ha hs hp
 refine ae (aJ f217) ay func217 fun g F hg hF=> ?_
 have t4:g .ln V=n:=by rw [bF hg,hf]
 have e0:g .w .sub .i64 inner T=D:=by rw [bZ hg,hD]
 cases hA2:A
 ·rw [hA2]at cA hR
  cbv
  (repeat'(refine ad hg cA ?_;cbv))
  obtain rfl:R=[]:=hR
  exact bR hF rfl rfl
 rw [hA2]at cA hR
 replace hR:R=plG BW gap 0 LD cs:=hR
 replace hd:=hd hA2
 replace cB:=cB hd
 cbv
 (repeat'((first|rw [e0]|rw [t4]|refine ad hg cA ?_|refine ad hg cJ ?_|refine ad hg cT ?_|refine ad hg cS ?_|refine ad hg cL ?_|refine ad hg cB ?_);cbv))
 refine aY hg ay (by kernel_rfl) V (fun x=>lc (ak x)) cs hV (by omega) (fun z(s:Int×List Int×LLA)=>[(0,.v V),(1,.i (gap)),(9,.o 0),(11,.i (s.1)),(12,.v Y),(13,.i (z))]) (fun z(s:Int×List Int×LLA)=>[.rw ⟨3,1,s.2.2⟩]) (fun z(s:Int×List Int×LLA)=>s.2.2=vw ak s.2.1/\(s.2.1.length:Int)=z) (fun(s:Int×List Int×LLA) rest=>(s.2.1++plG BW gap (s.2.1.length:Int) s.1 rest,(s.2.1.length:Int)+rest.length)) ((R,n)) (LD,[],[]) (by rw [hR,hn];simp) ⟨rfl,rfl⟩ (Wk.weak (wkG [some 0] zr6 ⟨wqE rfl rfl,trivial⟩ (by decide) aD)) (fun z s B hz h0 hi he=> ?_) (fun z s x rest B z0 z1 z2 hx hy h0 hi hc e1 hB=> ?_)
 ·obtain⟨a,hb,E⟩:=s
  obtain⟨i1,i2⟩:=hi
  dsimp only at i1 i2 h0
  have pE:=pmV i1
  obtain rfl:hb=R:=by simpa [plG]using congrArg Prod.fst h0
  rw [<-i1]at hF
  cbv;rw [he];cbv
  exact bR hF rfl pE
 ·obtain⟨a,hb,E⟩:=s
  obtain⟨i1,i2⟩:=hi
  dsimp only at i1 i2 h0
  have ho:hb++plG BW gap (hb.length:Int) a (x::rest)=R:=congrArg Prod.fst h0
  have hv:(hb.length:Int)+((rest.length+1:Nat):Int)=n:=congrArg Prod.snd h0
  clear h0
  have hE:E.length<=1048576:=by rw [i1,aq];omega
  have zn:z<n:=by rw [hf]at z1;exact z1
  have hu:=ht z z0 zn
  obtain⟨bw,hh⟩:∃b,b=if z+1<n then BW z else 0:=⟨_,rfl⟩
  rw [<-hh]at hu
  have nl:((hb++[a]).length:Int)=z+1:=by simp;omega
  have hw:(hb++[a])++plG BW gap ((hb++[a]).length:Int) (wrap64 (wrap64 (wrap64 (a+x)+gap)+bw)) rest=R:=by
   rw [<-ho,i2]
   cases rest with
   |nil=>simp [plG]
   |cons y rest=>
    simp only [zqx]at hv
    rw [hh,if_pos (by omega),nl]
    simp only [plG,zqC,List.singleton_append]
    rw [show wrap64 (wrap64 (wrap64 (a+x)+gap)+BW z)=wrap64 (a+wrap64 (wrap64 (x+gap)+BW z)) by simp only [mQ,sx];rw [show a+x+gap+BW z=a+(x+gap+BW z) by omega]]
  have hC:((hb++[a]).length:Int)+rest.length=n:=by rw [nl];omega
  have e2:g .w .add .i64 a x=wrap64 (a+x):=aN hg _ _
  have e3:g .w .add .i64 (wrap64 (a+x)) gap=wrap64 (wrap64 (a+x)+gap):=aN hg _ _
  have e4:g .w .add .i64 (wrap64 (wrap64 (a+x)+gap)) bw=wrap64 (wrap64 (wrap64 (a+x)+gap)+bw):=aN hg _ _
  have aE:E++[[.J a]]=vw ak (hb++[a]):=by rw [i1,bv];rfl
  obtain⟨E2,hq⟩:∃E2,E2=E++[[.J a]]:=⟨_,rfl⟩
  rw [<-hq]at aE
  have hH:=pmV aE
  clear ho hh
  generalize wrap64 (wrap64 (wrap64 (a+x)+gap)+bw)=Q1 at *
  generalize wrap64 (wrap64 (a+x)+gap)=Q2 at *
  generalize wrap64 (a+x)=Q3 at *
  cbv
  rw [hc]
  cbv
  (repeat'((first|rw [e1]|rw [e2]|rw [e3]|rw [e4]|refine goX hg _ (by omega) hy rfl ?_|refine goX hg _ (by omega) hu rfl ?_|refine dg hg rfl (by decide) hE ?_;cbv;rw [gd hg,<-hq]);cbv))
  exact hB ((Q1,hb++[a],E2)) _ _ ⟨Prod.ext hw hC,⟨aE,nl⟩⟩ (Wk.weak (wkG [some 2] zr6 ⟨wqE rfl hH,trivial⟩ (by decide) aD))
theorem nW(cs:List Int)(gap inner ct:Int)(hl:cs.length<=64):PC0 217 [.c (.view (vw ak cs)),ai gap,ai inner,ai ct] (.t (.c (.view (vw ak (pll cs gap inner ct))))):=wx (nX cs gap inner ct hl) fun _=>rfl
theorem wR(sp:Int->Int)(gap:Int):∀(cs:List Int)(i a:Int),(plG sp gap i a cs).length=cs.length
 | [],_,_=>rfl
 |c::r,i,a=>by simp only [plG,zqx,wR sp gap r]
theorem Ec(cs:List Int)(gap inner ct:Int):(pll cs gap inner ct).length<=cs.length:=by
 unfold pll
 split
 ·exact Nat.zero_le _
 ·rw [wR];exact Nat.le_refl _
variable {ns:List af}{n:Int}
theorem Dc{x:af}(h:ns[(n-1).toNat]? =some x):nod ns n=x:=by
 unfold nod;rw [h];rfl
theorem yp{x:af}(h:ns[(n-1).toNat]? =some x):flK ns n=gY (ix ns) (x.kids.filter (lY ns)):=by
 unfold flK oh;rw [h]
theorem vU(ns:List af)(hl:ns.length<=1048576)(n:Int)(x:af)(h1:isN ns n=true)(hx:ns[(n-1).toNat]? =some x)(hkl:x.kids.length<20)(hk:∀k∈x.kids,isN ns k=true)(hrl:x.table.rules.length<=1048576)(rtl:Bool)(b:Bv)(hbx:∀kid∈flK ns n,wt (vwA af.ac ns) rtl b kid):DH (vwA af.ac ns) rtl (FA b ns rtl) n:=by
 intro w0 w1 ha hb
 have b2:=bq h1
 have cP:=uc ns n x hl b2.1 (by have:=b2.2.1;omega) hx hkl hk rtl w0 w1 ha hb
 have xj:flK ns n=gY (ix ns) (x.kids.filter (lY ns)):=yp hx
 have ht:∀k∈flK ns n,isN ns k=true:=fun k h=>hk k (by rw [xj]at h;exact(List.mem_filter.1 ((vm _ _ _).1 h)).1)
 have hu:(flK ns n).length<20:=by rw [xj,nf];exact Nat.lt_of_le_of_lt (List.length_filter_le _ _) hkl
 rw [<-xj]at cP
 obtain⟨p,hp⟩:=nmE (plO ns n ⟨w0,w1⟩ ⟨ha,hb⟩)
 have hn:PC0 169 [.agg (mo (vwA af.ac ns) rtl),ai n,agP ⟨w0,w1⟩,agP ⟨ha,hb⟩] (.t (.agg (plL n p.s p.w p.h p.row p.wide p.high p.al p.ac (.view (vw ak p.kids))))):=by
  rw [hp]
  unfold plO
  rw [gU hx]
  exact cP
 clear cP
 have xO:kst ns n=x.style:=gU hx
 have yd:nod ns n=x:=Dc hx
 have ye:p.w=⟨w0,w1⟩/\p.h=⟨ha,hb⟩/\p.s=x.style/\p.wide=inW x.style ⟨w0,w1⟩/\p.kids=flK ns n:=by rw [hp];exact⟨rfl,rfl,gU hx,by show inW (kst ns n) _=_;rw [xO],rfl⟩
 obtain⟨e1,e2,e3,e4,e5⟩:=ye
 unfold CZ FA
 rw [yd,xO,<-hp,<-e1,<-e2,<-e3,<-e5]
 have yl:inW p.s p.w=p.wide:=by rw [e3,e1,e4]
 rw [yl]
 rw [<-e5]at ht hu hbx
 have cy:=bP ns n x b2.1 (by have:=b2.2.1;omega) hx (vwA af.ac ns) _ _ rfl rfl rfl
 obtain⟨s0,row,w,h,iw,ih,al,ac,kids⟩:=p
 dsimp only at *
 subst e1 e2
 have cl:=vG n s0 ⟨w0,w1⟩ ⟨ha,hb⟩ row iw ih al ac (vw ak kids)
 have ci:=o6 ns hl rtl b n ⟨s0,row,⟨w0,w1⟩,⟨ha,hb⟩,iw,ih,al,ac,kids⟩ (by dsimp only;omega) ht hbx
 have cs:=fun zs ym=>o5 ns hl rtl b n ⟨s0,row,⟨w0,w1⟩,⟨ha,hb⟩,iw,ih,al,ac,kids⟩ zs (by dsimp only;omega) ym ht hbx
 obtain⟨V,hV⟩:=nmE (vwA af.ac ns)
 rw [<-hV]at cy hn ci⊢
 simp only [<-hV]at cs
 obtain⟨Kx,xL⟩:=nmE (vw ak x.kids)
 obtain⟨Rx,xq⟩:=nmE (vw aO.c x.table.rules)
 rw [<-xL,<-xq]at cy
 obtain⟨im,iN⟩:=iw
 have cR:=nF im iN
 have cW:=qL x.table.rules (ko ⟨im,iN⟩) hrl
 rw [<-xq]at cW
 have yc:∀q:ju,ju.ac q=[.J q.wide,.J q.high,.J q.base,.view (vw aM.c q.frames)]:=fun q=>rfl
 obtain⟨x0,x1,x2,x3,x4⟩:=x
 dsimp only at *
 by_cases hB:x3=true
 ·rw [if_pos hB]
  subst hB
  obtain⟨RO,xp⟩:=nmE (ko ⟨im,iN⟩);(try rw [<-xp]at cR);(try rw [<-xp]at cW);(try rw [<-xp]at⊢)
  obtain⟨⟨q0,q1⟩,hq⟩:∃q,q=wnt x4.rules RO:=⟨_,rfl⟩
  rw [<-hq]at cW⊢
  have cl:=cl q0 q1
  obtain⟨LF,hG⟩:=nmE (zc s0 ⟨w0,w1⟩ ⟨ha,hb⟩ (q0,q1));(try rw [<-hG]at cl);(try rw [<-hG]at⊢)
  have hf:aC (vw aM.c LF.frames)=true:=aF _ _
  obtain⟨FR,hr⟩:=nmE (vw aM.c LF.frames);(try rw [<-hr]at cl);(try rw [<-hr]at hf);(try rw [<-hr]at⊢)
  obtain⟨K,hK⟩:=nmE (vw ak kids)
  have xl:=lmV hK
  have iK:=imV hK
  have kK:=kmV (k:=1) hK fun _=>rfl
  have dK:=dmV hK
  rw [<-hK]at hn cl
  clear ci cs hp hbx ht
  refine ae (aJ f125) ay func125 fun g F hg hF=> ?_
  cbv
  (repeat'((first|refine ad hg hn ?_|refine ad hg cy ?_|refine aa hg cR ?_|refine aa hg cW ?_|refine yB hg cl (py rfl) hf ?_);cbv))
  exact uK hF rfl hf
 ·rw [if_neg hB]
  replace hB:x3=false:=by simpa using hB
  subst hB
  by_cases hkn:kids=[]
  ·rw [if_pos hkn]
   have cl:=cl 0 0
   obtain⟨LF,hG⟩:=nmE (zc s0 ⟨w0,w1⟩ ⟨ha,hb⟩ (0,0));(try rw [<-hG]at cl);(try rw [<-hG]at⊢)
   have hf:aC (vw aM.c LF.frames)=true:=aF _ _
   obtain⟨FR,hr⟩:=nmE (vw aM.c LF.frames);(try rw [<-hr]at cl);(try rw [<-hr]at hf);(try rw [<-hr]at⊢)
   clear ci cs hp hbx ht
   subst hkn
   refine ae (aJ f125) ay func125 fun g F hg hF=> ?_
   have t0:g .ln ([]:LLA)=0:=by rw [bF hg];rfl
   have t1:g .q .eql (0:Int) 0=true:=by rw [bj hg];rfl
   cbv
   (repeat'((first|rw [t0]|rw [t1]|refine ad hg hn ?_|refine ad hg cy ?_|refine uT hg cl rfl hf ?_);cbv))
   exact uK hF rfl hf
  ·rw [if_neg hkn]
   clear cW cR cl xq xL
   obtain⟨q,hq⟩:∃q:Pl,q=⟨s0,row,⟨w0,w1⟩,⟨ha,hb⟩,⟨im,iN⟩,ih,al,ac,kids⟩:=⟨_,rfl⟩
   rw [<-hq]at ci cs⊢
   have yf:q.kids=kids:=by rw [hq]
   unfold GI
   rw [yf]
   have ci:=wx ci (fun _=>rfl)
   have hh:=Cj b q rtl ns kids
   obtain⟨I,hI⟩:=nmE (Ck b q rtl ns kids)
   rw [<-hI]at ci hh⊢
   have xJ:I.length<=1048576:=by rw [hh];exact Nat.le_of_lt (Nat.lt_trans hu (by decide))
   have cN:=nw n s0 ⟨w0,w1⟩ ⟨ha,hb⟩ row ⟨im,iN⟩ ih al ac (vw ak kids) I xJ
   have h3:=th q I
   have cs:=cs (rj q I) (by rw [h3,hh])
   obtain⟨S0,xM⟩:=nmE (C7 b q rtl ns (kids.zip (rj q I)))
   have hM:S0.length=kids.length:=by rw [xM,BU,zqB,h3,hh];exact Nat.min_self _
   rw [<-xM]at cs⊢
   change PC0 _ _ (.tup [.c (.view (vwA lnA (lns I (jd s0 row) (ko al) (!decide (s0.wrap=1))))),ai (tak al (lng I (jd s0 row) (ko al) (!decide (s0.wrap=1)))),.c (.view (vw ak (lsz I (jd s0 row) (ko al) (!decide (s0.wrap=1)) (tak al (lng I (jd s0 row) (ko al) (!decide (s0.wrap=1)))))))])at cN
   have hQ:mL q I=lns I (jd s0 row) (ko al) (!decide (s0.wrap=1)):=by rw [hq];rfl
   have xP:BC q I=tak al (lng I (jd s0 row) (ko al) (!decide (s0.wrap=1))):=by rw [hq];rfl
   have xQ:rj q I=lsz I (jd s0 row) (ko al) (!decide (s0.wrap=1)) (tak al (lng I (jd s0 row) (ko al) (!decide (s0.wrap=1)))):=by rw [hq];rfl
   rw [<-xQ,<-xP,<-hQ]at cN
   have hA:(mL q I).flatten=ixs 0 kids.length:=by rw [hQ,lK,hh]
   have hP:(mL q I).length<=64:=by rw [hQ];exact Nat.le_trans (mK ..) (by omega)
   have xx:∀l∈mL q I,l.length<=1048576/\∀i∈l,0<=i/\i<(S0.length:Int):=fun l hm=>by
    rw [hQ]at hm
    exact⟨Nat.le_trans (jI hm) xJ,fun i hi=>by have:=tY hm hi;omega⟩
   have cC:=oe n s0 ⟨w0,w1⟩ ⟨ha,hb⟩ row ⟨im,iN⟩ ih al ac (vw ak kids) (mL q I) S0 (by omega) hP xx
   have xR:xk q (mL q I) S0=CL s0 row ac (mL q I) S0:=by rw [hq];rfl
   rw [<-xR]at cC
   have ho:(xk q (mL q I) S0).length=(mL q I).length:=uQ q _ _ hP
   unfold GJ
   dsimp only
   obtain⟨LL,ya⟩:=nmE (mL q I)
   obtain⟨ZZ,yb⟩:=nmE (rj q I)
   obtain⟨IN,xK⟩:=nmE (BC q I)
   rw [<-ya]at hA hP xx cC ho cN⊢
   rw [<-yb]at h3 cs cN⊢
   rw [<-xK]at cN⊢
   obtain⟨CC,x7⟩:=nmE (xk q LL S0)
   rw [<-x7]at ho cC⊢
   clear hQ xP xQ xR
   have cG:=iJ s0 (!row)
   have xS:sX q=jd s0 (!row):=by rw [hq];rfl
   have cT:=fZ CC (sX q) (by rw [ho];omega)
   obtain⟨am,an⟩:=ac
   have cK:=fH am an (crt CC (sX q))
   have xT:yI q CC=tak ⟨am,an⟩ (crt CC (sX q)):=by rw [hq];rfl
   rw [<-xT]at cK
   have cL:=ol CC (sX q) (yI q CC) (ctP q) (by omega)
   have xy:ctP q=if s0.wrap=1 then 2 else s0.content:=by rw [hq];rfl
   rw [<-xS]at cG
   have xz:EV q CC=pll CC (sX q) (yI q CC) (ctP q):=rfl
   rw [<-xz]at cL
   obtain⟨GC,xI⟩:=nmE (sX q)
   obtain⟨hd,xF⟩:=nmE (yI q CC)
   obtain⟨ST,xt⟩:=nmE (EV q CC)
   rw [<-xI]at cG cT cK cL
   rw [<-xF]at cK cL⊢
   rw [<-xt]at cL⊢
   have xu:ST.length<=1048576:=by rw [xt,xz];exact Nat.le_trans (Ec ..) (by omega)
   clear xS xT xz
   obtain⟨TT,xN⟩:=nmE (crt CC GC)
   rw [<-xN]at cT cK
   have cB:=eJ am an
   obtain⟨KB,xi⟩:=nmE (knS ⟨am,an⟩)
   rw [<-xi]at cB
   obtain⟨K,hK⟩:=nmE (vw ak kids)
   have xl:=lmV hK
   have iK:=imV hK
   have kK:=kmV (k:=1) hK fun _=>rfl
   have dK:=dmV hK
   rw [<-hK]at hn ci cN cs cC
   obtain⟨vI,xA⟩:=nmE (vw ag.c I);(try rw [<-xA]at ci);(try rw [<-xA]at cN)
   obtain⟨vZ,hz⟩:=nmE (vw ak ZZ)
   have yk:=lmV hz
   have yy:=imV hz
   have yA:=kmV (k:=1) hz fun _=>rfl
   have yt:=dmV hz
   rw [<-hz]at cN cs
   obtain⟨vS,hy⟩:=nmE (vw ar.c S0)
   have yi:=lmV hy
   have yn:=imV hy
   have x5:=kmV (k:=7) hy fun _=>rfl
   have xE:=dmV hy
   rw [<-hy]at cs cC
   obtain⟨vC,hw⟩:=nmE (vw ak CC)
   have yg:=lmV hw
   have xY:=imV hw
   have hT:=kmV (k:=1) hw fun _=>rfl
   have hD:=dmV hw
   rw [<-hw]at cC cT cL
   obtain⟨vL,h2⟩:=nmE (vwA lnA LL);(try rw [<-h2]at cN);(try rw [<-h2]at cC)
   obtain⟨vT,hC⟩:=nmE (vw ak ST)
   have yj:=lmV hC
   have xZ:=imV hC
   have yq:=kmV (k:=1) hC fun _=>rfl
   have x6:=dmV hC
   rw [<-hC]at cL
   have hs:kids.length<=1048576:=Nat.le_of_lt (Nat.lt_trans hu (by decide))
   have xw:ZZ.length=kids.length:=by rw [h3,hh]
   have hH:LL.length<=1048576:=Nat.le_trans hP (by decide)
   have hJ:=fun(g:Gd)(hg:g= @G0 bp0 prog 0 f125.ntmps)(Q':Exit->List (Nat×AV)->EH->Prop) hQ'=>AI hg (Q:=Q') ns hl V hV rtl n s0 row ⟨im,iN⟩ ih al ⟨am,an⟩ w0 w1 ha hb kids K hK hs ht IN hd KB xi vI vL vZ vC vT ZZ CC hz hw S0 xw hM LL h2 hH ho hA hQ'
   rw [<-hq,<-hy]at hJ
   obtain⟨S1,xs⟩:=nmE (Ba q ns S0 ZZ (LL.zip CC))
   have hN:S1.length=kids.length:=by rw [xs,yu,fu ho,hA,bX]
   rw [<-xs]at hJ⊢
   have h6:=eU s0
   obtain⟨fe,h0⟩:=nmE (lw s0)
   rw [<-h0]at h6
   have hR:q.s=s0:=by rw [hq]
   have xW:q.w=⟨w0,w1⟩:=by rw [hq]
   have xU:q.h=⟨ha,hb⟩:=by rw [hq]
   have xV:q.row=row:=by rw [hq]
   obtain⟨fl,ft,fr,fb⟩:=fe
   have hX:=ec fl ft fr fb
   have hW:=ei fl ft fr fb
   obtain⟨hU,hc⟩:=nmE (vw ar.c S1)
   have xX:=lmV hc
   have yo:=imV hc
   have xC:=kmV (k:=7) hc fun _=>rfl
   have h9:=dmV hc
   have hL:=fun(g:Gd)(hg:g= @G0 bp0 prog 0 f125.ntmps)(Q':Exit->List (Nat×AV)->EH->Prop) E hE hQ'=>AG hg (Q:=Q') V rtl n s0 row ⟨im,iN⟩ ih al ⟨am,an⟩ w0 w1 ha hb K IN hd vI vL vZ hU vC vT fl ft fr fb kids hK hs I xA hh ZZ CC ST S1 hz hw hC hc xu xw hN h0.symm LL h2 hH ho hA E hE hQ'
   rw [<-hq]at hL
   obtain⟨FF,xg⟩:=nmE (wy q rtl I IN hd ZZ S1 ST 0 (LL.zip CC))
   have xH:FF.length=kids.length:=by rw [xg,uH,fu ho,hA,bX]
   rw [<-xg]at hL⊢
   have yw:0<kids.length:=List.length_pos_iff.2 hkn
   obtain⟨f0,FT,xd⟩:∃f t,FF=f::t:=by
    cases FF with
    |nil=>simp at xH;omega
    |cons a b=>exact⟨_,_,rfl⟩
   obtain⟨h4,hv⟩:∃y,S1[(0:Int).toNat]? =some y:=⟨_,zqc (by show 0<S1.length;omega)⟩
   have hS:sdZ S1 0=h4:=vt (Int.le_refl 0) hv
   obtain⟨vF,he⟩:=nmE (vw aM.c FF)
   have yh:=lmV he
   have yx:=imV he
   have yz:=kmV (k:=5) he fun _=>rfl
   have ys:=dmV he
   have pF:=pmV he
   have xf:vF[(0:Int).toNat]? =some (lc (aM.c f0)):=by rw [he,xd];rfl
   have xe:(0:Int)<aX vF:=by rw [he,aQ];omega
   have xr:hU[(0:Int).toNat]? =some (lc (ar.c h4)):=by rw [hc];exact bf hv
   obtain⟨A1,xa⟩:=nmE (adE fl fr)
   obtain⟨A2,xb⟩:=nmE (adE ft fb)
   change PC0 _ _ (.i (adE fl fr))at hX
   change PC0 _ _ (.i (adE ft fb))at hW
   rw [<-xa]at hX
   rw [<-xb]at hW
   obtain⟨XW,hZ⟩:=nmE ((if row then IN else hd))
   obtain⟨XH,hY⟩:=nmE ((if row then hd else IN))
   obtain⟨W1,xv⟩:=nmE (wrap64 (XW+A1))
   obtain⟨H1,xh⟩:=nmE (wrap64 (XH+A2))
   obtain⟨BB,xc⟩:=nmE (wrap64 (f0.y+h4.base))
   have h7:=fH w0 w1 W1
   have h8:=fH ha hb H1
   have h5:=aK BB
   obtain⟨R1,xm⟩:=nmE (tak ⟨w0,w1⟩ W1);(try rw [<-xm]at h7)
   obtain⟨R2,xn⟩:=nmE (tak ⟨ha,hb⟩ H1);(try rw [<-xn]at h8)
   obtain⟨R3,xo⟩:=nmE (cl BB);(try rw [<-xo]at h5)
   have hO:(DF q IN hd FF S1).wide=R1/\(DF q IN hd FF S1).high=R2/\(DF q IN hd FF S1).base=R3/\(DF q IN hd FF S1).frames=FF:=by
    rw [xm,xn,xo,xv,xh,xc,hZ,hY,xa,xb]
    unfold DF
    rw [hR,xW,xU,xV,<-h0,hS,xd]
    exact⟨rfl,rfl,rfl,rfl⟩
   rw [hO.1,hO.2.1,hO.2.2.1,hO.2.2.2,<-he]
   have t1:∀g:Gd,g=G0 prog 0 f125.ntmps->g .w .add .i64 XW A1=W1:=fun g hg=>by rw [aN hg,xv]
   have t2:∀g:Gd,g=G0 prog 0 f125.ntmps->g .w .add .i64 XH A2=H1:=fun g hg=>by rw [aN hg,xh]
   have t3:∀g:Gd,g=G0 prog 0 f125.ntmps->g .w .add .i64 f0.y h4.base=BB:=fun g hg=>by rw [aN hg,xc]
   have xD:∀g:Gd,g=G0 prog 0 f125.ntmps->g .rp (g .ln K) [.J 0,.J 0,.J 0,.J 0,.J 0]=vw aM.c (List.replicate kids.length ⟨0,0,0,0,0⟩):=fun g hg=>by
    rw [zf hg,bF hg,hK,aQ,Int.toNat_natCast];exact pI aM.c kids.length ⟨0,0,0,0,0⟩
   have xl:K.length<=1048576:=by rw [hK,aq];exact hs
   have pS:=pmV hy
   have t0:∀g:Gd,g=G0 prog 0 f125.ntmps->g .q .eql s0.wrap 1=decide (s0.wrap=1):=fun g hg=>by rw [bj hg];exact zqn _ _
   have xB:∀g:Gd,g=G0 prog 0 f125.ntmps->g .q .eql (g .ln K) 0=false:=fun g hg=>by
    rw [bj hg,bF hg,hK,aQ]
    have:kids.length≠0:=fun h=>hkn (zqv h)
    exact beq_eq_false_iff_ne.2 (by omega)
   clear hO xm xn xo xv xh xc xa xb h0 hR xW xU xV hS xd xH xg xs hv hN hM hh xw hP xx hA ho xN xi xI xF xt xK hq hp hbx ht
   refine ae (aJ f125) ay func125 fun g F hg hF=> ?_
   have t0:=t0 g hg
   have xB:=xB g hg
   have t1:=t1 g hg
   have t2:=t2 g hg
   have t3:=t3 g hg
   have xD:=xD g hg
   have hJ:=hJ g hg
   have hL:=hL g hg
   cbv
   (repeat'((first|rw [xB]|refine ad hg hn ?_|refine ad hg cy ?_|refine ad hg ci ?_|refine ad hg cN ?_|refine bE hg cs (bp rfl) yn ?_|refine bE hg cC (bB rfl (ah (ao rfl) (ah (aZ (ab:=⟨_,_,vS⟩) rfl x5 xE) (av)))) xY ?_|refine dL hg cT (ah (aZ (ab:=⟨_,_,vC⟩) rfl hT hD) (ah (ao rfl) (av))) rfl ?_|refine ad hg cG ?_|refine aa hg cK ?_);cbv))
   by_cases hw1:s0.wrap=1
   all_goals
    first|rw [if_pos hw1]at xy|rw [if_neg hw1]at xy
    rw [xy]at cL
    first|rw [zqu hw1]at t0|rw [zqt hw1]at t0
    (repeat'((first|rw [t0]|refine bE hg cL (ah (aZ (ab:=⟨_,_,vC⟩) rfl hT hD) (ah (ao rfl) (ah (ao rfl) (ah (ao rfl) (av))))) xZ ?_|refine ad hg cB ?_);cbv))
    refine li hg (lV (aJ f125) 0) (by kernel_rfl) [(4,.p 0),(6,.p 1),(7,.p 2),(8,.p 3),(9,.p 4),(11,.v vI),(12,.v vL),(13,.i (IN)),(14,.v vZ),(15,.o 5),(16,.v vC),(18,.i (hd)),(20,.v vT),(21,.i (KB)),(116,.v vL),(117,.i (g .ln vL)),(118,.i (0))] [.bx 76 3 (mo V rtl),.bx 122 2 [.J w0,.J w1],.bx 122 2 [.J ha,.J hb],.bx 127 4 [.J 0,.J 0,.J 0,.N],.bx 196 75 (plL n s0 ⟨w0,w1⟩ ⟨ha,hb⟩ row ⟨im,iN⟩ ih al ⟨am,an⟩ (.view K)),.rw ⟨210,7,vS⟩] (bH (sl2 7 8 vC vT) (D4 rfl hT hD rfl yq x6) (Wk.weak (wkG [some _,some _,some _,some _,some _,some 6] ⟨rfl,rfl,rfl,rfl,rfl,rfl,rfl,rfl,rfl,rfl,rfl,rfl,rfl,rfl,rfl,rfl,rfl,trivial⟩ ⟨wqE rfl rfl,wqE rfl rfl,wqE rfl rfl,wqE rfl rfl,wqE rfl rfl,⟨_,_,rfl,rfl,rfl,rfl,.inl (bG pS)⟩,trivial⟩ (by decide) aD))) ?_
    refine hJ _ fun z1 E1 x8=> ?_
    obtain rfl:hU=E1:=by rw [x8,hc]
    cbv
    ((repeat'(refine ad hg h6 ?_;cbv)))
    refine Ep hg (by decide) xl ?_
    cbv
    generalize hE0:g .rp (g .ln K) _=E3
    have xG:E3=vw aM.c (List.replicate kids.length ⟨0,0,0,0,0⟩):=by rw [<-hE0];exact xD
    clear hE0
    have yr:=pmV xG
    refine li hg (lV (aJ f125) 2) (by kernel_rfl) [(4,.p 0),(6,.p 1),(7,.p 2),(8,.p 3),(9,.p 4),(11,.v vI),(12,.v vL),(13,.i (IN)),(14,.v vZ),(15,.v hU),(16,.v vC),(18,.i (hd)),(20,.v vT),(28,.p 5),(29,.o 6),(210,.v vL),(211,.i (g .ln vL)),(212,.i (0))] [.bx 76 3 (mo V rtl),.bx 122 2 [.J w0,.J w1],.bx 122 2 [.J ha,.J hb],.bx 127 4 [.J 0,.J 0,.J 0,.N],.bx 196 75 (plL n s0 ⟨w0,w1⟩ ⟨ha,hb⟩ row ⟨im,iN⟩ ih al ⟨am,an⟩ (.view K)),.bx 34 4 [.J fl,.J ft,.J fr,.J fb],.rw ⟨45,5,E3⟩] (bH (sl1 5 hU) (jh rfl xC h9) (Wk.weak (wkG [some _,some _,some _,some _,some _,some 6,some 7] ⟨rfl,rfl,rfl,rfl,rfl,rfl,rfl,rfl,rfl,rfl,rfl,rfl,rfl,rfl,rfl,rfl,rfl,rfl,trivial⟩ ⟨wqE rfl rfl,wqE rfl rfl,wqE rfl rfl,wqE rfl rfl,wqE rfl rfl,wqE rfl rfl,⟨_,_,rfl,rfl,rfl,rfl,.inl (bG yr)⟩,trivial⟩ (by decide) aD))) ?_
    refine hL _ E3 xG fun z2 E2 x9=> ?_
    obtain rfl:vF=E2:=by rw [x9,he]
    cbv
    cases row
    all_goals
     (try simp only [Bool.false_eq_true,if_false]at hZ hY)
     (try simp only [if_true]at hZ hY)
     subst hZ hY
     (try cbv)
     ((repeat'((first|rw [t1]|rw [t2]|rw [t3]|refine aa hg hX ?_|refine aa hg hW ?_|refine aa hg h7 ?_|refine aa hg h8 ?_|refine aa hg h5 ?_|refine goX hg _ (Int.le_refl 0) xr rfl ?_|refine goY hg (Int.le_refl 0) xe fun j hj yv=> ?_;subst hj|refine⟨_,xf,?_⟩);cbv)))
     exact uK hF rfl pF
theorem yx{ns:List af}:∀(f:Nat)(k n:Int),0<=k->0<s7 ns f (k+1) n->s7 ns (f+1) k n=s7 ns f (k+1) n-1
 |0,k,n,h0,h=>by
  by_cases hn:n=0
  ·subst hn;rw [lQ,lQ];omega
  ·rw [xj ns hn]at h;omega
 |f+1,k,n,h0,h=>by
  by_cases hn:n=0
  ·subst hn;rw [lQ,lQ];omega
  ·by_cases hi:isN ns n=true
   ·rw [jV ns hn hi]at h
    rw [jV ns hn hi,jV ns hn hi]
    exact yx f (k+1) (upN ns n) (by omega) h
   ·rw [uO ns (f+1) (k+1) n hn (by simpa using hi)]at h;omega
theorem mU(h:eo ns=true)(hn:isN ns n=true):1<=uP ns n/\uP ns n<=4:=by
 obtain⟨n1,n2,x,hx⟩:=bq hn
 simp only [eo,zqs]at h
 have:=(jP ns ns 0).1 h.2 _ x hx
 simp only [fG,zqs,rng,zqp]at this
 have h2:=this.2.1
 rw [show(0:Int)+(((n-1).toNat:Nat):Int)+1=n by omega]at h2
 exact h2
theorem DP(h:eo ns=true){x:af}(h1:1<=n)(hx:ns[(n-1).toNat]? =some x):∀k∈x.kids,upN ns k=n:=fun k ha=>by
 simp only [eo,zqs]at h
 have:=(jP ns ns 0).1 h.2 _ x hx
 simp only [fG,zqs,zqf,gM,zqp]at this
 have:=(this.2.2.2.1 k ha).2
 omega
theorem AJ(h:eo ns=true){x:af}(h1:1<=n)(hx:ns[(n-1).toNat]? =some x):∀k∈x.kids,uP ns k=uP ns n+1:=fun k ha=>by
 have hk:=io h h1 hx k ha
 obtain⟨k1,k2,y,hy⟩:=bq hk
 have hu:=DP h h1 hx k ha
 have hd:=mU h hk
 obtain⟨L,hL⟩:∃L,ns.length=L+1:=⟨ns.length-1,by omega⟩
 unfold uP at hd⊢
 rw [hL]at hd⊢
 rw [jV ns (by omega) hk,hu]at hd⊢
 have:=yx (ns:=ns) L 0 n (Int.le_refl 0) (by omega)
 rw [this];omega
theorem uJ{x:af}(hx:ns[(n-1).toNat]? =some x):∀k∈flK ns n,k∈x.kids:=fun k hk=>by
 rw [yp hx,vm]at hk
 exact(List.mem_filter.1 hk).1
theorem ny{ns:List af}(hl:ns.length<=1048576)(hs:∀y∈ns,af.small y)(ht:eo ns=true)(rtl:Bool):∀(f:Nat)(n:Int),isN ns n=true->5<=uP ns n+(f:Int)->EU (vwA af.ac ns) rtl (zx ns rtl f) n
 |0,n,hn,hd=>by have:=mU ht hn;omega
 |f+1,n,hn,hd=>by
  obtain⟨n1,n2,x,hx⟩:=bq hn
  have hc:=wI ht n1 hx
  have hb:=io ht n1 hx
  refine wZ _ rtl _ n (vU ns hl n x hn hx (by omega) hb ?_ rtl (zx ns rtl f) fun ha hk=> ?_)
  ·have:=hs x (zqd hx)
   exact this.2.1
  ·have hm:=uJ hx ha hk
   have:=AJ ht n1 hx ha hm
   exact qH _ rtl _ ha (ny hl hs ht rtl f ha (hb ha hm) (by omega))
theorem ud(hl:ns.length<=1048576)(hs:∀y∈ns,af.small y)(ht:eo ns=true)(rtl:Bool)(f:Nat)(n:Int)(hn:isN ns n=true)(hd:5<=uP ns n+(f:Int)):wt (vwA af.ac ns) rtl (zx ns rtl f) n:=
 qH _ rtl _ n (ny hl hs ht rtl f n hn hd)
def atF(s:aj)(a b:Int)(rtl:Bool)(base mb all size e0 e1 f0 f1:Int)(turned:Bool):Int:=
 if ww s a rtl base then wrap64 (wrap64 (e0+wv s a rtl base)+i9 s.margin a rtl mb)
 else if ww s b rtl base then wrap64 (wrap64 (wrap64 (wrap64 (all-e1)-wv s b rtl base)-i9 s.margin b rtl mb)-size)
 else if turned then wrap64 (wrap64 (wrap64 (all-f1)-i9 s.margin b rtl mb)-size)
 else wrap64 (f0+i9 s.margin a rtl mb)
def apF (p s : aj) (rtl : Bool) (wide high kid : Int) (b : ju) : aM :=
  ⟨kid, atF s 0 2 rtl (tU p wide) (tU p wide) wide (ly s true (tU p wide) b.wide) p.border.left p.border.right (lw p).left (lw p).right rtl,
   atF s 1 3 rtl (vK p high) (tU p wide) high (ly s false (vK p high) b.high) p.border.top p.border.bottom (lw p).top (lw p).bottom false,
   ly s true (tU p wide) b.wide, ly s false (vK p high) b.high⟩
def apG(b:Bv)(ns:List af)(rtl:Bool)(n kid w h:Int):aM:=apF (kst ns n) (kst ns kid) rtl w h kid (b kid (apX (kst ns kid) rtl (tU (kst ns n) w) (vK (kst ns n) h)) (apY (kst ns kid) rtl (tU (kst ns n) w) (vK (kst ns n) h)))
section
variable {P:Program}{n0 N:Nat}{g:Gd}
end
def afO(ns:List af)(n kid w h:Int)(rtl:Bool):aM:=if xu ns n kid w h=false then⟨0,0,0,0,0⟩else apG (zx ns rtl 4) ns rtl n kid w h
end Go.Proofs.YtckchgoblpgpbaaGreat
