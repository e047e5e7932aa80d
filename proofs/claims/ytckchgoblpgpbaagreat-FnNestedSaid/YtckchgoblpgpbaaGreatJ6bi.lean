/- Draws: the cursor over the bytes of a draw, and numbers drawn from it. -/
import Derived.Test.YtckchgoblpgpbaaGreatJ6bh
set_option linter.unusedVariables false
set_option linter.unusedSimpArgs false
set_option maxHeartbeats 16000000
namespace Go.Proofs.YtckchgoblpgpbaaGreat
open Go.ChangeShapes Go.WideShapes Go.ChangeAt Go.RowKit Am Go.Proofs.Tryz
set_option maxRecDepth 100000
theorem wI{g:Gd}(hg:g= @G0 bp0 prog 0 f125.ntmps){Q:Exit->List (Nat×AV)->EH->Prop}(V:LLA)(rtl:Bool)(n:Int)(s0:ah)(row:Bool)(iw ih al ac:aG)(w0 w1 h0' h1':Int)(K:LLA)(IN AC':Int)(vI vL vZ vS vC vT:LLA)(fl ft fr fb:Int)(kids:List Int)(hK:K=vw ak kids)(hkl:kids.length<=1048576)(I:List aj)(hvI:vI=vw aj.c I)(hIl:I.length=kids.length)(ZZ CC ST:List Int)(S1:List av)(hvZ:vZ=vw ak ZZ)(hvC:vC=vw ak CC)(hvT:vT=vw ak ST)(hvS:vS=vw av.c S1)(hTl:ST.length<=1048576)
  (hzl:ZZ.length=kids.length) (hsl:S1.length=kids.length) (hf:kz s0=⟨fl,ft,fr,fb⟩) (LL:List (List Int)) (hH:vL=vwA lnA LL) (hLl:LL.length<=1048576) (hcl:CC.length=LL.length) (hfl:LL.flatten=ixs 0 kids.length)
  (E:LLA) (hE:E=vw ag.c (List.replicate kids.length ⟨0,0,0,0,0⟩))
  (hQ:∀(z:Int)(E:LLA),E=vw ag.c (wQ ⟨s0,row,⟨w0,w1⟩,⟨h0',h1'⟩,iw,ih,al,ac,kids⟩ rtl I IN AC' ZZ S1 ST 0 (LL.zip CC))->Q (.exit 4) [(213,.t (abl (false))),(4,.p 0),(6,.p 1),(7,.p 2),(8,.p 3),(9,.p 4),(11,.v vI),(12,.v vL),(13,.i (IN)),(14,.v vZ),(15,.v vS),(16,.v vC),(18,.i (AC')),(20,.v vT),(28,.p 5),(29,.o 6),(210,.v vL),(211,.i (g .ln vL)),(212,.i (z))] [.bx 76 3 (gz V rtl),.bx 122 2 [.J w0,.J w1],.bx 122 2 [.J h0',.J h1'],.bx 127 4 [.J 0,.J 0,.J 0,.N],.bx 196 75 (plL n s0 ⟨w0,w1⟩ ⟨h0',h1'⟩ row iw ih al ac (.view K)),.bx 34 4 [.J fl,.J ft,.J fr,.J fb],.rw ⟨45,5,E⟩]):
  g .L (n5 (aM f125) 2) Q [(4,.p 0),(6,.p 1),(7,.p 2),(8,.p 3),(9,.p 4),(11,.v vI),(12,.v vL),(13,.i (IN)),(14,.v vZ),(15,.v vS),(16,.v vC),(18,.i (AC')),(20,.v vT),(28,.p 5),(29,.o 6),(210,.v vL),(211,.i (g .ln vL)),(212,.i (0))] [.bx 76 3 (gz V rtl),.bx 122 2 [.J w0,.J w1],.bx 122 2 [.J h0',.J h1'],.bx 127 4 [.J 0,.J 0,.J 0,.N],.bx 196 75 (plL n s0 ⟨w0,w1⟩ ⟨h0',h1'⟩ row iw ih al ac (.view K)),.bx 34 4 [.J fl,.J ft,.J fr,.J fb],.rw ⟨45,5,E⟩]:=by
 have hI:vL=(LL.zip CC).map (fun t=>lnA t.1):=by rw [hH];exact pd hcl
 have hJ:(LL.zip CC).map (·.1)=LL:=eA hcl
 have ho:(LL.zip CC).length<=1048576:=by rw [zqB];exact Nat.le_trans (Nat.min_le_left ..) hLl
 have hu:=fun{i t} h=>vf (a:=LL) (b:=CC) (i:=i) (t:=t) h
 have hU:∀l∈LL,∀i∈l,0<=i/\i<(kids.length:Int):=fun l hl i hi=>by
  have:i∈LL.flatten:=List.mem_flatten.2 ⟨l,hl,hi⟩
  rw [hfl,sm]at this
  omega
 obtain⟨qs,hC⟩:=nmE (LL.zip CC)
 rw [<-hC]at hI hJ ho hQ
 simp only [<-hC]at hu
 have hS:(qs.map (·.1)).flatten=ixs 0 kids.length:=by rw [hJ];exact hfl
 obtain⟨q,hq⟩:∃q:Pl,q=⟨s0,row,⟨w0,w1⟩,⟨h0',h1'⟩,iw,ih,al,ac,kids⟩:=⟨_,rfl⟩
 rw [<-hq]at hQ
 obtain⟨D1,hN⟩:=nmE (wQ q rtl I IN AC' ZZ S1 ST 0 qs)
 rw [<-hN]at hQ
 have xb:I.length<=1048576:=by omega
 have cG:=fX s0 row
 have hT:CO q=nN s0 row:=by rw [hq];rfl
 have xd:q.s.justify=s0.justify:=by rw [hq]
 have ht:=fun(zo c lb:Int)(h1:0<=zo)(h2:CC[zo.toNat]? =some c) PS vP h3 h4 l L h5 h6 done h7 h8 E h9 Q' hQ'=>yf hg (Q:=Q') V rtl n s0 row iw ih al ac w0 w1 h0' h1' K IN AC' vI vL vZ vS vC vT fl ft fr fb zo kids hK I ZZ CC ST PS S1 hvZ hvC hvT hvS vP h3 h4 hTl hzl hsl hf h1 c h2 lb l L h5 h6 done h7 h8 E h9 hQ'
 simp only [<-hq]at ht
 obtain⟨G,hG⟩:=nmE (nN s0 row);(try rw [<-hG]at cG);(try rw [<-hG]at hT)
 replace hH:=hI
 have pE:=pmV hE
 refine aU hg aB (by kernel_rfl) vL (fun t=>lnA t.1) qs hH ho (fun z(s:Int×List ag×LLA)=>[(4,.p 0),(6,.p 1),(7,.p 2),(8,.p 3),(9,.p 4),(11,.v vI),(12,.v vL),(13,.i (IN)),(14,.v vZ),(15,.v vS),(16,.v vC),(18,.i (AC')),(20,.v vT),(28,.p 5),(29,.o 6),(210,.v vL),(211,.i (g .ln vL)),(212,.i (z))]) (fun z(s:Int×List ag×LLA)=>[.bx 76 3 (gz V rtl),.bx 122 2 [.J w0,.J w1],.bx 122 2 [.J h0',.J h1'],.bx 127 4 [.J 0,.J 0,.J 0,.N],.bx 196 75 (plL n s0 ⟨w0,w1⟩ ⟨h0',h1'⟩ row iw ih al ac (.view K)),.bx 34 4 [.J fl,.J ft,.J fr,.J fb],.rw ⟨45,5,s.2.2⟩]) (fun z(s:Int×List ag×LLA)=>s.1=z/\s.2.2=vw ag.c (s.2.1++List.replicate (kids.length-s.2.1.length) ⟨0,0,0,0,0⟩)) (fun(s:Int×List ag×LLA) rest=>(s.2.1++wQ q rtl I IN AC' ZZ S1 ST s.1 rest,ixs 0 s.2.1.length++(rest.map (·.1)).flatten)) ((D1,ixs 0 kids.length)) (0,[],E) (by rw [hN];exact Prod.ext rfl hS) ⟨rfl,hE⟩ (Wk.weak (wkG [some _,some _,some _,some _,some _,some _,some 6] ⟨rfl,rfl,rfl,rfl,rfl,rfl,rfl,rfl,rfl,rfl,rfl,rfl,rfl,rfl,rfl,rfl,rfl,rfl,trivial⟩ ⟨wqE rfl rfl,wqE rfl rfl,wqE rfl rfl,wqE rfl rfl,wqE rfl rfl,wqE rfl rfl,wqE rfl pE,trivial⟩ (by decide) aw)) (fun z s B hz h0 hi he=> ?_) (fun z s x rest B z0 z1 z2 hx hy h0 hi hc e1 hB=> ?_)
 ·obtain⟨k,D,E1⟩:=s
  obtain⟨i1,i2⟩:=hi
  obtain⟨hs,hk⟩:=Prod.mk.inj h0
  dsimp only at i1 i2
  obtain rfl:D=D1:=by simpa [wQ]using hs
  have hZ:D.length=kids.length:=by
   have:=congrArg List.length hk
   simpa [dA]using this
  have hQ:=hQ z E1 (by rw [i2,hZ,Nat.sub_self,List.replicate_zero,List.append_nil])
  cbv;rw [he];cbv
  exact hQ
 ·obtain⟨k,done,E1⟩:=s
  obtain⟨l,c⟩:=x
  obtain⟨i1,i2⟩:=hi
  obtain⟨hs,hk⟩:=Prod.mk.inj h0
  dsimp only at i1 i2 hy hs hk
  subst i1
  obtain⟨L,hL⟩:=nmE (vw ak l)
  have xg:vL[k.toNat]? =some [.view L]:=by rw [hL];exact hy
  have hF:=na hk
  rw [dA]at hF
  have hn:=oP (l:=l) (ls:=rest.map (fun t:List Int×Int=>t.1)) hF.2.2
  have hd:l.length<=1048576:=Nat.le_trans hn.1 (Nat.le_trans (Nat.sub_le ..) hkl)
  have hA:=hU l (zqd (hu hx).1)
  have hM:=pmV i2
  have hV:done.length+l.length<=kids.length:=by have:=hn.1;omega
  have hp:=fq I l xb hd
  have hr:=gW S1 l (by omega) hd (fun i hi=>by have:=hA i hi;omega)
  have hv:=ky (pck S1 l) (Nat.le_trans (wu S1 l) hd)
  have hh:(l.map (elZ ZZ)).length<=1048576:=by rw [zql];exact hd
  have hj:=kq (lit I l) (l.map (elZ ZZ)) G IN s0.justify (Nat.le_trans tt hd) hh
  obtain⟨PS,hw⟩:=nmE (DD q I IN ZZ l)
  have ha:alg (lit I l) (l.map (elZ ZZ)) G IN s0.justify=PS:=by rw [hw];unfold DD;rw [hT,xd]
  rw [ha]at hj
  have xc:PS.length<=1048576:=by
   rw [<-ha]
   exact Nat.le_trans (Bp _ _ _ _ _) hh
  obtain⟨lb,hb⟩:=nmE (bas (pck S1 l))
  rw [<-hb]at hv
  obtain⟨LI,hP⟩:=nmE (vw aj.c (lit I l));(try rw [<-hP]at hp);(try rw [<-hP]at hj)
  obtain⟨PK,hR⟩:=nmE (vw av.c (pck S1 l));(try rw [<-hR]at hr);(try rw [<-hR]at hv)
  rw [<-hvI,<-hL]at hp
  rw [<-hvS,<-hL]at hr
  obtain⟨W,hW⟩:=nmE (vw ak (l.map (elZ ZZ)))
  have xj:W.length=(l.map (elZ ZZ)).length:=by rw [hW,ao]
  have iW:=imV hW
  have kW:=kmV (k:=1) hW fun _=>rfl
  have dW:=dmV hW
  rw [<-hW]at hj
  obtain⟨vP,hm⟩:=nmE (vw ak PS)
  have xf:=lmV hm
  have hX:=imV hm
  have xh:=kmV (k:=1) hm fun _=>rfl
  have hY:=dmV hm
  rw [<-hm]at hj
  have xe:∀i∈l,0<=i/\i<(ZZ.length:Int):=fun i hi=>by have:=hA i hi;omega
  have ht:=ht k c lb z0 (hu hx).2 PS vP hm xc l L hL hd done (by simpa using hn.2.1) hV E1 i2
  have h3:∀D,D=done++uO q rtl IN AC' ZZ S1 (elZ ST k) c lb PS 0 l->(D++wQ q rtl I IN AC' ZZ S1 ST (k+1) rest,ixs 0 D.length++(rest.map (·.1)).flatten)=(D1,ixs 0 kids.length):=fun D hD=>Prod.ext (by
   rw [<-hs,hD,hb,hw,zqC];rfl) (by
   show ixs 0 D.length++(rest.map (·.1)).flatten=ixs 0 kids.length
   rw [<-hk,hD,zqe,mf,jJ,zqC]
   congr 1
   rw [zqA,List.flatten_cons]
   congr 1
   exact hn.2.1.symm)
  clear hF hn hV hk hS hJ hu hI hq hC hA hU ha hw hb hvI hvS hh
  cbv
  rw [hc]
  cbv
  refine goX hg _ z0 xg rfl ?_
  cbv
  refine mU hg (n5 (aM f125) 3) (by kernel_rfl) [(4,.p 0),(6,.p 1),(7,.p 2),(8,.p 3),(9,.p 4),(11,.v vI),(12,.v vL),(13,.i (IN)),(14,.v vZ),(15,.v vS),(16,.v vC),(18,.i (AC')),(20,.v vT),(28,.p 5),(29,.o 6),(210,.v vL),(211,.i (g .ln vL)),(212,.i (k)),(30,.i (k)),(31,.v L),(32,.o 7),(217,.v L),(218,.i (g .ln L)),(219,.i (0))] [.bx 76 3 (gz V rtl),.bx 122 2 [.J w0,.J w1],.bx 122 2 [.J h0',.J h1'],.bx 127 4 [.J 0,.J 0,.J 0,.N],.bx 196 75 (plL n s0 ⟨w0,w1⟩ ⟨h0',h1'⟩ row iw ih al ac (.view K)),.bx 34 4 [.J fl,.J ft,.J fr,.J fb],.rw ⟨45,5,E1⟩,.rw ⟨3,1,[]⟩] (Wk.weak (wkG [some _,some _,some _,some _,some _,some _,some _,none] ⟨rfl,rfl,rfl,rfl,rfl,rfl,rfl,rfl,rfl,rfl,rfl,rfl,rfl,rfl,rfl,rfl,rfl,rfl,rfl,rfl,rfl,rfl,rfl,rfl,trivial⟩ ⟨wqE rfl rfl,wqE rfl rfl,wqE rfl rfl,wqE rfl rfl,wqE rfl rfl,wqE rfl rfl,wqE rfl hM,⟨_,rfl,rfl⟩,trivial⟩ (by decide) aw)) ?_
  refine yg hg V rtl n s0 row iw ih al ac w0 w1 h0' h1' K IN AC' vI vL vZ vS vC vT fl ft fr fb k E1 hM ZZ hvZ l L hL hd xe fun z2 E2 xa=> ?_
  obtain rfl:W=E2:=by rw [xa,hW]
  cbv
  (repeat'((first|refine aa hg cG ?_|refine aa hg hp ?_|refine ad hg hr ?_|refine ad hg hv ?_|refine dS hg hj (ay (be rfl) (ay (bC (ab:=⟨_,_,W⟩) rfl kW dW) (ay (be rfl) (ay (be rfl) (ay (be rfl) (aP)))))) hX ?_);cbv))
  refine mU hg (n5 (aM f125) 4) (by kernel_rfl) [(4,.p 0),(6,.p 1),(7,.p 2),(8,.p 3),(9,.p 4),(11,.v vI),(12,.v vL),(13,.i (IN)),(14,.v vZ),(15,.v vS),(16,.v vC),(18,.i (AC')),(20,.v vT),(28,.p 5),(29,.o 6),(210,.v vL),(211,.i (g .ln vL)),(212,.i (k)),(30,.i (k)),(31,.v L),(35,.v vP),(36,.i (lb)),(249,.v L),(250,.i (g .ln L)),(251,.i (0))] [.bx 76 3 (gz V rtl),.bx 122 2 [.J w0,.J w1],.bx 122 2 [.J h0',.J h1'],.bx 127 4 [.J 0,.J 0,.J 0,.N],.bx 196 75 (plL n s0 ⟨w0,w1⟩ ⟨h0',h1'⟩ row iw ih al ac (.view K)),.bx 34 4 [.J fl,.J ft,.J fr,.J fb],.rw ⟨45,5,E1⟩] (bS (sl1 8 vP) (kP rfl xh hY) (Wk.weak (wkG [some _,some _,some _,some _,some _,some _,some 6] ⟨rfl,rfl,rfl,rfl,rfl,rfl,rfl,rfl,rfl,rfl,rfl,rfl,rfl,rfl,rfl,rfl,rfl,rfl,rfl,rfl,rfl,rfl,rfl,rfl,rfl,trivial⟩ ⟨wqE rfl rfl,wqE rfl rfl,wqE rfl rfl,wqE rfl rfl,wqE rfl rfl,wqE rfl rfl,⟨_,_,rfl,rfl,rfl,rfl,.inl (ce hM)⟩,trivial⟩ (by decide) aw))) ?_
  refine ht _ fun z3 E3 D hD hO=> ?_
  have xi:=pmV hO
  cbv
  (repeat'(rw [e1];cbv))
  skip
  exact hB ((k+1,D,E3)) _ _ ⟨h3 D hD,⟨rfl,hO⟩⟩ (Wk.weak (wkG [some _,some _,some _,some _,some _,some _,some 6] ⟨rfl,rfl,rfl,rfl,rfl,rfl,rfl,rfl,rfl,rfl,rfl,rfl,rfl,rfl,rfl,rfl,rfl,rfl,trivial⟩ ⟨wqE rfl rfl,wqE rfl rfl,wqE rfl rfl,wqE rfl rfl,wqE rfl rfl,wqE rfl rfl,wqE rfl xi,trivial⟩ (by decide) aw))
theorem wn(sp:Int->Int)(gap:Int):∀(cs:List Int)(i a:Int),(plG sp gap i a cs).length=cs.length
 | [],_,_=>rfl
 |c::r,i,a=>by simp only [plG,zqx,wn sp gap r]
theorem Ai(cs:List Int)(gap inner ct:Int):(pll cs gap inner ct).length<=cs.length:=by
 unfold pll
 split
 ·exact Nat.zero_le _
 ·rw [wn];exact Nat.le_refl _
variable {ns:List af}{n:Int}
theorem Cm{x:af}(h:ns[(n-1).toNat]? =some x):nod ns n=x:=by
 unfold nod;rw [h];rfl
theorem zw{x:af}(h:ns[(n-1).toNat]? =some x):flK ns n=jf (mO ns) (x.kids.filter (n7 ns)):=by
 unfold flK fD;rw [h]
theorem rh(ns:List af)(hl:ns.length<=1048576)(n:Int)(x:af)(h1:isN ns n=true)(hx:ns[(n-1).toNat]? =some x)(hkl:x.kids.length<20)(hk:∀k∈x.kids,isN ns k=true)(hrl:x.table.rules.length<=1048576)(rtl:Bool)(b:Bv)(hbx:∀kid∈flK ns n,nM (vwA af.ac ns) rtl b kid):zM (vwA af.ac ns) rtl (Cu b ns rtl) n:=by
 intro w0 w1 ha hb
 have b2:=aI h1
 have cP:=p9 ns n x hl b2.1 (by have:=b2.2.1;omega) hx hkl hk rtl w0 w1 ha hb
 have xj:flK ns n=jf (mO ns) (x.kids.filter (n7 ns)):=zw hx
 have ht:∀k∈flK ns n,isN ns k=true:=fun k h=>hk k (by rw [xj]at h;exact(List.mem_filter.1 ((qM _ _ _).1 h)).1)
 have hu:(flK ns n).length<20:=by rw [xj,mt];exact Nat.lt_of_le_of_lt (List.length_filter_le _ _) hkl
 rw [<-xj]at cP
 obtain⟨p,hp⟩:=nmE (plO ns n ⟨w0,w1⟩ ⟨ha,hb⟩)
 have hn:PC0 169 [.agg (gz (vwA af.ac ns) rtl),ai n,agP ⟨w0,w1⟩,agP ⟨ha,hb⟩] (.t (.agg (plL n p.s p.w p.h p.row p.wide p.high p.al p.ac (.view (vw ak p.kids))))):=by
  rw [hp]
  unfold plO
  rw [gR hx]
  exact cP
 clear cP
 have hks:kst ns n=x.style:=gR hx
 have yf:nod ns n=x:=Cm hx
 have yg:p.w=⟨w0,w1⟩/\p.h=⟨ha,hb⟩/\p.s=x.style/\p.wide=inW x.style ⟨w0,w1⟩/\p.kids=flK ns n:=by rw [hp];exact⟨rfl,rfl,gR hx,by show inW (kst ns n) _=_;rw [hks],rfl⟩
 obtain⟨e1,e2,e3,e4,e5⟩:=yg
 unfold yN Cu
 rw [yf,hks,<-hp,<-e1,<-e2,<-e3,<-e5]
 have yn:inW p.s p.w=p.wide:=by rw [e3,e1,e4]
 rw [yn]
 rw [<-e5]at ht hu hbx
 have cy:=aR ns n x b2.1 (by have:=b2.2.1;omega) hx (vwA af.ac ns) _ _ rfl rfl rfl
 obtain⟨s0,row,w,h,iw,ih,al,ac,kids⟩:=p
 dsimp only at *
 subst e1 e2
 have cl:=q8 n s0 ⟨w0,w1⟩ ⟨ha,hb⟩ row iw ih al ac (vw ak kids)
 have ci:=lO ns hl rtl b n ⟨s0,row,⟨w0,w1⟩,⟨ha,hb⟩,iw,ih,al,ac,kids⟩ (by dsimp only;omega) ht hbx
 have cs:=fun zs yo=>lN ns hl rtl b n ⟨s0,row,⟨w0,w1⟩,⟨ha,hb⟩,iw,ih,al,ac,kids⟩ zs (by dsimp only;omega) yo ht hbx
 obtain⟨V,hV⟩:=nmE (vwA af.ac ns)
 rw [<-hV]at cy hn ci⊢
 simp only [<-hV]at cs
 obtain⟨Kx,xO⟩:=nmE (vw ak x.kids)
 obtain⟨Rx,xr⟩:=nmE (vw aK.c x.table.rules)
 rw [<-xO,<-xr]at cy
 obtain⟨im,iN⟩:=iw
 have cR:=kp im iN
 have cW:=ni x.table.rules (nY ⟨im,iN⟩) hrl
 rw [<-xr]at cW
 have ye:∀q:lw,lw.ac q=[.J q.wide,.J q.high,.J q.base,.view (vw ag.c q.frames)]:=fun q=>rfl
 obtain⟨x0,x1,x2,x3,x4⟩:=x
 dsimp only at *
 by_cases hB:x3=true
 ·rw [if_pos hB]
  subst hB
  obtain⟨RO,xo⟩:=nmE (nY ⟨im,iN⟩);(try rw [<-xo]at cR);(try rw [<-xo]at cW);(try rw [<-xo]at⊢)
  obtain⟨⟨q0,q1⟩,hq⟩:∃q,q=wnt x4.rules RO:=⟨_,rfl⟩
  rw [<-hq]at cW⊢
  have cl:=cl q0 q1
  obtain⟨LF,hG⟩:=nmE (yc s0 ⟨w0,w1⟩ ⟨ha,hb⟩ (q0,q1));(try rw [<-hG]at cl);(try rw [<-hG]at⊢)
  have hf:aO (vw ag.c LF.frames)=true:=aF _ _
  obtain⟨FR,hr⟩:=nmE (vw ag.c LF.frames);(try rw [<-hr]at cl);(try rw [<-hr]at hf);(try rw [<-hr]at⊢)
  obtain⟨K,hK⟩:=nmE (vw ak kids)
  have xk:=lmV hK
  have iK:=imV hK
  have kK:=kmV (k:=1) hK fun _=>rfl
  have dK:=dmV hK
  rw [<-hK]at hn cl
  clear ci cs hp hbx ht
  refine ae (aM f125) aB func125 fun g F hg hF=> ?_
  cbv
  (repeat'((first|refine ad hg hn ?_|refine ad hg cy ?_|refine aa hg cR ?_|refine aa hg cW ?_|refine t9 hg cl (gN rfl) hf ?_);cbv))
  exact qp hF rfl hf
 ·rw [if_neg hB]
  replace hB:x3=false:=by simpa using hB
  subst hB
  by_cases hkn:kids=[]
  ·rw [if_pos hkn]
   have cl:=cl 0 0
   obtain⟨LF,hG⟩:=nmE (yc s0 ⟨w0,w1⟩ ⟨ha,hb⟩ (0,0));(try rw [<-hG]at cl);(try rw [<-hG]at⊢)
   have hf:aO (vw ag.c LF.frames)=true:=aF _ _
   obtain⟨FR,hr⟩:=nmE (vw ag.c LF.frames);(try rw [<-hr]at cl);(try rw [<-hr]at hf);(try rw [<-hr]at⊢)
   clear ci cs hp hbx ht
   subst hkn
   refine ae (aM f125) aB func125 fun g F hg hF=> ?_
   have t0:g .ln ([]:LLA)=0:=by rw [bO hg];rfl
   have t1:g .q .eql (0:Int) 0=true:=by rw [bA hg];rfl
   cbv
   (repeat'((first|rw [t0]|rw [t1]|refine ad hg hn ?_|refine ad hg cy ?_|refine qx hg cl rfl hf ?_);cbv))
   exact qp hF rfl hf
  ·rw [if_neg hkn]
   clear cW cR cl xr xO
   obtain⟨q,hq⟩:∃q:Pl,q=⟨s0,row,⟨w0,w1⟩,⟨ha,hb⟩,⟨im,iN⟩,ih,al,ac,kids⟩:=⟨_,rfl⟩
   rw [<-hq]at ci cs⊢
   have yh:q.kids=kids:=by rw [hq]
   unfold DP
   rw [yh]
   have ci:=AR ci (fun _=>rfl)
   have hh:=tA b q rtl ns kids
   obtain⟨I,hI⟩:=nmE (zi b q rtl ns kids)
   rw [<-hI]at ci hh⊢
   have xL:I.length<=1048576:=by rw [hh];exact Nat.le_of_lt (Nat.lt_trans hu (by decide))
   have cN:=ka n s0 ⟨w0,w1⟩ ⟨ha,hb⟩ row ⟨im,iN⟩ ih al ac (vw ak kids) I xL
   have h3:=xA q I
   have cs:=cs (z8 q I) (by rw [h3,hh])
   obtain⟨S0,xP⟩:=nmE (BC b q rtl ns (kids.zip (z8 q I)))
   have hM:S0.length=kids.length:=by rw [xP,xN,zqB,h3,hh];exact Nat.min_self _
   rw [<-xP]at cs⊢
   change PC0 _ _ (.tup [.c (.view (vwA lnA (lns I (nN s0 row) (nY al) (!decide (s0.wrap=1))))),ai (tak al (lng I (nN s0 row) (nY al) (!decide (s0.wrap=1)))),.c (.view (vw ak (lsz I (nN s0 row) (nY al) (!decide (s0.wrap=1)) (tak al (lng I (nN s0 row) (nY al) (!decide (s0.wrap=1)))))))])at cN
   have hQ:uG q I=lns I (nN s0 row) (nY al) (!decide (s0.wrap=1)):=by rw [hq];rfl
   have xQ:CD q I=tak al (lng I (nN s0 row) (nY al) (!decide (s0.wrap=1))):=by rw [hq];rfl
   have xR:z8 q I=lsz I (nN s0 row) (nY al) (!decide (s0.wrap=1)) (tak al (lng I (nN s0 row) (nY al) (!decide (s0.wrap=1)))):=by rw [hq];rfl
   rw [<-xR,<-xQ,<-hQ]at cN
   have hA:(uG q I).flatten=ixs 0 kids.length:=by rw [hQ,jb,hh]
   have hP:(uG q I).length<=64:=by rw [hQ];exact Nat.le_trans (p7 ..) (by omega)
   have xy:∀l∈uG q I,l.length<=1048576/\∀i∈l,0<=i/\i<(S0.length:Int):=fun l hm=>by
    rw [hQ]at hm
    exact⟨Nat.le_trans (p6 hm) xL,fun i hi=>by have:=wE hm hi;omega⟩
   have cC:=ld n s0 ⟨w0,w1⟩ ⟨ha,hb⟩ row ⟨im,iN⟩ ih al ac (vw ak kids) (uG q I) S0 (by omega) hP xy
   have xS:BM q (uG q I) S0=Dr s0 row ac (uG q I) S0:=by rw [hq];rfl
   rw [<-xS]at cC
   have ho:(BM q (uG q I) S0).length=(uG q I).length:=tX q _ _ hP
   unfold Eb
   dsimp only
   obtain⟨LL,yb⟩:=nmE (uG q I)
   obtain⟨ZZ,yd⟩:=nmE (z8 q I)
   obtain⟨IN,xM⟩:=nmE (CD q I)
   rw [<-yb]at hA hP xy cC ho cN⊢
   rw [<-yd]at h3 cs cN⊢
   rw [<-xM]at cN⊢
   obtain⟨CC,x8⟩:=nmE (BM q LL S0)
   rw [<-x8]at ho cC⊢
   clear hQ xQ xR xS
   have cG:=fX s0 (!row)
   have xT:xp q=nN s0 (!row):=by rw [hq];rfl
   have cT:=eG CC (xp q) (by rw [ho];omega)
   obtain⟨am,an⟩:=ac
   have cK:=d9 am an (crt CC (xp q))
   have xU:Bq q CC=tak ⟨am,an⟩ (crt CC (xp q)):=by rw [hq];rfl
   rw [<-xU]at cK
   have cL:=lj CC (xp q) (Bq q CC) (ctP q) (by omega)
   have xz:ctP q=if s0.wrap=1 then 2 else s0.content:=by rw [hq];rfl
   rw [<-xT]at cG
   have xB:Dx q CC=pll CC (xp q) (Bq q CC) (ctP q):=rfl
   rw [<-xB]at cL
   obtain⟨GC,xK⟩:=nmE (xp q)
   obtain⟨hd,xH⟩:=nmE (Bq q CC)
   obtain⟨ST,xu⟩:=nmE (Dx q CC)
   rw [<-xK]at cG cT cK cL
   rw [<-xH]at cK cL⊢
   rw [<-xu]at cL⊢
   have xv:ST.length<=1048576:=by rw [xu,xB];exact Nat.le_trans (Ai ..) (by omega)
   clear xT xU xB
   obtain⟨TT,hTT⟩:=nmE (crt CC GC)
   rw [<-hTT]at cT cK
   have cB:=dp am an
   obtain⟨KB,xi⟩:=nmE (knS ⟨am,an⟩)
   rw [<-xi]at cB
   obtain⟨K,hK⟩:=nmE (vw ak kids)
   have xk:=lmV hK
   have iK:=imV hK
   have kK:=kmV (k:=1) hK fun _=>rfl
   have dK:=dmV hK
   rw [<-hK]at hn ci cN cs cC
   obtain⟨vI,xC⟩:=nmE (vw aj.c I);(try rw [<-xC]at ci);(try rw [<-xC]at cN)
   obtain⟨vZ,hz⟩:=nmE (vw ak ZZ)
   have ym:=lmV hz
   have yy:=imV hz
   have yA:=kmV (k:=1) hz fun _=>rfl
   have yu:=dmV hz
   rw [<-hz]at cN cs
   obtain⟨vS,hy⟩:=nmE (vw av.c S0)
   have yk:=lmV hy
   have yp:=imV hy
   have x6:=kmV (k:=7) hy fun _=>rfl
   have xG:=dmV hy
   rw [<-hy]at cs cC
   obtain⟨vC,hw⟩:=nmE (vw ak CC)
   have yi:=lmV hw
   have xZ:=imV hw
   have hT:=kmV (k:=1) hw fun _=>rfl
   have hD:=dmV hw
   rw [<-hw]at cC cT cL
   obtain⟨vL,h2⟩:=nmE (vwA lnA LL);(try rw [<-h2]at cN);(try rw [<-h2]at cC)
   obtain⟨vT,hC⟩:=nmE (vw ak ST)
   have yl:=lmV hC
   have x5:=imV hC
   have yr:=kmV (k:=1) hC fun _=>rfl
   have x7:=dmV hC
   rw [<-hC]at cL
   have hs:kids.length<=1048576:=Nat.le_of_lt (Nat.lt_trans hu (by decide))
   have xx:ZZ.length=kids.length:=by rw [h3,hh]
   have hH:LL.length<=1048576:=Nat.le_trans hP (by decide)
   have hJ:=fun(g:Gd)(hg:g= @G0 bp0 prog 0 f125.ntmps)(Q':Exit->List (Nat×AV)->EH->Prop) hQ'=>wJ hg (Q:=Q') ns hl V hV rtl n s0 row ⟨im,iN⟩ ih al ⟨am,an⟩ w0 w1 ha hb kids K hK hs ht IN hd KB xi vI vL vZ vC vT ZZ CC hz hw S0 xx hM LL h2 hH ho hA hQ'
   rw [<-hq,<-hy]at hJ
   obtain⟨S1,xt⟩:=nmE (xq q ns S0 ZZ (LL.zip CC))
   have hN:S1.length=kids.length:=by rw [xt,tQ,eA ho,hA,dA]
   rw [<-xt]at hJ⊢
   have h6:=dr s0
   obtain⟨fe,h0⟩:=nmE (kz s0)
   rw [<-h0]at h6
   have hR:q.s=s0:=by rw [hq]
   have xX:q.w=⟨w0,w1⟩:=by rw [hq]
   have xV:q.h=⟨ha,hb⟩:=by rw [hq]
   have xW:q.row=row:=by rw [hq]
   obtain⟨fl,ft,fr,fb⟩:=fe
   have hX:=dh fl ft fr fb
   have hW:=dl fl ft fr fb
   obtain⟨hU,hc⟩:=nmE (vw av.c S1)
   have xY:=lmV hc
   have yq:=imV hc
   have xE:=kmV (k:=7) hc fun _=>rfl
   have h9:=dmV hc
   have hL:=fun(g:Gd)(hg:g= @G0 bp0 prog 0 f125.ntmps)(Q':Exit->List (Nat×AV)->EH->Prop) E hE hQ'=>wI hg (Q:=Q') V rtl n s0 row ⟨im,iN⟩ ih al ⟨am,an⟩ w0 w1 ha hb K IN hd vI vL vZ hU vC vT fl ft fr fb kids hK hs I xC hh ZZ CC ST S1 hz hw hC hc xv xx hN h0.symm LL h2 hH ho hA E hE hQ'
   rw [<-hq]at hL
   obtain⟨FF,xg⟩:=nmE (wQ q rtl I IN hd ZZ S1 ST 0 (LL.zip CC))
   have xJ:FF.length=kids.length:=by rw [xg,qm,eA ho,hA,dA]
   rw [<-xg]at hL⊢
   have yw:0<kids.length:=List.length_pos_iff.2 hkn
   obtain⟨f0,FT,xd⟩:∃f t,FF=f::t:=by
    cases FF with
    |nil=>simp at xJ;omega
    |cons a b=>exact⟨_,_,rfl⟩
   obtain⟨h4,hv⟩:∃y,S1[(0:Int).toNat]? =some y:=⟨_,zqc (by show 0<S1.length;omega)⟩
   have hS:sdZ S1 0=h4:=vV (Int.le_refl 0) hv
   obtain⟨vF,he⟩:=nmE (vw ag.c FF)
   have yj:=lmV he
   have yx:=imV he
   have yz:=kmV (k:=5) he fun _=>rfl
   have yt:=dmV he
   have pF:=pmV he
   have xf:vF[(0:Int).toNat]? =some (lc (ag.c f0)):=by rw [he,xd];rfl
   have xe:(0:Int)<aC vF:=by rw [he,bg];omega
   have xs:hU[(0:Int).toNat]? =some (lc (av.c h4)):=by rw [hc];exact bv hv
   obtain⟨A1,xa⟩:=nmE (adE fl fr)
   obtain⟨A2,xb⟩:=nmE (adE ft fb)
   change PC0 _ _ (.i (adE fl fr))at hX
   change PC0 _ _ (.i (adE ft fb))at hW
   rw [<-xa]at hX
   rw [<-xb]at hW
   obtain⟨XW,hZ⟩:=nmE ((if row then IN else hd))
   obtain⟨XH,hY⟩:=nmE ((if row then hd else IN))
   obtain⟨W1,xw⟩:=nmE (wrap64 (XW+A1))
   obtain⟨H1,xh⟩:=nmE (wrap64 (XH+A2))
   obtain⟨BB,xc⟩:=nmE (wrap64 (f0.y+h4.base))
   have h7:=d9 w0 w1 W1
   have h8:=d9 ha hb H1
   have h5:=aq BB
   obtain⟨R1,xl⟩:=nmE (tak ⟨w0,w1⟩ W1);(try rw [<-xl]at h7)
   obtain⟨R2,xm⟩:=nmE (tak ⟨ha,hb⟩ H1);(try rw [<-xm]at h8)
   obtain⟨R3,xn⟩:=nmE (cl BB);(try rw [<-xn]at h5)
   have hO:(BN q IN hd FF S1).wide=R1/\(BN q IN hd FF S1).high=R2/\(BN q IN hd FF S1).base=R3/\(BN q IN hd FF S1).frames=FF:=by
    rw [xl,xm,xn,xw,xh,xc,hZ,hY,xa,xb]
    unfold BN
    rw [hR,xX,xV,xW,<-h0,hS,xd]
    exact⟨rfl,rfl,rfl,rfl⟩
   rw [hO.1,hO.2.1,hO.2.2.1,hO.2.2.2,<-he]
   have t1:∀g:Gd,g=G0 prog 0 f125.ntmps->g .w .add .i64 XW A1=W1:=fun g hg=>by rw [aJ hg,xw]
   have t2:∀g:Gd,g=G0 prog 0 f125.ntmps->g .w .add .i64 XH A2=H1:=fun g hg=>by rw [aJ hg,xh]
   have t3:∀g:Gd,g=G0 prog 0 f125.ntmps->g .w .add .i64 f0.y h4.base=BB:=fun g hg=>by rw [aJ hg,xc]
   have xF:∀g:Gd,g=G0 prog 0 f125.ntmps->g .rp (g .ln K) [.J 0,.J 0,.J 0,.J 0,.J 0]=vw ag.c (List.replicate kids.length ⟨0,0,0,0,0⟩):=fun g hg=>by
    rw [D9 hg,bO hg,hK,bg,Int.toNat_natCast];exact zQ ag.c kids.length ⟨0,0,0,0,0⟩
   have xk:K.length<=1048576:=by rw [hK,ao];exact hs
   have pS:=pmV hy
   have t0:∀g:Gd,g=G0 prog 0 f125.ntmps->g .q .eql s0.wrap 1=decide (s0.wrap=1):=fun g hg=>by rw [bA hg];exact zqn _ _
   have xD:∀g:Gd,g=G0 prog 0 f125.ntmps->g .q .eql (g .ln K) 0=false:=fun g hg=>by
    rw [bA hg,bO hg,hK,bg]
    have:kids.length≠0:=fun h=>hkn (zqv h)
    exact beq_eq_false_iff_ne.2 (by omega)
   clear hO xl xm xn xw xh xc xa xb h0 hR xX xV xW hS xd xJ xg xt hv hN hM hh xx hP xy hA ho hTT xi xK xH xu xM hq hp hbx ht
   refine ae (aM f125) aB func125 fun g F hg hF=> ?_
   have t0:=t0 g hg
   have xD:=xD g hg
   have t1:=t1 g hg
   have t2:=t2 g hg
   have t3:=t3 g hg
   have xF:=xF g hg
   have hJ:=hJ g hg
   have hL:=hL g hg
   cbv
   (repeat'((first|rw [xD]|refine ad hg hn ?_|refine ad hg cy ?_|refine ad hg ci ?_|refine ad hg cN ?_|refine bQ hg cs (bK rfl) yp ?_|refine bQ hg cC (s7 rfl (ay (be rfl) (ay (bC (ab:=⟨_,_,vS⟩) rfl x6 xG) (aP)))) xZ ?_|refine oZ hg cT (ay (bC (ab:=⟨_,_,vC⟩) rfl hT hD) (ay (be rfl) (aP))) rfl ?_|refine ad hg cG ?_|refine aa hg cK ?_);cbv))
   by_cases hw1:s0.wrap=1
   all_goals
    first|rw [if_pos hw1]at xz|rw [if_neg hw1]at xz
    rw [xz]at cL
    first|rw [zqu hw1]at t0|rw [zqt hw1]at t0
    (repeat'((first|rw [t0]|refine bQ hg cL (ay (bC (ab:=⟨_,_,vC⟩) rfl hT hD) (ay (be rfl) (ay (be rfl) (ay (be rfl) (aP))))) x5 ?_|refine ad hg cB ?_);cbv))
    refine mU hg (n5 (aM f125) 0) (by kernel_rfl) [(4,.p 0),(6,.p 1),(7,.p 2),(8,.p 3),(9,.p 4),(11,.v vI),(12,.v vL),(13,.i (IN)),(14,.v vZ),(15,.o 5),(16,.v vC),(18,.i (hd)),(20,.v vT),(21,.i (KB)),(116,.v vL),(117,.i (g .ln vL)),(118,.i (0))] [.bx 76 3 (gz V rtl),.bx 122 2 [.J w0,.J w1],.bx 122 2 [.J ha,.J hb],.bx 127 4 [.J 0,.J 0,.J 0,.N],.bx 196 75 (plL n s0 ⟨w0,w1⟩ ⟨ha,hb⟩ row ⟨im,iN⟩ ih al ⟨am,an⟩ (.view K)),.rw ⟨210,7,vS⟩] (bS (sl2 7 8 vC vT) (Dz rfl hT hD rfl yr x7) (Wk.weak (wkG [some _,some _,some _,some _,some _,some 6] ⟨rfl,rfl,rfl,rfl,rfl,rfl,rfl,rfl,rfl,rfl,rfl,rfl,rfl,rfl,rfl,rfl,rfl,trivial⟩ ⟨wqE rfl rfl,wqE rfl rfl,wqE rfl rfl,wqE rfl rfl,wqE rfl rfl,⟨_,_,rfl,rfl,rfl,rfl,.inl (ce pS)⟩,trivial⟩ (by decide) aw))) ?_
    refine hJ _ fun z1 E1 x9=> ?_
    obtain rfl:hU=E1:=by rw [x9,hc]
    cbv
    ((repeat'(refine ad hg h6 ?_;cbv)))
    refine Ea hg (by decide) xk ?_
    cbv
    generalize hE0:g .rp (g .ln K) _=E3
    have xI:E3=vw ag.c (List.replicate kids.length ⟨0,0,0,0,0⟩):=by rw [<-hE0];exact xF
    clear hE0
    have ys:=pmV xI
    refine mU hg (n5 (aM f125) 2) (by kernel_rfl) [(4,.p 0),(6,.p 1),(7,.p 2),(8,.p 3),(9,.p 4),(11,.v vI),(12,.v vL),(13,.i (IN)),(14,.v vZ),(15,.v hU),(16,.v vC),(18,.i (hd)),(20,.v vT),(28,.p 5),(29,.o 6),(210,.v vL),(211,.i (g .ln vL)),(212,.i (0))] [.bx 76 3 (gz V rtl),.bx 122 2 [.J w0,.J w1],.bx 122 2 [.J ha,.J hb],.bx 127 4 [.J 0,.J 0,.J 0,.N],.bx 196 75 (plL n s0 ⟨w0,w1⟩ ⟨ha,hb⟩ row ⟨im,iN⟩ ih al ⟨am,an⟩ (.view K)),.bx 34 4 [.J fl,.J ft,.J fr,.J fb],.rw ⟨45,5,E3⟩] (bS (sl1 5 hU) (kP rfl xE h9) (Wk.weak (wkG [some _,some _,some _,some _,some _,some 6,some 7] ⟨rfl,rfl,rfl,rfl,rfl,rfl,rfl,rfl,rfl,rfl,rfl,rfl,rfl,rfl,rfl,rfl,rfl,rfl,trivial⟩ ⟨wqE rfl rfl,wqE rfl rfl,wqE rfl rfl,wqE rfl rfl,wqE rfl rfl,wqE rfl rfl,⟨_,_,rfl,rfl,rfl,rfl,.inl (ce ys)⟩,trivial⟩ (by decide) aw))) ?_
    refine hL _ E3 xI fun z2 E2 ya=> ?_
    obtain rfl:vF=E2:=by rw [ya,he]
    cbv
    cases row
    all_goals
     (try simp only [Bool.false_eq_true,if_false]at hZ hY)
     (try simp only [if_true]at hZ hY)
     subst hZ hY
     (try cbv)
     ((repeat'((first|rw [t1]|rw [t2]|rw [t3]|refine aa hg hX ?_|refine aa hg hW ?_|refine aa hg h7 ?_|refine aa hg h8 ?_|refine aa hg h5 ?_|refine goX hg _ (Int.le_refl 0) xs rfl ?_|refine goY hg (Int.le_refl 0) xe fun j hj yv=> ?_;subst hj|refine⟨_,xf,?_⟩);cbv)))
     exact qp hF rfl pF
theorem tV{ns:List af}:∀(f:Nat)(k n:Int),0<=k->0<mi ns f (k+1) n->mi ns (f+1) k n=mi ns f (k+1) n-1
 |0,k,n,h0,h=>by
  by_cases hn:n=0
  ·subst hn;rw [gO,gO];omega
  ·rw [qu ns hn]at h;omega
 |f+1,k,n,h0,h=>by
  by_cases hn:n=0
  ·subst hn;rw [gO,gO];omega
  ·by_cases hi:isN ns n=true
   ·rw [fg ns hn hi]at h
    rw [fg ns hn hi,fg ns hn hi]
    exact tV f (k+1) (upN ns n) (by omega) h
   ·rw [nz ns (f+1) (k+1) n hn (by simpa using hi)]at h;omega
theorem iU(h:aV ns=true)(hn:isN ns n=true):1<=jn ns n/\jn ns n<=4:=by
 obtain⟨n1,n2,x,hx⟩:=aI hn
 simp only [aV,zqs]at h
 have:=(eJ ns ns 0).1 h.2 _ x hx
 simp only [bP,zqs,rng,zqp]at this
 have h2:=this.2.1
 rw [show(0:Int)+(((n-1).toNat:Nat):Int)+1=n by omega]at h2
 exact h2
theorem z5(h:aV ns=true){x:af}(h1:1<=n)(hx:ns[(n-1).toNat]? =some x):∀k∈x.kids,upN ns k=n:=fun k ha=>by
 simp only [aV,zqs]at h
 have:=(eJ ns ns 0).1 h.2 _ x hx
 simp only [bP,zqs,zqf,dY,zqp]at this
 have:=(this.2.2.2.1 k ha).2
 omega
theorem qc(h:aV ns=true){x:af}(h1:1<=n)(hx:ns[(n-1).toNat]? =some x):∀k∈x.kids,jn ns k=jn ns n+1:=fun k ha=>by
 have hk:=fM h h1 hx k ha
 obtain⟨k1,k2,y,hy⟩:=aI hk
 have hu:=z5 h h1 hx k ha
 have hd:=iU h hk
 obtain⟨L,hL⟩:∃L,ns.length=L+1:=⟨ns.length-1,by omega⟩
 unfold jn at hd⊢
 rw [hL]at hd⊢
 rw [fg ns (by omega) hk,hu]at hd⊢
 have:=tV (ns:=ns) L 0 n (Int.le_refl 0) (by omega)
 rw [this];omega
theorem AX{x:af}(hx:ns[(n-1).toNat]? =some x):∀k∈flK ns n,k∈x.kids:=fun k hk=>by
 rw [zw hx,qM]at hk
 exact(List.mem_filter.1 hk).1
theorem ki{ns:List af}(hl:ns.length<=1048576)(hs:∀y∈ns,af.small y)(ht:aV ns=true)(rtl:Bool):∀(f:Nat)(n:Int),isN ns n=true->5<=jn ns n+(f:Int)->Bw (vwA af.ac ns) rtl (nO ns rtl f) n
 |0,n,hn,hd=>by have:=iU ht hn;omega
 |f+1,n,hn,hd=>by
  obtain⟨n1,n2,x,hx⟩:=aI hn
  have hb:=pi ht n1 hx
  have ha:=fM ht n1 hx
  refine si _ rtl _ n (rh ns hl n x hn hx (by omega) ha ?_ rtl (nO ns rtl f) fun kid hk=> ?_)
  ·have:=hs x (zqd hx)
   exact this.2.1
  ·have hm:=AX hx kid hk
   have:=qc ht n1 hx kid hm
   exact m7 _ rtl _ kid (ki hl hs ht rtl f kid (ha kid hm) (by omega))
theorem fC(hl:ns.length<=1048576)(hs:∀y∈ns,af.small y)(ht:aV ns=true)(rtl:Bool)(f:Nat)(n:Int)(hn:isN ns n=true)(hd:5<=jn ns n+(f:Int)):nM (vwA af.ac ns) rtl (nO ns rtl f) n:=
 m7 _ rtl _ n (ki hl hs ht rtl f n hn hd)
def D5:ah:={ah.of (fun _=>0) (fun _=>false)with dir:=2,wrap:=1,justify:=1,items:=1,content:=2}
def zd:ah:={D5 with dir:=1}
theorem sH(ns:List af)(hl:ns.length<=1048576)(hs:∀y∈ns,af.small y)(s:ah):(uh ns s).length<=1048576/\∀y∈uh ns s,af.small y:=by
 unfold uh
 split
 ·rename_i h
  simp only [yK,zqs,zqp]at h
  refine⟨by rw [zqe,zqm];omega,fun y hy=> ?_⟩
  rcases List.mem_append.1 hy with h1|h1
  ·exact hs y h1
  ·rw [List.mem_singleton.1 h1]
   exact⟨by simp,by simp,trivial⟩
 ·exact⟨hl,hs⟩
instance:DecidableEq zL:=fun⟨a⟩⟨b⟩=>decidable_of_iff (a=b) (by simp)
instance:DecidableEq af:=fun⟨a0,a1,a2,a3,a4⟩⟨b0,b1,b2,b3,b4⟩=>decidable_of_iff (a0=b0/\a1=b1/\a2=b2/\a3=b3/\a4=b4) (by simp)
abbrev qy:Int->Array Value:=fun b=> #[.int .u8 b]
abbrev Cur(V:LLA)(i h:Int):List AC:=[.view V,.J i,.J h]
section
variable {n0 N:Nat}{g:Gd}
theorem DM(hg:g=G0 prog n0 N)(a:Int)(m:Nat)(hm:m<=1073741823):0<=g .w .and .i64 a m/\g .w .and .i64 a m<=m:=by
 subst hg
 show 0<=IntKind.i64.wrap ((BitVec.ofInt 64 a&&&BitVec.ofInt 64 (m:Int)).toNat:Int)/\IntKind.i64.wrap ((BitVec.ofInt 64 a&&&BitVec.ofInt 64 (m:Int)).toNat:Int)<=m
 have h1:(BitVec.ofInt 64 a&&&BitVec.ofInt 64 (m:Int)).toNat<=m:=by
  rw [BitVec.toNat_and]
  refine Nat.le_trans Nat.and_le_right ?_
  rw [BitVec.toNat_ofInt]
  omega
 have h2:IntKind.i64.wrap ((BitVec.ofInt 64 a&&&BitVec.ofInt 64 (m:Int)).toNat:Int)=((BitVec.ofInt 64 a&&&BitVec.ofInt 64 (m:Int)).toNat:Int):=by
  rw [show IntKind.i64.wrap ((BitVec.ofInt 64 a&&&BitVec.ofInt 64 (m:Int)).toNat:Int)=wrap64 ((BitVec.ofInt 64 a&&&BitVec.ofInt 64 (m:Int)).toNat:Int)from IntWalk.i64_left _]
  unfold wrap64
  omega
 rw [h2]
 omega
variable {F:List AT->EH->Prop}
theorem wV{Post:AV->AH->Prop}{xs:List AT}{eh:EH}{t k:Nat}{c:List AC}(hF:F=jS 1 Post)(h0:nth eh 0=some (.bx t k c))(hc:c.all dX=true)(hx:fz (mkV xs)=true)(hpost:Post (mkV xs) (toH [.bx t k c])):F xs eh:=by
 subst hF
 exact .inl ⟨mkV xs,toH [.bx t k c],[some 0],wkG [some 0] ⟨mB hx,trivial⟩ ⟨⟨_,_,mP h0,rfl,rfl,rfl,.inl ⟨rfl,by simpa [aO]using hc⟩⟩,trivial⟩,hpost⟩
theorem CT{Post:AV->List AB->Prop}{eh:EH}{t k r:Nat}{c:List AC}(hF:F=jS 0 (fun res h'=>∃rows,h'=rows.map .live/\Post res rows))(h0:nth eh r=some (.bx t k c))(hc:c.all dX=true)(hpost:Post (.p 0) [⟨t,k,[c]⟩]):F [.c (.ptr r 0 0)] eh:=by
 subst hF
 exact .inl ⟨.p 0,toH [.bx t k c],[some r],wkG [some r] zr1 ⟨⟨_,_,mP h0,rfl,rfl,rfl,.inl ⟨rfl,by simpa [aO]using hc⟩⟩,trivial⟩ (by simp) aw,_,rfl,hpost⟩
abbrev Bu(f:FuncId)(tc:Nat)(V:LLA)(i h:Int)(args:List AT)(Q:AV->Prop):Prop:=
 Con prog f (toH [.bx tc 3 (Cur V i h)]) (.c (.ptr 0 0 0)::args) fun res h'=>∃eh,toH eh=h'/\∃i' k',0<=i'/\eh=[.bx tc 3 (Cur V i' k')]/\Q res
theorem o6(hg:g=G0 prog n0 N){H:EH}(r:Nat){f:FuncId}{tc:Nat}{V:LLA}{i h:Int}{args:List AT}{Q:AV->Prop}{K:AV->EH->Prop}(hc:Bu f tc V i h args Q)(hr:nth H r=some (.bx tc 3 (Cur V i h)))(ha:(args.all lz)=true)
  (hK:∀(i' k':Int)(res:AV),0<=i'->Q res->K (res.mv (plc [r] H.length)) (va H r (.bx tc 3 (Cur V i' k')))):g .C f H (.c (.ptr r 0 0)::args) K:=by
 have hb:r<H.length:=by rw [ee]at hr;exact(List.getElem?_eq_some_iff.1 hr).1
 refine Bj hg [r] hc (by simp) (by simpa using hb) ⟨⟨_,_,rfl,by rw [hr];rfl,rfl,rfl,.inl ⟨rfl,rfl⟩⟩,trivial⟩ ⟨rfl,kS ha⟩ fun res eh⟨i',k',h1,h2,h3⟩=> ?_
 subst h2
 have:=hK i' k' res h1 h3
 rw [jB]at this
 simpa [bZ,EE.mv,AC.mv]using this
end
theorem pp(bs:List Int)(hl:bs.length<=1048576):cj prog 30 [.c (.view (vw qy bs))] fun res ha=>∃hv:Int,res= .p 0/\ha=[⟨100,3,[Cur (vw qy bs) 0 hv]⟩]:=by
 obtain⟨V,hV⟩:=nmE (vw qy bs)
 have hf:=lmV hV
 rw [<-hV]
 refine ae (aM f30) aB func30 fun g F hg hF=> ?_
 cbv
 refine iv hg aB (by kernel_rfl) (fun s:Int×Int=>[(0,.v V),(3,.i (s.2)),(4,.i (s.1))]) (fun s=>[]) (fun s=>0<=s.1/\s.1<=aC V) (fun s=>(aC V).toNat-s.1.toNat) (0,g .w .add .i64 94701 (g .ln V)) ⟨by simp,by simp only [ar];omega⟩ (Wk.weak (wkG [] zr3 trivial (by decide) aw)) (fun s B hs hB=> ?_)
 obtain⟨z,hv⟩:=s
 obtain⟨h0,h1⟩:=hs
 simp only at h0 h1
 have hc:aC V<=1048576:=by rw [ar];omega
 have t0:g .q .lss z (g .ln V)=decide (z<aC V):=by rw [bF hg,bO hg]
 by_cases hz:z<aC V
 ·have he:z.toNat<bs.length:=by rw [ar]at hz;omega
  have hd:V[z.toNat]? =some (lc (qy bs[z.toNat])):=by rw [hV];exact bv (zqc he)
  have ez:g .w .add .i64 z 1=z+1:=by rw [aJ hg];exact wr1 (by omega) (by omega)
  have hb:∀q:Int,B ([(0,.v V),(3,.i (q)),(4,.i ((z+1)))]) []:=fun q=>by
   subst hB
   exact⟨(z+1,q),⟨by simp only;omega,by simp only;omega⟩,by simp only;omega,Wk.weak (wkG [] zr3 trivial (by decide) aw)⟩
  cbv
  rw [t0,zqu hz]
  cbv
  cases hq:g .q .lss z 4000
  ·cbv
   exact CT hF rfl rfl ⟨_,rfl,rfl⟩
  ·cbv
   refine goX hg _ h0 hd rfl ?_
   cbv
   rw [ez]
   subst hB
   exact⟨(z+1,_),⟨by simp only;omega,by simp only;omega⟩,by simp only;omega,Wk.weak (wkG [] zr3 trivial (by decide) aw)⟩
 ·cbv
  rw [t0,zqt hz]
  cbv
  exact CT hF rfl rfl ⟨_,rfl,rfl⟩
theorem nR(bs:List Int)(hl:bs.length<=1048576)(i h:Int)(hi:0<=i):Bu 61 100 (vw qy bs) i h [] fun res=>∃x:Int,res= .i x/\0<=x/\x<=255:=by
 obtain⟨V,hV⟩:=nmE (vw qy bs)
 have hd:=lmV hV
 have ha:aC V<=1048576:=by rw [ar];omega
 rw [<-hV]
 refine qv (c:=aM f61) aB func61 (by kernel_rfl) (by kernel_rfl) (bl (by rfl)) (by kernel_rfl) fun g F hg hF=> ?_
 replace hg:g=G0 prog 1 f61.ntmps:=hg
 replace hF:F=jS 1 _:=hF
 have t0:g .q .lss i (g .ln V)=decide (i<aC V):=by rw [bF hg,bO hg]
 have hx:∀a:Int,0<=g .w .and .i64 a 255/\g .w .and .i64 a 255<=255:=fun a=>DM hg a 255 (by decide)
 cbv
 refine goN hg (by decide) ?_
 cbv
 refine goN hg (by decide) ?_
 cbv
 rw [t0]
 by_cases hz:i<aC V
 ·have hc:i.toNat<bs.length:=by rw [ar]at hz;omega
  have hb:V[i.toNat]? =some (lc (qy bs[i.toNat])):=by rw [hV];exact bv (zqc hc)
  have ez:g .w .add .i64 i 1=i+1:=by rw [aJ hg];exact wr1 (by omega) (by omega)
  rw [zqu hz]
  cbv
  refine goX hg _ hi hb rfl ?_
  cbv
  rw [ez]
  exact wV hF rfl rfl rfl ⟨_,rfl,_,_,by omega,rfl,_,rfl,(hx _).1,(hx _).2⟩
 ·rw [zqt hz]
  cbv
  exact wV hF rfl rfl rfl ⟨_,rfl,_,_,hi,rfl,_,rfl,(hx _).1,(hx _).2⟩
theorem mr(bs:List Int)(hl:bs.length<=1048576)(i h n:Int)(hi:0<=i):Bu 31 100 (vw qy bs) i h [ai n] fun res=>∃x:Int,res= .i x/\0<=x/\(0<n->x<n)/\(n<=0->x=0):=by
 have cb:=fun(i h:Int)(hi:0<=i)=>nR bs hl i h hi
 obtain⟨V,hV⟩:=nmE (vw qy bs)
 simp only [<-hV]at cb⊢
 refine qv (c:=aM f31) aB func31 (by kernel_rfl) (by kernel_rfl) (bl (by rfl)) (by kernel_rfl) fun g F hg hF=> ?_
 replace hg:g=G0 prog 1 f31.ntmps:=hg
 replace hF:F=jS 1 _:=hF
 have t0:g .q .leq n 0=decide (n<=0):=iO hg _ _
 have t1:g .q .leq n 256=decide (n<=256):=iO hg _ _
 by_cases h0:n<=0
 ·cbv
  rw [t0,zqu h0]
  cbv
  exact wV hF rfl rfl rfl ⟨_,rfl,_,_,hi,rfl,0,rfl,by omega,by omega,by omega⟩
 ·have ha:∀y:Int,0<=y->0<=y.tmod n/\y.tmod n<n:=fun y hy=>⟨Int.tmod_nonneg n hy,Int.tmod_lt_of_pos y (by omega)⟩
  cbv
  rw [t0,zqt h0]
  cbv
  rw [t1]
  by_cases h1:n<=256
  ·rw [zqu h1]
   cbv
   refine o6 hg 0 (cb _ _ hi) rfl rfl fun i1 k1 res hb hq=> ?_
   obtain⟨x,rfl,hc,hh⟩:=hq
   cbv
   refine BJ hg (by omega) ?_
   cbv
   rw [uM hg]
   exact wV hF rfl rfl rfl ⟨_,rfl,_,_,hb,rfl,_,rfl,(ha x hc).1,fun _=>(ha x hc).2,fun h=>absurd h h0⟩
  ·rw [zqt h1]
   cbv
   refine o6 hg 0 (cb _ _ hi) rfl rfl fun i1 k1 res hb hq=> ?_
   obtain⟨x,rfl,hc,hh⟩:=hq
   cbv
   refine o6 hg 0 (cb _ _ hb) rfl rfl fun i2 k2 res hd hq=> ?_
   obtain⟨y,rfl,hn,ho⟩:=hq
   cbv
   refine o6 hg 0 (cb _ _ hd) rfl rfl fun i3 k3 res he hq=> ?_
   obtain⟨z,rfl,hp,hr⟩:=hq
   cbv
   refine o6 hg 0 (cb _ _ he) rfl rfl fun i4 k4 res hf hq=> ?_
   obtain⟨w,rfl,hj,hk⟩:=hq
   cbv
   refine BJ hg (by omega) ?_
   cbv
   have e:g .w .add .i64 (g .w .add .i64 (g .w .add .i64 (g .w .mul .i64 x 16777216) (g .w .mul .i64 y 65536)) (g .w .mul .i64 z 256)) w=x*16777216+y*65536+z*256+w:=by
    simp only [aJ hg,ic hg]
    unfold wrap64
    omega
   rw [uM hg,e]
   have hm:=ha (x*16777216+y*65536+z*256+w) (by omega)
   exact wV hF rfl rfl rfl ⟨_,rfl,_,_,hf,rfl,_,rfl,hm.1,fun _=>hm.2,fun h=>absurd h h0⟩
end Go.Proofs.YtckchgoblpgpbaaGreat
