/- The law of ApartFrames. -/
import Derived.Test.YtckchgoblpgpbaaGreatJ9az
set_option linter.unusedVariables false
set_option linter.unusedSimpArgs false
set_option maxHeartbeats 32000000
namespace Go.Proofs.YtckchgoblpgpbaaGreat
open Go.ChangeShapes Go.WideShapes Go.ChangeAt Go.RowKit Am Go.Proofs.Tryz
set_option maxRecDepth 100000
variable {xs:List af}
theorem Fk{ss:List Int}{gap inner js:Int}(h:al5 xs ss gap inner=true):(alg xs ss gap inner js).length=ss.length:=by
 unfold alg
 rw [if_neg (by rw [h];simp),wJ,zqB]
 simp only [al5,zqs,zqp]at h
 omega
theorem EC{g:Gd}(hg:g= @G0 bp0 prog 3 f148.ntmps){Q:Exit->List (Nat×AV)->EH->Prop}(V:LLA)(rtl keeps:Bool)(n:Int)(s0:ag)(row:Bool)(al ac:aM)(KW w0 w1 h0' h1':Int)(K M A0:LLA)(pM:az M=true)(pA:az A0=true)(IN GP AC':Int)(vI vL vZ vS vC vT:LLA)(fl ft fr fb:Int)(wd hgh iw ih:aM)(kids:List Int)(hK:K=vw aj kids)(hkl:kids.length<=1048576)(I:List af)(hvI:vI=vw af.c I)(hIl:I.length=kids.length)(ZZ CC ST:List Int)(S1:List aw)(hvZ:vZ=vw aj ZZ)(hvC:vC=vw aj CC)(hvT:vT=vw aj ST)(hvS:vS=vw aw.c S1)(hTl:ST.length=CC.length)
  (hzl:ZZ.length=kids.length) (hsl:S1.length=kids.length) (hf:l7 s0=⟨fl,ft,fr,fb⟩) (hGP:GP=jA s0 row) (LL:List (List Int)) (hH:vL=vwA lnA LL) (hLl:LL.length<=1048576) (hcl:CC.length=LL.length) (hfl:LL.flatten=ixs 0 kids.length) (hal:∀l∈LL,al5 (lit I l) (l.map (elZ ZZ)) GP IN=true)
  (E:LLA) (hE:E=vw av.c (List.replicate kids.length ⟨0,0,0,0,0⟩))
  (hQ:∀(z:Int)(E:LLA),E=vw av.c (yd ⟨s0,row,wd,hgh,iw,ih,al,ac,kids⟩ rtl I IN AC' ZZ S1 ST 0 (LL.zip CC))->Q (.exit 0) [(109,.t (abl (false))),(108,.i (g .ln vL)),(107,.v vL),(106,.i (z)),(0,.p 0),(5,.p 3),(6,.p 4),(7,.p 5),(8,.p 6),(9,.v vI),(10,.v vZ),(11,.i (IN)),(12,.i (GP)),(13,.v vL),(14,.v vS),(15,.v vC),(16,.i (AC')),(18,.v vT),(19,.p 9),(20,.p 10),(21,.i (z))] [.bx 91 5 [.view V,.B rtl,.B keeps,.own 7,.own 8],.gn,.gn,.bx 180 68 (nwL n s0 row al ac KW (.view K)),.bx 122 2 [.J w0,.J w1],.bx 122 2 [.J h0',.J h1'],.bx 127 4 [.J 0,.J 0,.J 0,.N],.rw ⟨157,10,M⟩,.rw ⟨172,6,A0⟩,.bx 34 4 [.J fl,.J ft,.J fr,.J fb],.bx 127 4 [.J 0,.J 0,.J 0,.own 11],.rw ⟨45,5,E⟩]):
  g .L (mE (jx f148) 0) Q [(0,.p 0),(5,.p 3),(6,.p 4),(7,.p 5),(8,.p 6),(9,.v vI),(10,.v vZ),(11,.i (IN)),(12,.i (GP)),(13,.v vL),(14,.v vS),(15,.v vC),(16,.i (AC')),(18,.v vT),(19,.p 9),(20,.p 10),(21,.i (0))] [.bx 91 5 [.view V,.B rtl,.B keeps,.own 7,.own 8],.gn,.gn,.bx 180 68 (nwL n s0 row al ac KW (.view K)),.bx 122 2 [.J w0,.J w1],.bx 122 2 [.J h0',.J h1'],.bx 127 4 [.J 0,.J 0,.J 0,.N],.rw ⟨157,10,M⟩,.rw ⟨172,6,A0⟩,.bx 34 4 [.J fl,.J ft,.J fr,.J fb],.bx 127 4 [.J 0,.J 0,.J 0,.own 11],.rw ⟨45,5,E⟩]:=by
 have hI:vL=(LL.zip CC).map (fun t=>lnA t.1):=by rw [hH];exact qF hcl
 have hJ:(LL.zip CC).map (·.1)=LL:=fG hcl
 have hp:(LL.zip CC).length<=1048576:=by rw [zqB];exact zpb (Nat.min_le_left ..) hLl
 have ho:=fun{i t} h=>yf (a:=LL) (b:=CC) (i:=i) (t:=t) h
 have hT:∀l∈LL,∀i∈l,0<=i/\i<(kids.length:Int):=fun l hl i hi=>by
  have:i∈LL.flatten:=List.mem_flatten.2 ⟨l,hl,hi⟩
  rw [hfl,lU]at this
  omega
 obtain⟨qs,hF⟩:=nmE (LL.zip CC)
 rw [<-hF]at hI hJ hp hQ
 simp only [<-hF]at ho
 have hS:(qs.map (·.1)).flatten=ixs 0 kids.length:=by rw [hJ];exact hfl
 obtain⟨q,hq⟩:∃q:Pl,q=⟨s0,row,wd,hgh,iw,ih,al,ac,kids⟩:=⟨_,rfl⟩
 rw [<-hq]at hQ
 obtain⟨D1,hN⟩:=nmE (yd q rtl I IN AC' ZZ S1 ST 0 qs)
 rw [<-hN]at hQ
 have xb:I.length<=1048576:=by omega
 have xc:DJ q=GP:=by rw [hq,hGP];rfl
 have xd:q.s.justify=s0.justify:=by rw [hq]
 have hu:=fun(zo c st lb:Int)(h1:0<=zo)(h2:CC[zo.toNat]? =some c)(h2':ST[zo.toNat]? =some st) PS vP h3 l h4 L vW h5 h5' h6 done h7 h8 E h9 Q' hQ'=>ED hg (Q:=Q') V rtl keeps n s0 row al ac KW w0 w1 h0' h1' K M A0 pM pA IN GP AC' vI vL vZ vS vC vT fl ft fr fb zo wd hgh iw ih kids hK ZZ CC ST PS S1 hvZ hvC hvT hvS vP h3 hzl hsl hf h1 c h2 st h2' lb l h4 L vW h5 h5' h6 done h7 h8 E h9 hQ'
 simp only [<-hq]at hu
 replace hH:=hI
 have pE:=pmV hE
 refine aV hg bn (by kernel_rfl) vL (fun t=>lnA t.1) qs hH hp (fun z(s:Int×List av×LLA)=>[(0,.p 0),(5,.p 3),(6,.p 4),(7,.p 5),(8,.p 6),(9,.v vI),(10,.v vZ),(11,.i (IN)),(12,.i (GP)),(13,.v vL),(14,.v vS),(15,.v vC),(16,.i (AC')),(18,.v vT),(19,.p 9),(20,.p 10),(21,.i (z))]) (fun z(s:Int×List av×LLA)=>[.bx 91 5 [.view V,.B rtl,.B keeps,.own 7,.own 8],.gn,.gn,.bx 180 68 (nwL n s0 row al ac KW (.view K)),.bx 122 2 [.J w0,.J w1],.bx 122 2 [.J h0',.J h1'],.bx 127 4 [.J 0,.J 0,.J 0,.N],.rw ⟨157,10,M⟩,.rw ⟨172,6,A0⟩,.bx 34 4 [.J fl,.J ft,.J fr,.J fb],.bx 127 4 [.J 0,.J 0,.J 0,.own 11],.rw ⟨45,5,s.2.2⟩]) (fun z(s:Int×List av×LLA)=>s.1=z/\s.2.2=vw av.c (s.2.1++List.replicate (kids.length-s.2.1.length) ⟨0,0,0,0,0⟩)) (fun(s:Int×List av×LLA) rest=>(s.2.1++yd q rtl I IN AC' ZZ S1 ST s.1 rest,ixs 0 s.2.1.length++(rest.map (·.1)).flatten)) ((D1,ixs 0 kids.length)) (0,[],E) (by rw [hN];exact Prod.ext rfl hS) ⟨rfl,hE⟩ (Wk.weak (wkM [some 0,none,none,some 3,some 4,some 5,some 6,some 7,some 8,some 9,some 10,some 11] ⟨rfl,rfl,rfl,rfl,rfl,rfl,rfl,rfl,rfl,rfl,rfl,rfl,rfl,rfl,rfl,rfl,rfl,zpt⟩ ⟨.inr (wqB rfl ⟨zr5,zpt⟩),.inl rfl,.inl rfl,.inr (wqE rfl rfl),.inr (wqE rfl rfl),.inr (wqE rfl rfl),.inr (wqE rfl rfl),.inr (wqE rfl pM),.inr (wqE rfl pA),.inr (wqE rfl rfl),.inr (wqB rfl ⟨zr4,zpt⟩),.inr (wqE rfl pE),zpt⟩ (by decide) ⟨.inl rfl,.inl rfl,.inr rfl,zpt⟩ ⟨.inl rfl,.inl rfl,.inr ⟨_,rfl⟩,zpt⟩)) (fun z s B hz h0 hi he=> ?_) (fun z s x rest B z0 z1 z2 hx hy h0 hi hc e1 hB=> ?_)
 ·obtain⟨k,D,E1⟩:=s
  obtain⟨i1,i2⟩:=hi
  obtain⟨ht,hj⟩:=Prod.mk.inj h0
  dsimp only at i1 i2
  obtain rfl:D=D1:=by simpa [yd]using ht
  have hZ:D.length=kids.length:=by
   have:=congrArg List.length hj
   simpa [bW]using this
  have hQ:=hQ z E1 (by rw [i2,hZ,Nat.sub_self,List.replicate_zero,zpr])
  cbv
  rw [he]
  cbv
  exact hQ
 ·obtain⟨k,done,E1⟩:=s
  obtain⟨l,c⟩:=x
  obtain⟨i1,i2⟩:=hi
  obtain⟨ht,hj⟩:=Prod.mk.inj h0
  dsimp only at i1 i2 hy ht hj
  subst i1
  obtain⟨L,hL⟩:=nmE (vw aj l)
  have xh:vL[k.toNat]? =some [.view L]:=by rw [hL];exact hy
  have hG:=ol hj
  rw [bW]at hG
  have hn:=my (l:=l) (ls:=rest.map (fun t:List Int×Int=>t.1)) hG.2.2
  have hd:l.length<=1048576:=zpb hn.1 (zpb (Nat.sub_le ..) hkl)
  have hA:=zqd (ho hx).1
  have hC:=hT l hA
  have hM:=pmV i2
  have hU:done.length+l.length<=kids.length:=by have:=hn.1;omega
  have hr:=hP I l xb hd
  have hs:=pr S1 l (by omega) hd (fun i hi=>by have:=hC i hi;omega)
  have hv:=nL (pck S1 l) (zpb (vu S1 l) hd)
  have hm:(l.map (elZ ZZ)).length<=1048576:=by rw [zql];exact hd
  have hh:=nG (lit I l) (l.map (elZ ZZ)) GP IN s0.justify (zpb rX hd) hm
  obtain⟨PS,hw⟩:=nmE (Ip q I IN ZZ l)
  have ha:alg (lit I l) (l.map (elZ ZZ)) GP IN s0.justify=PS:=by rw [hw];unfold Ip;rw [xc,xd]
  rw [ha]at hh
  have hR:PS.length=l.length:=by rw [<-ha,Fk (hal l hA),zql]
  obtain⟨lb,hb⟩:=nmE (bas (pck S1 l))
  rw [<-hb]at hv
  generalize hLI:vw af.c (lit I l)=LI at hr hh
  generalize hPK:vw aw.c (pck S1 l)=PK at hs hv
  rw [<-hvI,<-hL]at hr
  rw [<-hvS,<-hL]at hs
  obtain⟨W,hW⟩:=nmE (vw aj (l.map (elZ ZZ)))
  have xk:W.length=(l.map (elZ ZZ)).length:=by rw [hW,ar]
  have kW:=kmV (k:=1) hW fun _=>rfl
  have dW:=dmV hW
  rw [<-hW]at hh
  obtain⟨vP,hk⟩:=nmE (vw aj PS)
  have xg:=lmV hk
  have hX:=imV hk
  have xi:=kmV (k:=1) hk fun _=>rfl
  have hY:=dmV hk
  rw [<-hk]at hh
  have xf:∀i∈l,0<=i/\i<(ZZ.length:Int):=fun i hi=>by have:=hC i hi;omega
  have xe:k.toNat<CC.length:=(zqb.1 (ho hx).2).1
  obtain⟨st,hV⟩:∃v,ST[k.toNat]? =some v:=⟨_,zqc (by omega)⟩
  have hu:=hu k c st lb z0 (ho hx).2 hV PS vP hk l hR L W hL hW hd done (by simpa using hn.2.1) hU E1 i2
  have h3:∀D,D=done++sQ q rtl IN AC' ZZ S1 (elZ ST k) c lb PS 0 l->(D++yd q rtl I IN AC' ZZ S1 ST (k+1) rest,ixs 0 D.length++(rest.map (·.1)).flatten)=(D1,ixs 0 kids.length):=fun D hD=>Prod.ext (by
   rw [<-ht,hD,hb,hw,zqC];rfl) (by
   show ixs 0 D.length++(rest.map (·.1)).flatten=ixs 0 kids.length
   rw [<-hj,hD,zqe,mB,ki,zqC]
   congr 1
   rw [zqA,List.flatten_cons]
   congr 1
   exact hn.2.1.symm)
  clear hG hn hU hj hS hJ ho hI hq hF hC hT ha hw hb hvI hvS hm hA hal hR xe hV
  cbv
  rw [hc]
  cbv
  refine goX hg _ z0 xh rfl ?_
  cbv
  refine lO hg (mE (jx f148) 1) (by kernel_rfl) [(0,.p 0),(5,.p 3),(6,.p 4),(7,.p 5),(8,.p 6),(9,.v vI),(10,.v vZ),(11,.i (IN)),(12,.i (GP)),(13,.v vL),(14,.v vS),(15,.v vC),(16,.i (AC')),(18,.v vT),(19,.p 9),(20,.p 10),(21,.i (k)),(22,.v L),(23,.o 12),(24,.i (0))] [.bx 91 5 [.view V,.B rtl,.B keeps,.own 7,.own 8],.gn,.gn,.bx 180 68 (nwL n s0 row al ac KW (.view K)),.bx 122 2 [.J w0,.J w1],.bx 122 2 [.J h0',.J h1'],.bx 127 4 [.J 0,.J 0,.J 0,.N],.rw ⟨157,10,M⟩,.rw ⟨172,6,A0⟩,.bx 34 4 [.J fl,.J ft,.J fr,.J fb],.bx 127 4 [.J 0,.J 0,.J 0,.own 11],.rw ⟨45,5,E1⟩,.rw ⟨3,1,[]⟩] (Wk.weak (wkM [some 0,none,none,some 3,some 4,some 5,some 6,some 7,some 8,some 9,some 10,some 11,some 12] ⟨rfl,rfl,rfl,rfl,rfl,rfl,rfl,rfl,rfl,rfl,rfl,rfl,rfl,rfl,rfl,rfl,rfl,rfl,rfl,rfl,zpt⟩ ⟨.inr (wqB rfl ⟨zr5,zpt⟩),.inl rfl,.inl rfl,.inr (wqE rfl rfl),.inr (wqE rfl rfl),.inr (wqE rfl rfl),.inr (wqE rfl rfl),.inr (wqE rfl pM),.inr (wqE rfl pA),.inr (wqE rfl rfl),.inr (wqB rfl ⟨zr4,zpt⟩),.inr (wqE rfl hM),.inr (wqE rfl rfl),zpt⟩ (by decide) ⟨.inl rfl,.inl rfl,.inr rfl,zpt⟩ ⟨.inl rfl,.inl rfl,.inr ⟨_,rfl⟩,zpt⟩)) ?_
  refine EG hg V rtl keeps n s0 row al ac KW w0 w1 h0' h1' K M A0 pM pA IN GP AC' vI vL vZ vS vC vT fl ft fr fb k E1 hM ZZ hvZ l L hL hd xf fun z2 E2 xa=> ?_
  obtain rfl:W=E2:=by rw [xa,hW]
  cbv
  (repeat'((first|refine aa hg hr ?_|refine ad hg hs ?_|refine ad hg hv ?_|refine bS hg hh (ah (aq rfl) (ah (aX (ab:=⟨_,_,W⟩) rfl kW dW) (ah (aq rfl) (ah (aq rfl) (ah (aq rfl) (ay)))))) hX ?_);cbv))
  refine lO hg (mE (jx f148) 2) (by kernel_rfl) [(0,.p 0),(5,.p 3),(6,.p 4),(7,.p 5),(8,.p 6),(9,.v vI),(10,.v vZ),(11,.i (IN)),(12,.i (GP)),(13,.v vL),(14,.v vS),(15,.v vC),(16,.i (AC')),(18,.v vT),(19,.p 9),(20,.p 10),(21,.i (k)),(22,.v L),(23,.v W),(25,.v vP),(26,.i (lb)),(27,.i (0))] [.bx 91 5 [.view V,.B rtl,.B keeps,.own 7,.own 8],.gn,.gn,.bx 180 68 (nwL n s0 row al ac KW (.view K)),.bx 122 2 [.J w0,.J w1],.bx 122 2 [.J h0',.J h1'],.bx 127 4 [.J 0,.J 0,.J 0,.N],.rw ⟨157,10,M⟩,.rw ⟨172,6,A0⟩,.bx 34 4 [.J fl,.J ft,.J fr,.J fb],.bx 127 4 [.J 0,.J 0,.J 0,.own 11],.rw ⟨45,5,E1⟩] (bG (sl2 12 13 W vP) (GL rfl kW dW rfl xi hY) (Wk.weak (wkM [some 0,none,none,some 3,some 4,some 5,some 6,some 7,some 8,some 9,some 10,some 11] ⟨rfl,rfl,rfl,rfl,rfl,rfl,rfl,rfl,rfl,rfl,rfl,rfl,rfl,rfl,rfl,rfl,rfl,rfl,rfl,rfl,rfl,rfl,zpt⟩ ⟨.inr (wqB rfl ⟨zr5,zpt⟩),.inl rfl,.inl rfl,.inr (wqE rfl rfl),.inr (wqE rfl rfl),.inr (wqE rfl rfl),.inr (wqE rfl rfl),.inr ⟨_,_,rfl,rfl,rfl,rfl,.inl (bD pM)⟩,.inr ⟨_,_,rfl,rfl,rfl,rfl,.inl (bD pA)⟩,.inr (wqE rfl rfl),.inr (wqB rfl ⟨zr4,zpt⟩),.inr ⟨_,_,rfl,rfl,rfl,rfl,.inl (bD hM)⟩,zpt⟩ (by decide) ⟨.inl rfl,.inl rfl,.inr rfl,zpt⟩ ⟨.inl rfl,.inl rfl,.inr ⟨_,rfl⟩,zpt⟩))) ?_
  refine hu _ fun z3 E3 D hD hO=> ?_
  have xj:=pmV hO
  cbv
  ((repeat'(rw [e1];cbv)))
  skip
  exact hB ((k+1,D,E3)) _ _ ⟨h3 D hD,⟨rfl,hO⟩⟩ (Wk.weak (wkM [some 0,none,none,some 3,some 4,some 5,some 6,some 7,some 8,some 9,some 10,some 11] ⟨rfl,rfl,rfl,rfl,rfl,rfl,rfl,rfl,rfl,rfl,rfl,rfl,rfl,rfl,rfl,rfl,rfl,zpt⟩ ⟨.inr (wqB rfl ⟨zr5,zpt⟩),.inl rfl,.inl rfl,.inr (wqE rfl rfl),.inr (wqE rfl rfl),.inr (wqE rfl rfl),.inr (wqE rfl rfl),.inr (wqE rfl pM),.inr (wqE rfl pA),.inr (wqE rfl rfl),.inr (wqB rfl ⟨zr4,zpt⟩),.inr (wqE rfl xj),zpt⟩ (by decide) ⟨.inl rfl,.inl rfl,.inr rfl,zpt⟩ ⟨.inl rfl,.inl rfl,.inr ⟨_,rfl⟩,zpt⟩))
theorem Hp{xs:List Int}{i:Int}(h:i∉xs):cnt xs i=0:=by
 induction xs with
 |nil=>rfl
 |cons x xs ih=>
  have e:cnt (x::xs) i=(if x=i then 1 else 0)+cnt xs i:=by simp [cnt]
  rw [e,ih (fun hm=>h (zpe _ hm)),if_neg (fun hx=>h (by rw [hx];exact zpd ..))]
  rfl
variable {l:List Int}{LL:List (List Int)}{k:Int}
theorem FN{i:Int}(h:i∈l):qM i k (l::LL)=k:=by
 have:=(Gf l i).2 h
 simp only [qM]
 rw [if_pos (by omega)]
theorem CP{i:Int}(h:i∉l):qM i k (l::LL)=qM i (k+1) LL:=by
 simp only [qM]
 rw [Hp h,if_neg (by omega)]
theorem FO{i:Int}:∀(LL:List (List Int))(k:Int),i∈LL.flatten->k<=qM i k LL/\qM i k LL<k+(LL.length:Int)
 | [],k,h=>by simp at h
 |l::LL,k,h=>by
  by_cases hm:i∈l
  ·rw [FN hm];simp only [zqx];omega
  ·rw [CP hm]
   have:=FO LL (k+1) (by rw [List.flatten_cons]at h;exact(List.mem_append.1 h).resolve_left hm)
   simp only [zqx];omega
theorem Hj(P:List Int)(c:Int)(C:List Int):elZ (P++c::C) (P.length:Int)=c:=oG (by rw [zqg (zpk _)];simp)
theorem F9{α:Type}(f:Int->Int->α):∀(LL:List (List Int))(CC P:List Int)(m n:Nat),CC.length=LL.length->LL.flatten=ixs m n->(ixs m n).map (fun i=>f (elZ (P++CC) (qM i (P.length:Int) LL)) i)=(LL.zip CC).flatMap fun q=>q.1.map (f q.2)
 | [],CC,P,m,n,hc,hf=>by rw [<-hf];rfl
 |l::LL,[],P,m,n,hc,hf=>by simp at hc
 |l::LL,c::CC,P,m,n,hc,hf=>by
  obtain⟨h1,h2,h3⟩:=my hf
  have e:ixs (m:Int) n=l++LL.flatten:=by rw [<-hf,List.flatten_cons]
  rw [e,List.map_append,List.zip_cons_cons,List.flatMap_cons]
  congr 1
  ·refine zpl fun i hi=> ?_
   rw [FN hi,Hj]
  ·have h4:LL.flatten=ixs ((m+l.length:Nat):Int) (n-l.length):=by rw [h3,Int.natCast_add]
   have:=F9 f LL CC (P++[c]) (m+l.length) (n-l.length) (by simpa using hc) h4
   rw [<-this,<-h4]
   refine zpl fun i hi=> ?_
   have ha:i∉l:=fun hm=>by
    rw [h2,lU]at hm
    rw [h4,lU]at hi
    omega
   rw [CP ha,zqC,zqe,zqm]
   rfl
theorem Hh{α:Type}(f:Int->Int->α)(LL:List (List Int))(CC:List Int)(n:Nat)(hc:CC.length=LL.length)(hf:LL.flatten=ixs 0 n):(ixs 0 n).map (fun i=>f (elZ CC (qM i 0 LL)) i)=(LL.zip CC).flatMap fun q=>q.1.map (f q.2):=F9 f LL CC [] 0 n hc hf
theorem yN{V:LLA}{rtl keeps:Bool}{bx:Bx}{c L:Nat}(p:Pl)(ns:List ae):∀(ks:List Int)(st:St),(∀k∈ks,zk V rtl keeps bx c L k)->(mA bx p rtl ns ks st).1.length=ks.length/\(mA bx p rtl ns ks st).2.1.length<=st.1.length+ks.length*c/\(mA bx p rtl ns ks st).2.2.length<=st.2.length+ks.length*c
 | [],st,_=>by simp [mA]
 |k::r,st,h=>by
  have h1:=Dw (h k (zpd ..)) p ns st
  have h2:=yN p ns r (xT bx p rtl ns k st).2 (fun x hx=>h x (zpe _ hx))
  have e:(k::r).length*c=r.length*c+c:=by rw [zqx,Nat.succ_mul]
  rw [e]
  simp only [mA,zqx]
  refine⟨by rw [h2.1],?_,?_⟩
  ·exact zpb h2.2.1 (zpb (Nat.add_le_add_right h1.1 _) (Nat.le_of_eq (by rw [Nat.add_assoc,Nat.add_comm c])))
  ·exact zpb h2.2.2 (zpb (Nat.add_le_add_right h1.2 _) (Nat.le_of_eq (by rw [Nat.add_assoc,Nat.add_comm c])))
theorem yr{V:LLA}{rtl keeps:Bool}{bx:Bx}{c L:Nat}(p:Pl)(ns:List ae):∀(ks:List (Int×Int))(st:St),(∀k∈ks,zk V rtl keeps bx c L k.1)->(vk bx p rtl ns ks st).1.length=ks.length/\(vk bx p rtl ns ks st).2.1.length<=st.1.length+ks.length*c/\(vk bx p rtl ns ks st).2.2.length<=st.2.length+ks.length*c
 | [],st,_=>by simp [vk]
 |(k,z)::r,st,h=>by
  have h1:=zg (h (k,z) (zpd ..)) p.row ⟨3,z⟩ (BR p (kst ns k) rtl z) st
  have h2:=yr p ns r (uQ bx p.row k ⟨3,z⟩ (BR p (kst ns k) rtl z) st).2 (fun x hx=>h x (zpe _ hx))
  have e:((k,z)::r).length*c=r.length*c+c:=by rw [zqx,Nat.succ_mul]
  rw [e]
  simp only [vk,zqx]
  refine⟨by rw [h2.1],?_,?_⟩
  ·exact zpb h2.2.1 (zpb (Nat.add_le_add_right h1.1 _) (Nat.le_of_eq (by rw [Nat.add_assoc,Nat.add_comm c])))
  ·exact zpb h2.2.2 (zpb (Nat.add_le_add_right h1.2 _) (Nat.le_of_eq (by rw [Nat.add_assoc,Nat.add_comm c])))
variable {cs:List Int}{gap inner ct:Int}
theorem Ec(h:acr cs gap inner=true):(pll cs gap inner ct).length=cs.length:=by
 unfold pll
 rw [if_neg (by rw [h];simp),yy]
theorem sX(ns:List ae)(hl:ns.length<=1048576)(rtl keeps:Bool)(bx:Bx)(c L:Nat)(n:Int)(p:Pl)(w0 w1 h0' h1':Int)(hpw:p.w=⟨w0,w1⟩)(hph:p.h=⟨h0',h1'⟩)(hkn:p.kids≠[])(hkl:p.kids.length<20)(hk:∀kid∈p.kids,isN ns kid=true)(hbx:∀kid∈p.kids,zk (vwA ae.ac ns) rtl keeps bx c L kid)(st:St)(hm:st.1.length+40*c<=L)(hq:st.2.length+40*c<=L)
  (hal:∀l∈nr p (mA bx p rtl ns p.kids st).1,al5 (lit (mA bx p rtl ns p.kids st).1 l) (l.map (elZ (sU p (mA bx p rtl ns p.kids st).1))) (DJ p) (DI p (mA bx p rtl ns p.kids st).1)=true)
  (hf:∀cs,cs=yZ p (nr p (mA bx p rtl ns p.kids st).1) (vk bx p rtl ns (p.kids.zip (sU p (mA bx p rtl ns p.kids st).1)) (mA bx p rtl ns p.kids st).2).1->acr cs (uE p) (AW p cs)=true):
  SE prog 148 (sR (vwA ae.ac ns) rtl keeps) (SM st.1) (SA st.2) [.c (.ptr 0 0 0),.agg (nwL n p.s p.row p.al p.ac (knS p.wide) (.view (vw aj p.kids))),agP ⟨w0,w1⟩,agP ⟨h0',h1'⟩] (.t (.agg (jQ.ac (EJ bx p rtl ns st).1))) (SM (EJ bx p rtl ns st).2.1) (SA (EJ bx p rtl ns st).2.2):=by
 have cI:=rd ns hl rtl keeps bx c L n p hkl hk hbx st (by omega) (by omega)
 have hb:=yN p ns p.kids st hbx
 have xt:p.kids.length*c<=20*c:=zpf c (by omega)
 obtain⟨ra,x3⟩:=nmE (mA bx p rtl ns p.kids st)
 unfold EJ
 dsimp only
 rw [<-x3]at cI hb hal hf⊢
 obtain⟨I,hD⟩:=ra
 dsimp only at cI hb hal hf⊢
 have hp:=hb.1
 have hL:I.length<=1048576:=by omega
 have hC:=uW p I
 have cS:=nB ns hl rtl keeps bx c L n p (sU p I) hkl (by rw [hC,hp]) hk hbx hD (by omega) (by omega)
 obtain⟨rb,xA⟩:=nmE (vk bx p rtl ns (p.kids.zip (sU p I)) hD)
 have ha:rb.1.length=p.kids.length:=by
  have:=(yr (V:=vwA ae.ac ns) (rtl:=rtl) (keeps:=keeps) (c:=c) (L:=L) p ns (p.kids.zip (sU p I)) hD (fun k ya=>hbx k.1 (by obtain⟨i,hi⟩:=List.mem_iff_getElem?.1 ya;exact zqd (BS (by obtain⟨a,b⟩:=k;exact hi)).1))).1
  rw [<-xA,zqB,hC,hp,Nat.min_self]at this
  exact this
 rw [<-xA]at cS hf⊢
 obtain⟨S0,x5⟩:=rb
 dsimp only at cS hf ha⊢
 obtain⟨s0,row,wd,yu,iw,ih,al,ac,kids⟩:=p
 dsimp only at hpw hph hkn hkl hk hbx hp hb ha cI cS
 subst hpw hph
 obtain⟨q,he⟩:∃q:Pl,q=⟨s0,row,⟨w0,w1⟩,⟨h0',h1'⟩,iw,ih,al,ac,kids⟩:=⟨_,rfl⟩
 rw [<-he]at hal hf hC cS⊢
 have hn:q.kids=kids:=by rw [he]
 have ht:kids.length<=1048576:=by omega
 have hW:(sU q I).length=kids.length:=by rw [hC,hp]
 have cZ:=qY n s0 row al ac (knS iw) (vw aj kids) I hL
 have cN:=lv n s0 row al ac (knS iw) (vw aj kids) I hL
 have h2:nr q I=lns I (jA s0 row) (lj al) (!decide (s0.wrap=1)):=by rw [he];rfl
 have yb:DI q I=tak al (lng I (jA s0 row) (lj al) (!decide (s0.wrap=1))):=by rw [he];rfl
 have yc:sU q I=lsz I (jA s0 row) (lj al) (!decide (s0.wrap=1)) (tak al (lng I (jA s0 row) (lj al) (!decide (s0.wrap=1)))):=by rw [he];rfl
 rw [<-yc]at cZ
 rw [<-yb]at cN
 have hz:(nr q I).flatten=ixs 0 kids.length:=by rw [h2,mu,hp]
 have hZ:(nr q I).length<=64:=by rw [h2];exact zpb (nq ..) (by omega)
 have hY:∀l∈nr q I,l.length<=1048576/\∀i∈l,0<=i/\i<(S0.length:Int):=fun l hm=>by
  rw [h2]at hm
  exact⟨zpb (ka hm) hL,fun i hi=>by have:=vD hm hi;omega⟩
 have hh:=ji I (jA s0 row) (lj al) (!decide (s0.wrap=1)) hL
 rw [<-h2]at hh
 have cC:=oO n s0 row al ac (knS iw) (vw aj kids) (nr q I) S0 (by omega) hZ hY
 have ye:yZ q (nr q I) S0=E8 s0 row ac (nr q I) S0:=by rw [he];rfl
 rw [<-ye]at cC
 have hs:(yZ q (nr q I) S0).length=(nr q I).length:=wC q _ _ hZ
 have hf:=hf _ rfl
 have xX:DJ q=jA s0 row:=by rw [he];rfl
 have xY:uE q=jA s0 (!row):=by rw [he];rfl
 unfold JF
 dsimp only
 obtain⟨LL,xS⟩:=nmE (nr q I)
 obtain⟨ZZ,xV⟩:=nmE (sU q I)
 obtain⟨IN,xQ⟩:=nmE (DI q I)
 rw [<-xS]at hz hZ hY cC hs hh hal hf⊢
 rw [<-xV]at hW cZ cS hal⊢
 rw [<-xQ]at cN hal⊢
 obtain⟨CC,xM⟩:=nmE (yZ q LL S0)
 rw [<-xM]at hs cC hf⊢
 obtain⟨S1,xr⟩:=nmE (Df q ns S0 ZZ (LL.zip CC))
 have xu:(ixs 0 S0.length).map (fun i=>yV q ns S0 ZZ (elZ CC (qM i 0 LL)) i)=S1:=by rw [xr,ha];exact Hh (yV q ns S0 ZZ) LL CC kids.length hs hz
 have xZ:∀i:Int,0<=i->i<(q.kids.length:Int)->0<=qM i 0 LL/\qM i 0 LL<(CC.length:Int):=fun i h0 h1=>by
  rw [hn]at h1
  have:=FO LL 0 (show i∈LL.flatten by rw [hz,lU];omega)
  omega
 have cF:=fun C D=>p9 ns hl rtl keeps C D n q (by rw [hn];exact ht) (by rw [hn];exact hk) LL CC S0 ZZ (by rw [hn];exact ha) (by rw [hn];exact hW) (by omega) (fun l hm=>(hY l hm).1) xZ
 simp only [xu]at cF
 have hA:S1.length=kids.length:=by rw [<-xu,zql,bW,ha]
 rw [<-xr]
 obtain⟨am,an⟩:=ac
 obtain⟨lm,ln⟩:=al
 have cG:=gV s0 row
 have hw:=gV s0 (!row)
 have cT:=gk CC (uE q) (by rw [hs];omega)
 have cK:=dP am an (crt CC (uE q))
 have x0:AW q CC=tak ⟨am,an⟩ (crt CC (uE q)):=by rw [he];rfl
 rw [<-x0]at cK
 have cL:=oS CC (uE q) (AW q CC) (ctP q) (by omega)
 have xv:ctP q=if s0.wrap=1 then 2 else s0.content:=by rw [he];rfl
 have xw:HH q CC=pll CC (uE q) (AW q CC) (ctP q):=rfl
 rw [<-xw]at cL
 have hr:(HH q CC).length=CC.length:=by rw [xw];exact Ec hf
 rw [<-xY]at hw
 rw [xX]at hal
 obtain⟨GP,xo⟩:=nmE (jA s0 row)
 rw [<-xo]at cG hh hal
 obtain⟨GC,xP⟩:=nmE (uE q)
 obtain⟨hv,xL⟩:=nmE (AW q CC)
 obtain⟨ST,xT⟩:=nmE (HH q CC)
 rw [<-xP]at hw cT cK cL
 rw [<-xL]at cK cL⊢
 rw [<-xT]at cL hr⊢
 obtain⟨TT,xU⟩:=nmE (crt CC GC)
 rw [<-xU]at cT cK
 have xb:=iq lm ln
 generalize hRM:lj ⟨lm,ln⟩=RM at xb hh
 obtain⟨wr,xF⟩:=nmE ((!decide (s0.wrap=1)))
 rw [<-xF]at hh
 obtain⟨V,hV⟩:=nmE (vwA ae.ac ns)
 have x8:∀zs,zs=sU q I->True:=fun _ _=>trivial
 have yf:q.s=s0/\q.row=row/\q.al=⟨lm,ln⟩/\q.ac=⟨am,an⟩/\q.wide=iw/\q.w=⟨w0,w1⟩/\q.h=⟨h0',h1'⟩:=by rw [he];exact⟨rfl,rfl,rfl,rfl,rfl,rfl,rfl⟩
 obtain⟨h4,h3,xy,xx,xz,x2,x1⟩:=yf
 rw [h4,h3,xy,xx,xz,hn]
 simp only [h4,h3,xy,xx,xz,hn]at cF
 simp only [<-hV]at cF
 rw [<-hV]at cI cS⊢
 generalize hM:knS iw=KW at cI cS cZ cN cC;replace hM:=hM.symm
 simp only [<-hM]at cF
 obtain⟨K,hK⟩:=nmE (vw aj kids)
 have xR:=lmV hK
 rw [<-hK]at cI cS cZ cN cC⊢
 simp only [<-hK]at cF
 obtain⟨vI,xB⟩:=nmE (vw af.c I)
 have yi:=lmV xB
 rw [<-xB]at cI cZ cN hh
 obtain⟨vZ,h6⟩:=nmE (vw aj ZZ)
 have yl:=lmV h6
 rw [<-h6]at cZ cS
 simp only [<-h6]at cF
 obtain⟨vS,xD⟩:=nmE (vw aw.c S0)
 have yj:=lmV xD
 rw [<-xD]at cS cC
 simp only [<-xD]at cF
 obtain⟨vC,h5⟩:=nmE (vw aj CC)
 have yg:=lmV h5
 rw [<-h5]at cC cT cL
 simp only [<-h5]at cF
 obtain⟨vL,xC⟩:=nmE (vwA lnA LL)
 rw [<-xC]at hh cC
 simp only [<-xC]at cF
 obtain⟨vT,xE⟩:=nmE (vw aj ST)
 have yk:=lmV xE
 rw [<-xE]at cL
 obtain⟨h8,hc⟩:=nmE (vw aw.c S1)
 have x4:=lmV hc
 have xG:=imV hc
 have xH:=kmV (k:=7) hc fun _=>rfl
 have xe:=dmV hc
 simp only [<-hc]at cF
 have xa:=fz s0
 obtain⟨fe,hX⟩:=nmE (l7 s0)
 rw [<-hX]at xa
 obtain⟨fl,ft,fr,fb⟩:=fe
 obtain⟨M0,hN⟩:=nmE (SM st.1)
 obtain⟨A0,hI⟩:=nmE (SA st.2)
 obtain⟨M1,hP⟩:=nmE (SM hD.1)
 obtain⟨A1,hJ⟩:=nmE (SA hD.2)
 obtain⟨M2,hy⟩:=nmE (SM x5.1)
 obtain⟨A2,hx⟩:=nmE (SA x5.2)
 have yq:az M0=true:=by rw [hN];exact bT _
 have yn:az A0=true:=by rw [hI];exact bU _
 have ys:az M1=true:=by rw [hP];exact bT _
 have yo:az A1=true:=by rw [hJ];exact bU _
 have xJ:az M2=true:=by rw [hy];exact bT _
 have xI:az A2=true:=by rw [hx];exact bU _
 have kM:∀y∈M2,y.length=10:=by rw [hy];exact JN _
 have dM:∀y∈M2,y.all dat=true:=by rw [hy];exact AX _
 have kA:∀y∈A2,y.length=6:=by rw [hx];exact JO _
 have dA:∀y∈A2,y.all dat=true:=by rw [hx];exact AY _
 have cF:=cF (.view M2) (.view A2)
 rw [<-hN,<-hI,<-hP,<-hJ]at cI
 rw [<-hP,<-hJ,<-hy,<-hx]at cS
 rw [<-hN,<-hI,<-hy,<-hx]
 have hO:=fun(g:Gd)(hg:g= @G0 bp0 prog 3 f148.ntmps)(Q':Exit->List (Nat×AV)->EH->Prop) E hE hQ'=>EC hg (Q:=Q') V rtl keeps n s0 row ⟨lm,ln⟩ ⟨am,an⟩ KW w0 w1 h0' h1' K M2 A2 xJ xI IN GP hv vI vL vZ h8 vC vT fl ft fr fb ⟨w0,w1⟩ ⟨h0',h1'⟩ iw ih kids hK ht I xB hp ZZ CC ST S1 h6 h5 xE hc hr hW hA hX.symm xo LL xC (by omega) hs hz hal E hE hQ'
 rw [<-he]at hO
 obtain⟨FF,xn⟩:=nmE (yd q rtl I IN hv ZZ S1 ST 0 (LL.zip CC))
 have xO:FF.length=kids.length:=by rw [xn,wt,fG hs,hz,bW]
 rw [<-xn]at hO⊢
 have yx:0<kids.length:=List.length_pos_iff.2 hkn
 obtain⟨f0,FT,xk⟩:∃f t,FF=f::t:=by
  cases FF with
  |nil=>simp at xO;omega
  |cons a b=>exact⟨_,_,rfl⟩
 obtain⟨h7,hu⟩:∃y,S1[(0:Int).toNat]? =some y:=⟨_,zqc (by show 0<S1.length;omega)⟩
 have hB:sdZ S1 0=h7:=xi (zpc 0) hu
 obtain⟨vF,ho⟩:=nmE (vw av.c FF)
 have yh:=lmV ho
 have ym:=kmV (k:=5) ho fun _=>rfl
 have x6:=dmV ho
 have pF:=pmV ho
 have xm:vF[(0:Int).toNat]? =some (lc (av.c f0)):=by rw [ho,xk];rfl
 have xl:(0:Int)<aJ vF:=by rw [ho,aR];omega
 have xq:h8[(0:Int).toNat]? =some (lc (aw.c h7)):=by rw [hc];exact aY hu
 have hH:=fk fl ft fr fb
 have hG:=fo fl ft fr fb
 obtain⟨B1,xf⟩:=nmE (adE fl fr)
 obtain⟨B2,xg⟩:=nmE (adE ft fb)
 change PC0 _ _ (.i (adE fl fr))at hH
 change PC0 _ _ (.i (adE ft fb))at hG
 rw [<-xf]at hH
 rw [<-xg]at hG
 obtain⟨XW,hU⟩:=nmE ((if row then IN else hv))
 obtain⟨XH,hT⟩:=nmE ((if row then hv else IN))
 obtain⟨W1,xs⟩:=nmE (wrap64 (XW+B1))
 obtain⟨H1,xp⟩:=nmE (wrap64 (XH+B2))
 obtain⟨BB,xj⟩:=nmE (wrap64 (f0.y+h7.base))
 have xc:=dP w0 w1 W1
 have xd:=dP h0' h1' H1
 have h9:=aI BB
 generalize hQ:tak ⟨w0,w1⟩ W1=R1 at xc;replace hQ:=hQ.symm
 generalize hR:tak ⟨h0',h1'⟩ H1=R2 at xd;replace hR:=hR.symm
 generalize hS:cl BB=R3 at h9;replace hS:=hS.symm
 have xW:jQ.ac (Gl q IN hv FF S1)=[.J R1,.J R2,.J R3,.view vF]:=by
  rw [hQ,hR,hS,xs,xp,xj,hU,hT,xf,xg,ho]
  unfold Gl
  rw [h4,x2,x1,h3,<-hX,hB,xk]
  rfl
 rw [xW]
 refine xh (t:=45) (k:=5) (V:=vF) (R:= .t (.agg [.J R1,.J R2,.J R3,.own 5])) ?_ ym x6 rfl rfl rfl
 have xK:∀g:Gd,g=G0 prog 3 f148.ntmps->g .rp (g .ln K) [.J 0,.J 0,.J 0,.J 0,.J 0]=vw av.c (List.replicate kids.length ⟨0,0,0,0,0⟩):=fun g hg=>by
  rw [yP hg,bu hg,hK,aR,Int.toNat_natCast];exact qT av.c kids.length ⟨0,0,0,0,0⟩
 have xR:K.length<=1048576:=by rw [hK,ar];exact ht
 have t0:∀g:Gd,g=G0 prog 3 f148.ntmps->g .q .neq s0.wrap 1=wr:=fun g hg=>by rw [bB hg,xF];exact(dN _ _).trans (by simp)
 have te:∀g:Gd,g=G0 prog 3 f148.ntmps->g .q .eql s0.wrap 1=decide (s0.wrap=1):=fun g hg=>by rw [bg hg];exact zqn _ _
 have t1:∀g:Gd,g=G0 prog 3 f148.ntmps->g .w .add .i64 XW B1=W1:=fun g hg=>by rw [aG hg,xs]
 have t2:∀g:Gd,g=G0 prog 3 f148.ntmps->g .w .add .i64 XH B2=H1:=fun g hg=>by rw [aG hg,xp]
 have t3:∀g:Gd,g=G0 prog 3 f148.ntmps->g .w .add .i64 f0.y h7.base=BB:=fun g hg=>by rw [aG hg,xj]
 clear xW hQ hR hS xs xp xj xf xg hX h4 h3 xy xx xz x2 x1 hB xk xO xn xr hu hA hp hW hZ hY hz hs xU xP xL xT xQ he xZ xu hr hal hf xF xX xY x0 xw x8 hn xS xV xM hC ha hb x3 xA xt hN hI hP hJ hy hx hM hRM hV xo hbx hk hm hq
 refine mL [] func148 (fun g yt hd F x9 yv hg hF=> ?_)
 have t0:=t0 g hg
 have te:=te g hg
 have t1:=t1 g hg
 have t2:=t2 g hg
 have t3:=t3 g hg
 have xK:=xK g hg
 have hO:=hO g hg
 cbv
 ((repeat'((first|rw [t0]|refine ad hg cZ ?_|refine ad hg cN ?_|refine ad hg cG ?_|refine aa hg xb ?_|refine aa hg hh ?_|refine ad hg cC ?_|refine aa hg hw ?_|refine aa hg cT ?_|refine aa hg cK ?_|refine je rfl hg 0 1 2 cI rfl rfl rfl (by decide) rfl yq yn ⟨rfl,.inl ⟨rfl,rfl⟩,zpt⟩ rfl ?_|refine je rfl hg 0 7 8 cS rfl rfl rfl (by decide) rfl ys yo ⟨rfl,.inl ⟨rfl,rfl⟩,rfl,zpt⟩ rfl ?_|refine bI hg cF (dx (qk (r:=0) (rm:=9) (ra:=10) [.view V,.B rtl,.B keeps] rfl rfl rfl kM dM rfl kA dA) (bq rfl (ah (aq rfl) (ah (aq rfl) (ah (aq rfl) (ah (aq rfl) ay)))))) xG ?_);cbv)))
 by_cases hw1:s0.wrap=1
 all_goals
  first|rw [if_pos hw1]at xv|rw [if_neg hw1]at xv
  rw [xv]at cL
  first|rw [zqu hw1]at te|rw [zqt hw1]at te
  ((repeat'((first|rw [te]|refine ad hg hw ?_|refine ad hg cL ?_|refine ad hg xa ?_);cbv)))
  refine F6 hg (by decide) xR ?_
  cbv
  generalize hE0:g .rp (g .ln K) _=E3
  have xN:E3=vw av.c (List.replicate kids.length ⟨0,0,0,0,0⟩):=by rw [<-hE0];exact xK
  clear hE0
  have yp:=pmV xN
  refine lO hg (mE (jx f148) 0) (by kernel_rfl) [(0,.p 0),(5,.p 3),(6,.p 4),(7,.p 5),(8,.p 6),(9,.v vI),(10,.v vZ),(11,.i (IN)),(12,.i (GP)),(13,.v vL),(14,.v h8),(15,.v vC),(16,.i (hv)),(18,.v vT),(19,.p 9),(20,.p 10),(21,.i (0))] [.bx 91 5 [.view V,.B rtl,.B keeps,.own 7,.own 8],.gn,.gn,.bx 180 68 (nwL n s0 row ⟨lm,ln⟩ ⟨am,an⟩ KW (.view K)),.bx 122 2 [.J w0,.J w1],.bx 122 2 [.J h0',.J h1'],.bx 127 4 [.J 0,.J 0,.J 0,.N],.rw ⟨157,10,M2⟩,.rw ⟨172,6,A2⟩,.bx 34 4 [.J fl,.J ft,.J fr,.J fb],.bx 127 4 [.J 0,.J 0,.J 0,.own 11],.rw ⟨45,5,E3⟩] (bG (sl1 11 h8) (jE rfl xH xe) (Wk.weak (wkM [some 0,none,none,some 3,some 4,some 5,some 6,some 9,some 10,some 12,some 14,some 13] ⟨rfl,rfl,rfl,rfl,rfl,rfl,rfl,rfl,rfl,rfl,rfl,rfl,rfl,rfl,rfl,rfl,rfl,zpt⟩ ⟨.inr (wqB rfl ⟨zr5,zpt⟩),.inl rfl,.inl rfl,.inr (wqE rfl rfl),.inr (wqE rfl rfl),.inr (wqE rfl rfl),.inr (wqE rfl rfl),.inr ⟨_,_,rfl,rfl,rfl,rfl,.inl (bD xJ)⟩,.inr ⟨_,_,rfl,rfl,rfl,rfl,.inl (bD xI)⟩,.inr (wqE rfl rfl),.inr (wqB rfl ⟨zr4,zpt⟩),.inr ⟨_,_,rfl,rfl,rfl,rfl,.inl (bD yp)⟩,zpt⟩ (by decide) ⟨.inl rfl,.inl rfl,.inr rfl,zpt⟩ ⟨.inl rfl,.inl rfl,.inr ⟨_,rfl⟩,zpt⟩))) ?_
  refine hO _ E3 xN fun z2 E2 x7=> ?_
  obtain rfl:vF=E2:=by rw [x7,ho]
  cbv
  cases row
  all_goals
   (try simp only [Bool.false_eq_true,if_false]at hU hT)
   (try simp only [if_true]at hU hT)
   subst hU hT
   (try cbv)
   ((repeat'((first|rw [t1]|rw [t2]|rw [t3]|refine aa hg hH ?_|refine aa hg hG ?_|refine aa hg xc ?_|refine aa hg xd ?_|refine aa hg h9 ?_|refine goX hg _ (zpc 0) xq rfl ?_|refine goY hg (zpc 0) xl fun j hj yw=> ?_;subst hj|refine⟨_,xm,?_⟩);cbv)))
   exact Dc 7 8 11 hF rfl (.inr zr4) rfl rfl rfl rfl (by decide) rfl xJ xI pF
theorem HD(qs:List lh)(x:lh):SA (qs++[x])=SA qs++[lc (lh.c x)]:=bi _ _ _
theorem wU{α:Type}(c:α->Array Value):vw c ([]:List α)=[]:=rfl
theorem sW(ns:List ae)(hl:ns.length<=1048576)(hs:∀y∈ns,ae.small y)(ht:dy ns=true)(rtl keeps:Bool)(bx:Bx)(c L:Nat)(hL:L<=1073741824)(n:Int)(x:ae)(h1:isN ns n=true)(hx:ns[(n-1).toNat]? =some x)(w0 w1 h0' h1':Int)(hbx:∀kid∈flK ns n,zk (vwA ae.ac ns) rtl keeps bx c L kid)(st:St)(hm:st.1.length+(40*c+1)<=L)(hq:st.2.length+(40*c+1)<=L)
  (hal:∀I,I=(mA bx (plO ns n ⟨w0,w1⟩ ⟨h0',h1'⟩) rtl ns (flK ns n) st).1->∀l∈nr (plO ns n ⟨w0,w1⟩ ⟨h0',h1'⟩) I,al5 (lit I l) (l.map (elZ (sU (plO ns n ⟨w0,w1⟩ ⟨h0',h1'⟩) I))) (DJ (plO ns n ⟨w0,w1⟩ ⟨h0',h1'⟩)) (DI (plO ns n ⟨w0,w1⟩ ⟨h0',h1'⟩) I)=true)
  (hac:∀I st1,(I,st1)=mA bx (plO ns n ⟨w0,w1⟩ ⟨h0',h1'⟩) rtl ns (flK ns n) st->∀cs,cs=yZ (plO ns n ⟨w0,w1⟩ ⟨h0',h1'⟩) (nr (plO ns n ⟨w0,w1⟩ ⟨h0',h1'⟩) I) (vk bx (plO ns n ⟨w0,w1⟩ ⟨h0',h1'⟩) rtl ns ((flK ns n).zip (sU (plO ns n ⟨w0,w1⟩ ⟨h0',h1'⟩) I)) st1).1->acr cs (uE (plO ns n ⟨w0,w1⟩ ⟨h0',h1'⟩)) (AW (plO ns n ⟨w0,w1⟩ ⟨h0',h1'⟩) cs)=true):
  SE prog 110 (sR (vwA ae.ac ns) rtl keeps) (SM st.1) (SA st.2) [.c (.ptr 0 0 0),ai n,agP ⟨w0,w1⟩,agP ⟨h0',h1'⟩] (.t (.agg (jQ.ac (yH bx ns rtl n ⟨w0,w1⟩ ⟨h0',h1'⟩ st).1))) (SM (yH bx ns rtl n ⟨w0,w1⟩ ⟨h0',h1'⟩ st).2.1) (SA (yH bx ns rtl n ⟨w0,w1⟩ ⟨h0',h1'⟩ st).2.2):=by
 obtain⟨n1,n2,_⟩:=bj h1
 have hX:=gR ht n1 hx
 have h6:=uU ht n1 hx
 have h3:∀k∈flK ns n,isN ns k=true:=fun k h=>hX k (wv hx k h)
 have hU:flK ns n=ir (iT ns) (x.kids.filter (mG ns)):=Ar hx
 have hR:(flK ns n).length<20:=by rw [hU,nO];exact Nat.lt_of_le_of_lt (List.length_filter_le _ _) (by omega)
 have cU:=uY ns n x hs ht hl n1 n2 hx (by omega) hX w0 w1 h0' h1'
 rw [<-hU]at cU
 have cy:=bh ns n x n1 (by omega) hx (vwA ae.ac ns) _ _ rfl rfl rfl
 have hS:kst ns n=x.style:=il hx
 have h4:nod ns n=x:=FI hx
 obtain⟨p,hp⟩:=nmE (plO ns n ⟨w0,w1⟩ ⟨h0',h1'⟩)
 have ha:PC0 147 [.agg [.view (vwA ae.ac ns)],ai n,agP ⟨w0,w1⟩,agP ⟨h0',h1'⟩] (.t (.agg (nwL n p.s p.row p.al p.ac (knS p.wide) (.view (vw aj p.kids))))):=by
  rw [hp];unfold plO;rw [hS];exact cU
 clear cU
 have hb:p.kids=flK ns n:=by rw [hp];rfl
 have hO:p.s=x.style:=by rw [hp];exact hS
 unfold yH
 rw [h4,hS,<-hp]
 have cF:=fun(hkn:p.kids≠[])=>sX ns hl rtl keeps bx c L n p w0 w1 h0' h1' (by rw [hp];rfl) (by rw [hp];rfl) hkn (by rw [hb];exact hR) (by rw [hb];exact h3) (by rw [hb];exact hbx) st (by omega) (by omega) (by rw [hb,hp];exact hal _ rfl) (by rw [hb,hp];exact hac _ _ rfl)
 clear hal hac hbx
 obtain⟨V,hV⟩:=nmE (vwA ae.ac ns)
 rw [<-hV]at cy ha⊢
 simp only [<-hV]at cF
 obtain⟨Kx,hE⟩:=nmE (vw aj x.kids)
 obtain⟨Rx,hC⟩:=nmE (vw aD.c x.table.rules)
 rw [<-hE,<-hC]at cy
 have hZ:x.table.rules.length<=1048576:=(hs x (zqd hx)).2.1
 have hf:=fz x.style
 obtain⟨fe,hi⟩:=nmE (l7 x.style)
 rw [<-hi]at hf
 obtain⟨fl,ft,fr,fb⟩:=fe
 have hh:=fk fl ft fr fb
 have hA:=fo fl ft fr fb
 obtain⟨B1,hr⟩:=nmE (adE fl fr)
 obtain⟨B2,hB⟩:=nmE (adE ft fb)
 change PC0 _ _ (.i (adE fl fr))at hh
 change PC0 _ _ (.i (adE ft fb))at hA
 rw [<-hr]at hh
 rw [<-hB]at hA
 obtain⟨M0,hw⟩:=nmE (SM st.1)
 obtain⟨A0,hc⟩:=nmE (SA st.2)
 have hj:az M0=true:=by rw [hw];exact bT _
 have hP:az A0=true:=by rw [hc];exact bU _
 have kn:∀g:Gd,g=G0 prog 3 f110.ntmps->g .q .gtr (g .ln (vw aj p.kids)) 0=decide (p.kids≠[]):=fun g hg=>by
  rw [di hg,bu hg,aR]
  cases p.kids with
  |nil=>rfl
  |cons a b=>exact decide_eq_decide.2 ⟨fun _=>by simp,fun _=>by simp only [zqx];omega⟩
 obtain⟨K,hK⟩:=nmE (vw aj p.kids)
 rw [<-hK]at ha kn
 simp only [<-hK]at cF
 obtain⟨x0,x1,x2,x3,x4⟩:=x
 dsimp only at hO hi hZ hE hC hf cy⊢
 by_cases hD:x3=true
 case neg=>
  rw [if_neg hD]
  replace hD:x3=false:=by simpa using hD
  subst hD
  by_cases hkn:p.kids=[]
  case neg=>
   rw [if_neg (by rw [<-hb];exact hkn)]
   have cF:=cF hkn
   obtain⟨rr,h5⟩:=nmE (EJ bx p rtl ns st)
   rw [<-h5]at cF⊢
   rw [acE]at cF⊢
   have h0:=bT rr.2.1
   have hz:=bU rr.2.2
   rw [<-hw,<-hc]at cF⊢
   generalize hM2:SM rr.2.1=M2 at cF h0
   generalize ho:SA rr.2.2=A2 at cF hz;replace ho:=ho.symm
   generalize hFR:vw av.c rr.1.frames=FR at cF
   generalize he:knS p.wide=KW at ha cF;replace he:=he.symm
   clear he hFR hM2 ho hw hc hK hp hb hO hi hr hB hV hE hC
   refine mL [(9,.hand),(11,.hand)] func110 (fun g hT hd F hJ hM hg hF=> ?_)
   have kn:=kn g hg
   rw [zqu hkn]at kn
   cbv
   ((repeat'((first|rw [kn]|refine ad hg cy ?_|refine ad hg hf ?_|refine aa hg ha ?_|refine je rfl hg 0 1 2 cF rfl rfl rfl (by decide) rfl hj hP ⟨rfl,.inl ⟨rfl,rfl⟩,.inl ⟨rfl,rfl⟩,.inl ⟨rfl,rfl⟩,zpt⟩ rfl ?_);cbv)))
   exact su 9 10 hF rfl rfl rfl rfl rfl (by decide) rfl h0 hz
  rw [if_pos (by rw [<-hb];exact hkn)]
  dsimp only
  rw [acE]
  unfold Bs
  dsimp only
  rw [<-hi]
  dsimp only
  rw [<-hr,<-hB,wU,<-hw,<-hc]
  obtain⟨WT,hy⟩:=nmE (wrap64 (0+B1))
  obtain⟨HT,hv⟩:=nmE (wrap64 (0+B2))
  rw [<-hy,<-hv]
  have hk:=dP w0 w1 WT
  have hn:=dP h0' h1' HT
  generalize hG:tak ⟨w0,w1⟩ WT=R1 at hk;replace hG:=hG.symm
  generalize hH:tak ⟨h0',h1'⟩ HT=R2 at hn;replace hH:=hH.symm
  generalize he:knS p.wide=KW at ha;replace he:=he.symm
  refine xh (t:=45) (k:=5) (V:=[]) (R:= .t (.agg [.J R1,.J R2,.J R2,.own 5])) ?_ (fun x hx=>by cases hx) (fun x hx=>by cases hx) rfl rfl rfl
  have t1:∀g:Gd,g=G0 prog 3 f110.ntmps->g .w .add .i64 0 B1=WT:=fun g hg=>by rw [aG hg,hy]
  have t2:∀g:Gd,g=G0 prog 3 f110.ntmps->g .w .add .i64 0 B2=HT:=fun g hg=>by rw [aG hg,hv]
  clear he hG hH hy hv hw hc hK hp hb hO hi hr hB hV hE hC cF
  refine mL [(9,.hand),(11,.hand)] func110 (fun g hT hd F hJ hM hg hF=> ?_)
  have kn:=kn g hg
  have t1:=t1 g hg
  have t2:=t2 g hg
  rw [zqt (Classical.not_not.2 hkn)]at kn
  cbv
  ((repeat'((first|rw [kn]|refine ad hg cy ?_|refine ad hg hf ?_|refine aa hg ha ?_);cbv)))
  refine db hg hM bn [0,1,2,3,4,5,6,7,8,9,10,11] (.op 12 [13] (.op 14 [] (.op 15 [] .done .none) .none) (.op 14 [] (.op 12 [13] (.op 15 [] .done .none) .none) .none)) (by kernel_rfl) (by kernel_rfl) (S:=Unit) (fun _=>True) (fun _=>[(8,.p 5),(14,.p 6)]) (fun _=>[.bx 91 5 [.view V,.B rtl,.B keeps,.own 1,.own 2],.rw ⟨157,10,M0⟩,.rw ⟨172,6,A0⟩,.bx 122 2 [.J w0,.J w1],.bx 122 2 [.J h0',.J h1'],.bx 127 4 [.J 0,.J 0,.J 0,.N],.bx 127 4 [.J R1,.J R2,.J 0,.own 7],.rw ⟨45,5,[]⟩]) (fun BL hu=> ?_) (fun _ _=> ?_)
  ·cbv
   ((repeat'(first|exact trivial|exact rfl|refine And.intro ?_ ?_|(rw [t1];(try cbv))|(rw [t2];(try cbv))|((first|refine aa hg hk ?_|refine aa hg hn ?_|refine aa hg hh ?_|refine aa hg hA ?_);cbv))))
   all_goals first
    |exact hu () trivial _ _ (Wk.weak (wkM [some 0,some 1,some 2,some 3,some 4,some 5,some 10,some 9] zr2 ⟨.inr (wqB rfl ⟨zr5,zpt⟩),.inr (wqE rfl hj),.inr (wqE rfl hP),.inr (wqE rfl rfl),.inr (wqE rfl rfl),.inr (wqE rfl rfl),.inr (wqB rfl ⟨zr4,zpt⟩),.inr (wqE rfl rfl),zpt⟩ (by decide) ⟨.inr rfl,.inr rfl,.inr rfl,zpt⟩ ⟨.inr ⟨_,rfl⟩,.inr ⟨_,rfl⟩,.inr ⟨_,rfl⟩,zpt⟩))
    |exact hu () trivial _ _ (Wk.weak (wkM [some 0,some 1,some 2,some 3,some 4,some 5,some 9,some 10] zr2 ⟨.inr (wqB rfl ⟨zr5,zpt⟩),.inr (wqE rfl hj),.inr (wqE rfl hP),.inr (wqE rfl rfl),.inr (wqE rfl rfl),.inr (wqE rfl rfl),.inr (wqB rfl ⟨zr4,zpt⟩),.inr (wqE rfl rfl),zpt⟩ (by decide) ⟨.inr rfl,.inr rfl,.inr rfl,zpt⟩ ⟨.inr ⟨_,rfl⟩,.inr ⟨_,rfl⟩,.inr ⟨_,rfl⟩,zpt⟩))
  cbv
  exact Dc 1 2 7 hF rfl (.inr zr4) rfl rfl rfl rfl (by decide) rfl hj hP rfl
 rw [if_pos hD]
 subst hD
 have hW:inW x2 ⟨w0,w1⟩=qt ⟨w0,w1⟩ B1:=by unfold inW uF;rw [<-hi,hr];rfl
 have hN:=dz w0 w1 B1
 rw [hW]
 obtain⟨⟨i0,i1⟩,hI⟩:∃q,q=qt ⟨w0,w1⟩ B1:=⟨_,rfl⟩
 change PC0 _ _ (.t (agP (qt ⟨w0,w1⟩ B1)))at hN
 rw [<-hI]at hN⊢
 have hQ:=iq i0 i1
 generalize hRO:lj ⟨i0,i1⟩=RO at hQ
 have cW:=rf x4.rules RO hZ
 rw [<-hC]at cW
 obtain⟨⟨q0,q1⟩,hY⟩:∃q,q=wnt x4.rules RO:=⟨_,rfl⟩
 rw [<-hY]at cW⊢
 dsimp only
 rw [acE]
 unfold Bs
 dsimp only
 rw [<-hi]
 dsimp only
 rw [<-hr,<-hB,wU,HD,<-hw,<-hc]
 obtain⟨WT,hy⟩:=nmE (wrap64 (q0+B1))
 obtain⟨HT,hv⟩:=nmE (wrap64 (q1+B2))
 rw [<-hy,<-hv]
 have hk:=dP w0 w1 WT
 have hn:=dP h0' h1' HT
 generalize hG:tak ⟨w0,w1⟩ WT=R1 at hk
 generalize hH:tak ⟨h0',h1'⟩ HT=R2 at hn
 generalize he:knS p.wide=KW at ha
 have h2:A0.length<=1073741824:=by rw [hc];unfold SA;rw [ar];omega
 obtain⟨A2,ho⟩:∃A,A=A0++[[.J n,.J w0,.J w1,.J h0',.J h1',.B rtl]]:=⟨_,rfl⟩
 have hz:az A2=true:=by rw [ho,hc];unfold SA;exact jD _ _ rfl
 change SE _ _ _ _ _ _ _ _ (A0++[[.J n,.J w0,.J w1,.J h0',.J h1',.B rtl]])
 rw [<-ho]
 refine xh (t:=45) (k:=5) (V:=[]) (R:= .t (.agg [.J R1,.J R2,.J R2,.own 5])) ?_ (fun x hx=>by cases hx) (fun x hx=>by cases hx) rfl rfl rfl
 have t1:∀g:Gd,g=G0 prog 3 f110.ntmps->g .w .add .i64 q0 B1=WT:=fun g hg=>by rw [aG hg,hy]
 have t2:∀g:Gd,g=G0 prog 3 f110.ntmps->g .w .add .i64 q1 B2=HT:=fun g hg=>by rw [aG hg,hv]
 clear he hG hH hy hv hw hc hK hp hb hO hi hr hB hV hE hC cF hY hRO hI hW kn
 refine mL [(9,.hand),(11,.hand)] func110 (fun g hT hd F hJ hM hg hF=> ?_)
 have t1:=t1 g hg
 have t2:=t2 g hg
 cbv
 ((repeat'((first|refine ad hg cy ?_|refine ad hg hf ?_|refine aa hg ha ?_);cbv)))
 refine db hg hM bn [0,1,2,3,5,6,7,8,9,10,11,12] (.op 4 [] (.op 13 [] (.op 14 [15,16] (.op 17 [] .done .none) .none) .none) (.op 13 [] (.op 4 [] (.op 14 [15,16] (.op 17 [] .done .none) .none) .none) .none)) (by kernel_rfl) (by kernel_rfl) (S:=Unit) (fun _=>True) (fun _=>[(0,.p 0),(6,.p 3),(7,.p 4),(8,.p 5),(9,.p 6),(10,.p 7),(12,.i (0)),(13,.i (0))]) (fun _=>[.bx 91 5 [.view V,.B rtl,.B keeps,.own 1,.own 8],.rw ⟨157,10,M0⟩,.gn,.bx 122 2 [.J w0,.J w1],.bx 122 2 [.J h0',.J h1'],.bx 127 4 [.J 0,.J 0,.J 0,.N],.bx 69 64 (Ee ⟨x0,x1,x2,true,x4⟩ Kx Rx),.bx 34 4 [.J fl,.J ft,.J fr,.J fb],.rw ⟨172,6,A2⟩]) (fun BL hu=> ?_) (fun _ _=> ?_)
 ·cbv
  ((repeat'(first|exact trivial|exact rfl|refine And.intro ?_ ?_|(refine JZ hg rfl (by decide) h2 ?_;cbv))))
  all_goals
   rw [gd hg,<-ho]
   exact hu () trivial _ _ (Wk.weak (wkM [some 0,some 1,none,some 3,some 4,some 5,some 6,some 7,some 10] zr8 ⟨.inr (wqB rfl ⟨zr5,zpt⟩),.inr (wqE rfl hj),.inl rfl,.inr (wqE rfl rfl),.inr (wqE rfl rfl),.inr (wqE rfl rfl),.inr (wqE rfl rfl),.inr (wqE rfl rfl),.inr (wqE rfl hz),zpt⟩ (by decide) ⟨.inl rfl,.inr rfl,.inr rfl,zpt⟩ ⟨.inl rfl,.inr ⟨_,rfl⟩,.inr ⟨_,rfl⟩,zpt⟩))
 cbv
 ((repeat'((first|refine aa hg hh ?_|refine aa hg hN ?_|refine aa hg hQ ?_|refine aa hg cW ?_);cbv)))
 refine db hg hM bn [0,1,2,3,4,5,6,7,8,9,10,11] (.op 12 [13] (.op 14 [] (.op 15 [] .done .none) .none) (.op 14 [] (.op 12 [13] (.op 15 [] .done .none) .none) .none)) (by kernel_rfl) (by kernel_rfl) (S:=Unit) (fun _=>True) (fun _=>[(8,.p 5),(14,.p 6)]) (fun _=>[.bx 91 5 [.view V,.B rtl,.B keeps,.own 1,.own 8],.rw ⟨157,10,M0⟩,.gn,.bx 122 2 [.J w0,.J w1],.bx 122 2 [.J h0',.J h1'],.bx 127 4 [.J 0,.J 0,.J 0,.N],.bx 127 4 [.J R1,.J R2,.J 0,.own 7],.rw ⟨45,5,[]⟩,.rw ⟨172,6,A2⟩]) (fun BL hu=> ?_) (fun _ _=> ?_)
 ·cbv
  ((repeat'(first|exact trivial|exact rfl|refine And.intro ?_ ?_|(rw [t1];(try cbv))|(rw [t2];(try cbv))|((first|refine aa hg hk ?_|refine aa hg hn ?_|refine aa hg hh ?_|refine aa hg hA ?_);cbv))))
  all_goals first
   |exact hu () trivial _ _ (Wk.weak (wkM [some 0,some 1,none,some 3,some 4,some 5,some 10,some 9,some 8] zr2 ⟨.inr (wqB rfl ⟨zr5,zpt⟩),.inr (wqE rfl hj),.inl rfl,.inr (wqE rfl rfl),.inr (wqE rfl rfl),.inr (wqE rfl rfl),.inr (wqB rfl ⟨zr4,zpt⟩),.inr (wqE rfl rfl),.inr (wqE rfl hz),zpt⟩ (by decide) ⟨.inl rfl,.inr rfl,.inr rfl,zpt⟩ ⟨.inl rfl,.inr ⟨_,rfl⟩,.inr ⟨_,rfl⟩,zpt⟩))
   |exact hu () trivial _ _ (Wk.weak (wkM [some 0,some 1,none,some 3,some 4,some 5,some 9,some 10,some 8] zr2 ⟨.inr (wqB rfl ⟨zr5,zpt⟩),.inr (wqE rfl hj),.inl rfl,.inr (wqE rfl rfl),.inr (wqE rfl rfl),.inr (wqE rfl rfl),.inr (wqB rfl ⟨zr4,zpt⟩),.inr (wqE rfl rfl),.inr (wqE rfl hz),zpt⟩ (by decide) ⟨.inl rfl,.inr rfl,.inr rfl,zpt⟩ ⟨.inl rfl,.inr ⟨_,rfl⟩,.inr ⟨_,rfl⟩,zpt⟩))
 cbv
 exact Dc 1 8 7 hF rfl (.inr zr4) rfl rfl rfl rfl (by decide) rfl hj hz rfl
theorem sY(V:LLA)(rtl:Bool)(kid:Int)(bb:jQ)(M A0 M2 A2:LLA)(w0 w1 h0' h1':Int)(pM:az M=true)(pA:az A0=true)(pM2:az M2=true)(pA2:az A2=true)(hc:SE prog 110 (sR V rtl false) M A0 [.c (.ptr 0 0 0),ai kid,agP ⟨w0,w1⟩,agP ⟨h0',h1'⟩] (.t (.agg (jQ.ac bb))) M2 A2):
  SE prog 76 (sR V rtl false) M A0 [.c (.ptr 0 0 0),ai kid,agP ⟨w0,w1⟩,agP ⟨h0',h1'⟩] (.t (.agg (jQ.ac bb))) M2 A2:=by
 rw [acE]at hc⊢
 generalize hFR:vw av.c bb.frames=FR at hc
 clear hFR
 refine mL [(7,.hand),(10,.hand)] func76 (fun g hb hd F ha he hg hF=> ?_)
 cbv
 (refine je rfl hg 0 1 2 hc rfl rfl rfl (by decide) rfl pM pA ⟨rfl,rfl,.inl ⟨rfl,rfl⟩,.inl ⟨rfl,rfl⟩,zpt⟩ rfl ?_;cbv)
 exact su 6 7 hF rfl rfl rfl rfl rfl (by decide) rfl pM2 pA2
def inR(n:Int):Prop:=0<=n/\n<=1048576
theorem wE(n:Int):inR (cl n):=by unfold inR cl bro;split<;>(try split)<;>omega
theorem IQ{x:af}(h:tR x=true):inR (hyp x):=by
 simp only [tR,rng,zqs,zqp]at h
 unfold inR hyp iI
 split<;>(try split)<;>(try split)<;>omega
theorem Ch:∀(ps:List (Int×Int))(l:List Int),(∀p∈ps,inR p.2)->(∀v∈l,inR v)->∀v∈qj ps l,inR v
 | [],l,_,h=>h
 |p::ps,l,hp,h=>by
  refine Ch ps (l.set p.1.toNat p.2) (fun q hq=>hp q (zpe _ hq)) fun v hv=> ?_
  rcases List.mem_or_eq_of_mem_set hv with h1|h1
  ·exact h v h1
  ·rw [h1];exact hp p (zpd ..)
theorem FU{fr:List Bool}(hx:∀x∈xs,tR x=true)(hl:fr.length=xs.length){i:Int}(hi:i∈fre 0 fr):tR (itA xs i)=true:=by
 obtain⟨h1,h2,_⟩:=ic fr 0 (zpc 0) i hi
 have ha:i.toNat<xs.length:=by omega
 have e:itA xs i=xs[i.toNat]:=by unfold itA;rw [zqc ha];rfl
 rw [e];exact hx _ (List.getElem_mem _)
theorem itR{x:af}(h:tR x=true):inR x.least/\(0<=x.most->inR (qW x)):=by
 simp only [tR,rng,zqs,zqp]at h
 unfold inR qW
 refine⟨by omega,fun h0=> ?_⟩
 split<;>omega
theorem GI(X:Fx)(fr:List Bool)(rest:Int)(hx:∀x∈X.xs,tR x=true)(hl:fr.length=X.xs.length):∀p∈X.setI fr rest,inR p.2:=by
 intro p hp
 unfold Fx.setI at hp
 split at hp
 ·unfold Fx.shs at hp
  obtain⟨q,_,rfl⟩:=List.mem_map.1 hp
  exact wE _
 ·rcases List.mem_append.1 hp with h|h
  ·split at h
   ·obtain⟨i,hi,rfl⟩:=List.mem_map.1 h
    unfold Fx.low at hi
    exact(itR (FU hx hl (List.mem_filter.1 hi).1)).1
   ·cases h
  ·split at h
   ·obtain⟨i,hi,rfl⟩:=List.mem_map.1 h
    unfold Fx.hig at hi
    obtain⟨h1,h2⟩:=List.mem_filter.1 hi
    simp only [zqs,wn,zqp]at h2
    exact(itR (FU hx hl h1)).2 h2.2.1
   ·cases h
theorem Cj(X:Fx)(hx:∀x∈X.xs,tR x=true):∀(k:Nat)(sz:List Int)(fr:List Bool)(r:List Int),fr.length=X.xs.length->(∀v∈sz,inR v)->X.runI k sz fr=some r->∀v∈r,inR v
 |0,sz,fr,r,_,_,h=>by simp [Fx.runI]at h
 |k+1,sz,fr,r,hl,hs,h=>by
  unfold Fx.runI at h
  split at h
  ·cases h;exact hs
  ·refine Cj X hx k _ _ r ?_ (Ch _ _ (GI X fr _ hx hl) hs) h
   have:∀(is:List Int)(l:List Bool),(px is l).length=l.length:=by
    intro is
    induction is with
    |nil=>intro l;rfl
    |cons i is ih=>intro l;show(px is (l.set i.toNat true)).length=_;rw [ih,List.length_set]
   rw [this];exact hl
theorem IY(hx:∀x∈xs,tR x=true)(gap inner:Int):∀v∈flx xs gap inner,inR v:=by
 have hh:∀v∈xs.map hyp,inR v:=fun v hv=>by
  obtain⟨x,ha,rfl⟩:=List.mem_map.1 hv
  exact IQ (hx x ha)
 unfold flx
 split
 ·cases hr:(Fx.of xs gap inner).runI 13 (xs.map hyp) (xs.map (nx (C6 xs gap inner)))with
  |none=>intro v hv;cases hv
  |some r=>exact Cj (Fx.of xs gap inner) hx 13 _ _ r (by rw [zql];rfl) hh hr
 ·exact hh
theorem lV{n:Int}(h:inR n):rng n 0 1048576=true:=by
 unfold inR at h
 simp only [rng,zqs,zqp];exact h
theorem wb(h:eo xs=true):(∀x∈xs,tR x=true)/\xs.length<=12:=by
 simp only [eo,zqs,zqf,zqp]at h
 exact⟨h.1,by omega⟩
theorem Iz(h:eo xs=true)(gap room:Int)(wr:Bool)(inner:Int):∀v∈lsz xs gap room wr inner,inR v:=fun v hv=>by
 unfold lsz at hv
 obtain⟨l,_,hm⟩:=List.mem_flatMap.1 hv
 exact IY (fun x hx=>(wb h).1 x (CS hx)) gap inner v hm
theorem Hk{zs:List Int}(h:∀v∈zs,inR v)(i:Int):inR (elZ zs i):=by
 unfold elZ
 split
 ·cases hx:zs[i.toNat]? with
  |none=>exact⟨zpc 0,by decide⟩
  |some v=>exact h v (zqd hx)
 ·exact⟨zpc 0,by decide⟩
variable {I:List af}
theorem Jo{ZZ:List Int}(hI:eo I=true)(hZ:∀v∈ZZ,inR v)(hl:∀i∈l,0<=i/\i<(I.length:Int))(hll:l.length<=12){gap inner:Int}(hg:inR gap)(hin:inR inner):al5 (lit I l) (l.map (elZ ZZ)) gap inner=true:=by
 have e:=yK hl
 simp only [al5,zqs,zqf,zqp]
 refine⟨fun s hs=> ?_,?_,by rw [zql,e],lV hg,lV hin⟩
 ·obtain⟨i,_,rfl⟩:=List.mem_map.1 hs
  exact lV (Hk hZ i)
 ·simp only [eo,zqs,zqf,zqp]
  exact⟨fun x hx=>(wb hI).1 x (CS hx),by rw [e];omega⟩
theorem mP(s:aM)(n:Int):inR (tak s n):=by unfold tak;split<;>exact wE _
theorem C8(s:ag)(w:Bool):inR (jA s w):=by unfold jA;split<;>exact wE _
theorem DC{p:Pl}(hI:eo I=true):∀l∈nr p I,al5 (lit I l) (l.map (elZ (sU p I))) (DJ p) (DI p I)=true:=fun l hl=>by
 unfold nr at hl
 exact Jo hI (Iz hI _ _ _ _) (fun i hi=>vD hl hi) (zpb (ka hl) (wb hI).2) (C8 _ _) (mP _ _)
theorem zG(v:io)(base:Int):uj v base= -1\/inR (uj v base):=by
 unfold uj;split
 ·exact .inl rfl
 ·exact .inr (wE _)
theorem Jp(a b:Int):inR (adE a b):=by unfold adE;exact wE _
theorem IW(s:ag)(w:Bool):inR (uF s w):=by unfold uF;split<;>exact Jp _ _
theorem IA(s:ag)(w:Bool)(base:Int):inR (CN s w base):=by
 have h1:=zG (if w then s.minWidth else s.minHeight) base
 have h2:=IW s w
 show inR (if uF s w<orl (uj (if w then s.minWidth else s.minHeight) base) 0 then orl (uj (if w then s.minWidth else s.minHeight) base) 0 else uF s w)
 generalize uj (if w then s.minWidth else s.minHeight) base=a at *
 generalize uF s w=b at *
 unfold orl inR at *
 by_cases ha:a= -1
 ·rw [if_pos ha];split<;>omega
 ·rw [if_neg ha];split<;>omega
theorem Ix(s:bC)(sd:Int)(rtl:Bool)(base:Int):rng (jo s sd rtl base) (-1048576) 1048576=true:=by
 have:=Ib (FP (rj s sd rtl) base)
 unfold jo
 split
 ·rfl
 ·simp only [rng,zqs,zqp];exact this
theorem Io(s:ag)(w:Bool)(o:Int):rD s w o= -1\/inR (rD s w o):=by
 unfold rD;split
 ·exact .inl rfl
 ·split<;>exact .inr (wE _)
def HE(b:jQ):Prop:=inR b.wide/\inR b.high/\inR b.base
theorem Jj{bx:Bx}{kid:Int}(hb:∀w h st,HE (bx kid w h st).1)(p:Pl)(rtl:Bool)(ns:List ae)(st:St):inR (xT bx p rtl ns kid st).1:=by
 unfold xT
 split
 ·rename_i hn
  show inR (Fg p (kst ns kid) rtl)
  have h1:=zG (kst ns kid).basis (knS p.al)
  have h2:=zG (if p.row then(kst ns kid).width else(kst ns kid).height) (knS p.al)
  have h3:=Io (kst ns kid) p.row (kcX p (kst ns kid) rtl).n
  unfold Fg at hn⊢
  split
  ·rename_i h;exact h1.resolve_left h
  ·rename_i h
   rw [if_neg h]at hn
   split
   ·rename_i h';exact h2.resolve_left h'
   ·rename_i h'
    rw [if_neg h']at hn
    split
    ·rename_i h''
     rw [if_pos h'']at hn
     exact h3.resolve_left hn
    ·rename_i h''
     rw [if_neg h'']at hn
     exact absurd rfl hn
 ·show inR (alB p.row (uQ bx p.row kid _ _ st).1)
  unfold alB uQ
  split
  ·exact(hb _ _ _).1
  ·exact(hb _ _ _).2.1
theorem FS{bx:Bx}(p:Pl)(rtl:Bool)(ns:List ae):∀(ks:List Int)(st:St),(∀k∈ks,∀w h st,HE (bx k w h st).1)->(∀k∈ks,rng (kst ns k).grow 0 1000=true/\rng (kst ns k).shrink 0 1000=true)->∀x∈(mA bx p rtl ns ks st).1,tR x=true
 | [],st,_,_,x,hx=>by simp [mA]at hx
 |k::r,st,hb,hg,x,hx=>by
  simp only [mA,zph]at hx
  rcases hx with rfl|hx
  ·have h1:=Jj (hb k (zpd ..)) p rtl ns st
   have h2:=hg k (zpd ..)
   have h3:=zG (if p.row then(kst ns k).maxWidth else(kst ns k).maxHeight) (knS p.al)
   have h4:rng (DH (kst ns k) p.row (knS p.al)) (-1) 1048576=true:=by
    unfold DH inR at *
    simp only [rng,zqs,zqp]
    rcases h3 with h3|h3<;>omega
   simp only [tR,IK,zS,sdB,lV h1,lV (IA _ _ _),h4,h2.1,h2.2,Ix,Bool.and_self]
  ·exact FS p rtl ns r _ (fun k hk=>hb k (zpe _ hk)) (fun k hk=>hg k (zpe _ hk)) x hx
theorem JW(bx:Bx)(ns:List ae)(rtl:Bool)(n:Int)(w h:aM)(st:St):HE (yH bx ns rtl n w h st).1:=by
 unfold yH
 split
 ·exact⟨mP _ _,mP _ _,mP _ _⟩
 ·split
  ·exact⟨mP _ _,mP _ _,mP _ _⟩
  ·exact⟨mP _ _,mP _ _,wE _⟩
theorem J9(ns:List ae)(rtl:Bool):∀(f:Nat)(n:Int)(w h:aM)(st:St),HE (zb false ns rtl f n w h st).1
 |0,_,_,_,_=>(⟨⟨zpc 0,by decide⟩,⟨zpc 0,by decide⟩,⟨zpc 0,by decide⟩⟩:HE ⟨0,0,0,[]⟩)
 |f+1,n,w,h,st=>by
  show HE (kpF false rtl (yH (zb false ns rtl f) ns rtl) n w h st).1
  unfold kpF
  rw [if_pos rfl]
  exact JW ..
theorem Dg{a b:Int}(h0:0<b)(h1: -4611686018427387904<=a)(h2:a<=4611686018427387904):b*fdv a b<=a/\a<b*fdv a b+b:=by
 have e:=Int.mul_tdiv_add_tmod a b
 have hq: -4611686018427387904<=a.tdiv b/\a.tdiv b<=4611686018427387904:=by
  have h3:=Int.natAbs_tdiv_le_natAbs a b
  omega
 have m1: -b<a.tmod b:=by have:=Int.lt_tmod_of_pos a h0;omega
 have m2:a.tmod b<b:=Int.tmod_lt_of_pos a h0
 have w1:wrap64 (a.tdiv b)=a.tdiv b:=by unfold wrap64;omega
 have w2:wrap64 (a.tdiv b-1)=a.tdiv b-1:=by unfold wrap64;omega
 unfold fdv
 rw [if_neg (by omega),w1,w2]
 split
 ·rw [Int.mul_sub,Int.mul_one];omega
 ·by_cases hm:0<=a.tmod b
  ·omega
  ·omega
theorem H9{n L k:Int}(hL:L<=64)(hn:0<=n)(hn2:n<=1048576)(hk:0<=k)(hk2:k<L):0<=wrap64 (fdv (wrap64 (n*wrap64 (k+1))) L-fdv (wrap64 (n*k)) L)/\wrap64 (fdv (wrap64 (n*wrap64 (k+1))) L-fdv (wrap64 (n*k)) L)<=n:=by
 have e1:wrap64 (k+1)=k+1:=ao _ (by omega)
 have m0:0<=n*k:=Int.mul_nonneg hn hk
 have m1:n*k<=1048576*64:=Int.mul_le_mul hn2 (by omega) hk (by decide)
 have ee:n*(k+1)=n*k+n:=by rw [Int.mul_add,Int.mul_one]
 rw [e1,ee]
 generalize n*k=m at *
 rw [ao (m+n) (by omega),ao m (by omega)]
 obtain⟨c1,c2⟩:=Dg (a:=m+n) (b:=L) (by omega) (by omega) (by omega)
 obtain⟨d1,d2⟩:=Dg (a:=m) (b:=L) (by omega) (by omega) (by omega)
 generalize fdv (m+n) L=q1 at *
 generalize fdv m L=q0 at *
 have hD:L*(q1-q0)=L*q1-L*q0:=Int.mul_sub ..
 have v1: -1<q1-q0:=Int.lt_of_mul_lt_mul_left (a:=L) (by rw [hD,Int.mul_neg,Int.mul_one];omega) (by omega)
 have g1:n<=L*n:=by
  have:=Int.mul_le_mul_of_nonneg_right (show(1:Int)<=L by omega) hn
  omega
 have v2:q1-q0<n+1:=Int.lt_of_mul_lt_mul_left (a:=L) (by rw [hD,Int.mul_add,Int.mul_one];omega) (by omega)
 rw [ao (q1-q0) (by omega)]
 omega
theorem zI{n L:Int}(hL:L<=64)(hn:0<=n)(hn2:n<=1048576):∀(j:Nat)(s:Int),0<=s->s+(j:Int)<=L->∀v∈shG n L s (List.replicate j 1),0<=v/\v<=n
 |0,s,_,_,v,hv=>by simp [shG]at hv
 |j+1,s,h0,h1,v,hv=>by
  rw [List.replicate_succ]at hv
  simp only [shG,zph]at hv
  rcases hv with rfl|hv
  ·exact H9 hL hn hn2 h0 (by omega)
  ·rw [ao (s+1) (by omega)]at hv
   exact zI hL hn hn2 j (s+1) (by omega) (by omega) v hv
theorem wS:∀(m:Nat)(a:Int),0<=a->a+(m:Int)<=1000->pn a (List.replicate m 1)=a+(m:Int)
 |0,a,_,_=>by simp [pn]
 |m+1,a,h0,h1=>by
  rw [List.replicate_succ]
  simp only [pn]
  rw [ao (a+1) (by omega),wS m (a+1) (by omega) (by omega)]
  omega
theorem I4{n many:Int}(hn:0<=n)(hn2:n<=1048576):∀v∈evn n many,0<=v/\v<=n:=by
 have hm:=pU many
 have e:sg n=n:=by unfold sg bro;rw [if_neg (by omega)];split<;>omega
 unfold evn shr
 rw [if_pos (CI _ hm),e,wS _ 0 (zpc 0) (by omega)]
 exact zI (by omega) hn hn2 _ 0 (zpc 0) (zpc _)
theorem Ia{c:Int}(h:inR c):sg c=c:=by unfold inR at h;unfold sg bro;rw [if_neg (by omega)];split<;>omega
theorem B8:∀(cs:List Int),(∀c∈cs,inR c)->0<=cs.sum/\cs.sum<=1048576*(cs.length:Int)/\∀c∈cs,c<=cs.sum
 | [],_=>by simp
 |c::r,h=>by
  obtain⟨h1,h2,h3⟩:=B8 r fun x hx=>h x (zpe _ hx)
  have hc:=h c (zpd ..)
  unfold inR at hc
  simp only [List.sum_cons,zqx]
  refine⟨by omega,by omega,fun x hx=> ?_⟩
  rcases zph.1 hx with rfl|hx
  ·omega
  ·have:=h3 x hx;omega
theorem zy:∀(cs:List Int)(a:Int),(∀c∈cs,inR c)->0<=a->a+1048576*(cs.length:Int)<=1099511627776->Bb a cs=a+cs.sum
 | [],a,_,_,_=>by simp [Bb]
 |c::r,a,h,h0,h1=>by
  have hc:=h c (zpd ..)
  have hs:=Ia hc
  unfold inR at hc
  simp only [zqx]at h1
  simp only [Bb,List.sum_cons]
  rw [hs,ao (a+c) (by omega),zy r (a+c) (fun x hx=>h x (zpe _ hx)) (by omega) (by omega)]
  omega
theorem I8{gap:Int}(h:∀c∈cs,inR c)(hl:cs.length<=12)(hg:inR gap):0<=crt cs gap/\crt cs gap<=33554432/\∀c∈cs,c<=crt cs gap:=by
 unfold crt
 split
 ·rename_i e;subst e;exact⟨zpc 0,by decide,fun c hc=>by cases hc⟩
 ·rename_i e
  have hp:0<cs.length:=List.length_pos_iff.2 e
  obtain⟨s1,s2,s3⟩:=B8 cs h
  have m0:0<=gap*((cs.length:Int)-1):=Int.mul_nonneg hg.1 (by omega)
  have m1:gap*((cs.length:Int)-1)<=1048576*12:=Int.mul_le_mul hg.2 (by omega) (by omega) (by decide)
  rw [zy cs 0 h (zpc 0) (by omega)]
  generalize gap*((cs.length:Int)-1)=m at *
  rw [ao m (by omega),ao (0+cs.sum+m) (by omega)]
  exact⟨by omega,by omega,fun c hc=>by have:=s3 c hc;omega⟩
theorem H5(h:∀c∈cs,inR c)(hl:cs.length<=12)(hg:inR gap)(hi:inR inner):∀v∈xY cs gap inner ct,inR v:=by
 unfold xY
 split
 ·rename_i hc
  obtain⟨_,_,hf⟩:=hc
  obtain⟨c1,c2,c3⟩:=I8 h hl hg
  unfold inR at hi
  rw [ao (inner-crt cs gap) (by omega)]at hf⊢
  intro v hv
  obtain⟨q,hq,rfl⟩:=List.mem_map.1 hv
  obtain⟨a,b⟩:=q
  have ha:=List.of_mem_zip hq
  have h1:=h a ha.1
  have h2:=c3 a ha.1
  have h3:=I4 (by omega) (by omega) b ha.2
  unfold inR at h1⊢
  dsimp only
  rw [ao (a+b) (by omega)]
  omega
 ·exact h
theorem Jb(xs:List aw):inR (cro xs):=by
 unfold cro;split
 ·exact⟨zpc 0,by decide⟩
 ·exact wE _
theorem I9{p:Pl}(hac:p.ac.mode=3->inR p.ac.n){ls:List (List Int)}(hl:ls.length<=12)(S:List aw):∀v∈yZ p ls S,inR v:=by
 have h1:∀v∈ls.map (JJ p S),inR v:=fun v hv=>by
  obtain⟨l,_,rfl⟩:=List.mem_map.1 hv
  unfold JJ;split
  ·rename_i h;exact hac h.2
  ·exact Jb _
 unfold yZ
 split
 ·rename_i h;exact H5 h1 (by rw [zql];exact hl) (C8 _ _) (hac h.2)
 ·exact h1
theorem DD{p:Pl}(hI:eo I=true)(hac:p.ac.mode=3->inR p.ac.n)(S:List aw):acr (yZ p (nr p I) S) (uE p) (AW p (yZ p (nr p I) S))=true:=by
 have hl:(nr p I).length<=12:=zpb (nq ..) (wb hI).2
 have ha:=wC p (nr p I) S (by omega)
 simp only [acr,zqs,zqf,zqp]
 exact⟨fun c hc=>lV (I9 hac hl S c hc),by rw [ha];omega,lV (C8 _ _),lV (mP _ _)⟩
theorem C4(s:aM)(z:Int):(qt s z).mode=3->inR (qt s z).n:=by
 unfold qt
 split
 ·rename_i h;intro h3;rw [h]at h3;cases h3
 ·exact fun _=>wE _
theorem Iq(ns:List ae)(n:Int)(w h:aM):(plO ns n w h).ac.mode=3->inR (plO ns n w h).ac.n:=by
 show(if jY (kst ns n)then inH (kst ns n) h else inW (kst ns n) w).mode=3->inR (if jY (kst ns n)then inH (kst ns n) h else inW (kst ns n) w).n
 split
 ·exact C4 _ _
 ·exact C4 _ _
variable {ns:List ae}
theorem IH(ht:dy ns=true)(hk:isN ns k=true):Ca (kst ns k)=true:=by
 obtain⟨k1,k2,y,hy⟩:=bj hk
 rw [il hy]
 simp only [dy,zqs]at ht
 have:=(kq ns ns 0).1 ht.2 _ y hy
 simp only [fN,zqs]at this
 exact this.1
theorem Aj(bx:Bx)(p:Pl)(rtl:Bool)(ns:List ae):∀(ks:List Int)(st:St),(mA bx p rtl ns ks st).1.length=ks.length
 | [],_=>rfl
 |k::r,st=>by simp only [mA,zqx,Aj bx p rtl ns r]
theorem IJ(ht:dy ns=true){bx:Bx}(hb:∀k w h st,HE (bx k w h st).1)(p:Pl)(rtl:Bool){ks:List Int}(hk:∀k∈ks,isN ns k=true)(hkl:ks.length<=12)(st:St):eo (mA bx p rtl ns ks st).1=true:=by
 simp only [eo,zqs,zqf,zqp]
 refine⟨FS p rtl ns ks st (fun k _=>hb k) fun k ha=> ?_,by rw [Aj];omega⟩
 have:=IH ht (hk k ha)
 simp only [Ca,stN,zqs]at this
 exact⟨this.1.2.2.2.2.2.2.2.1,this.1.2.2.2.2.2.2.2.2.1⟩
def cN:Nat->Nat
 |0=>0
 |f+1=>40*cN f+1
theorem G7{V:LLA}{rtl keeps:Bool}{bx:Bx}{c L:Nat}{n:Int}(hk:∀kid∈flK ns n,zk V rtl keeps bx c L kid)(hkl:(flK ns n).length<20)(w h:aM)(st:St):(yH bx ns rtl n w h st).2.1.length<=st.1.length+(40*c+1)/\(yH bx ns rtl n w h st).2.2.length<=st.2.length+(40*c+1):=by
 unfold yH
 split
 ·dsimp only
  rw [zqe,zqm]
  omega
 ·split
  ·dsimp only;omega
  ·unfold EJ
   dsimp only
   rw [show(plO ns n w h).kids=flK ns n from rfl]
   have h1:=yN (V:=V) (rtl:=rtl) (keeps:=keeps) (L:=L) (plO ns n w h) ns (flK ns n) st hk
   obtain⟨ra,hc⟩:=nmE (mA bx (plO ns n w h) rtl ns (flK ns n) st)
   rw [<-hc]at h1⊢
   have h2:=yr (V:=V) (rtl:=rtl) (keeps:=keeps) (L:=L) (plO ns n w h) ns ((flK ns n).zip (sU (plO ns n w h) ra.1)) ra.2 fun k ha=>hk k.1 (by obtain⟨a,b⟩:=k;exact(List.of_mem_zip ha).1)
   rw [zqB,uW,h1.1,Nat.min_self]at h2
   have hb:(flK ns n).length*c<=20*c:=zpf c (by omega)
   have h3:=h1.2
   have h4:=h2.2
   omega
theorem Gk(ns:List ae)(rtl:Bool)(f:Nat)(n:Int)(w h:aM)(st:St):zb false ns rtl (f+1) n w h st=yH (zb false ns rtl f) ns rtl n w h st:=by
 show kpF false rtl (yH (zb false ns rtl f) ns rtl) n w h st=_
 unfold kpF
 rw [if_pos rfl]
theorem rC{ns:List ae}(hl:ns.length<=1048576)(hs:∀y∈ns,ae.small y)(ht:dy ns=true)(rtl:Bool):∀(f:Nat)(n:Int),isN ns n=true->5<=wB ns n+(f:Int)->zk (vwA ae.ac ns) rtl false (zb false ns rtl f) (cN f) 1073741824 n
 |0,n,hn,hd=>by have:=nA ht hn;omega
 |f+1,n,hn,hd=>by
  obtain⟨n1,n2,x,hx⟩:=bj hn
  have hi:=uU ht n1 hx
  have hf:=gR ht n1 hx
  have hb:∀ha∈flK ns n,zk (vwA ae.ac ns) rtl false (zb false ns rtl f) (cN f) 1073741824 ha:=fun ha hk=>by
   have hm:=wv hx ha hk
   have:=C0 ht n1 hx ha hm
   exact rC hl hs ht rtl f ha (hf ha hm) (by omega)
  have he:(flK ns n).length<=12:=by rw [Ar hx,nO];exact zpb (List.length_filter_le _ _) hi
  have hh:∀k∈flK ns n,isN ns k=true:=fun k h=>hf k (wv hx k h)
  refine⟨fun w h st=>by rw [Gk];exact G7 hb (by omega) w h st,fun w0 w1 h0 h1 st hm hq=> ?_⟩
  rw [Gk]
  have hI:=IJ ht (J9 ns rtl f) (plO ns n ⟨w0,w1⟩ ⟨h0,h1⟩) rtl hh he st
  refine sY _ rtl n _ _ _ _ _ w0 w1 h0 h1 (bT _) (bU _) (bT _) (bU _) (sW ns hl hs ht rtl false (zb false ns rtl f) (cN f) 1073741824 (zpk _) n x hn hx w0 w1 h0 h1 hb st hm hq (fun I hc l hj=> ?_) (fun I ho hc cs hg=> ?_))
  ·subst hc;exact DC hI l hj
  ·have e:I=(mA (zb false ns rtl f) (plO ns n ⟨w0,w1⟩ ⟨h0,h1⟩) rtl ns (flK ns n) st).1:=by rw [<-hc]
   rw [hg]
   exact DD (by rw [e];exact hI) (Iq ns n _ _) _
theorem GS(hl:ns.length<=1048576)(hs:∀y∈ns,ae.small y)(ht:dy ns=true)(rtl:Bool){kid:Int}(hk:isN ns kid=true):zk (vwA ae.ac ns) rtl false (zb false ns rtl 4) 65641 1073741824 kid:=
 rC hl hs ht rtl 4 kid hk (by have:=nA ht hk;omega)
def st0:St:=([],[])
theorem SM0:SM st0.1=[]:=rfl
theorem SA0:SA st0.2=[]:=rfl
def apS(bx:Bx)(ns:List ae)(rtl:Bool)(n kid w h:Int)(st:St):av×St:=
 (apF (kst ns n) (kst ns kid) rtl w h kid (bx kid (apX (kst ns kid) rtl (vx (kst ns n) w) (xq (kst ns n) h)) (apY (kst ns kid) rtl (vx (kst ns n) w) (xq (kst ns n) h)) st).1,(bx kid (apX (kst ns kid) rtl (vx (kst ns n) w) (xq (kst ns n) h)) (apY (kst ns kid) rtl (vx (kst ns n) w) (xq (kst ns n) h)) st).2)
theorem Hy{bx:Bx}{b:Bv}(hf:Fm bx b)(ns:List ae)(rtl:Bool)(n kid w h:Int)(st:St):(apS bx ns rtl n kid w h st).1=apG b ns rtl n kid w h:=by
 unfold apS apG
 dsimp only
 rw [hf]
theorem pp(s:ag)(a b:Int)(rtl:Bool)(base mb all size e0 e1 f0 f1:Int)(turned:Bool):PC0 79 [.agg (lc (ag.c s)),ai a,ai b,abl rtl,ai base,ai mb,ai all,ai size,.c (.view [[.J e0],[.J e1]]),.c (.view [[.J f0],[.J f1]]),abl turned] (.i (atF s a b rtl base mb all size e0 e1 f0 f1 turned)):=by
 have i0:=gF s a rtl base
 have i1:=gF s b rtl base
 have m0:=dF s.margin a rtl mb
 have m1:=dF s.margin b rtl mb
 unfold atF
 generalize hB0:x9 s a rtl base=B0 at i0
 generalize hB1:x9 s b rtl base=B1 at i1
 generalize hI0:xZ s a rtl base=I0 at i0
 generalize hI1:xZ s b rtl base=I1 at i1
 generalize hM0:jo s.margin a rtl mb=M0 at m0
 generalize hM1:jo s.margin b rtl mb=M1 at m1
 clear hB0 hB1 hI0 hI1 hM0 hM1
 refine aU func79 fun g F hg hF=> ?_
 cbv
 (repeat'(first|((first|refine ad hg i0 ?_|refine ad hg i1 ?_|refine aa hg m0 ?_|refine aa hg m1 ?_);cbv)|(cases B0<;>cbv)|(cases B1<;>cbv)|(cases turned<;>cbv)|((first|refine goX hg [.J e0] (by decide) rfl rfl ?_|refine goX hg [.J e1] (by decide) rfl rfl ?_|refine goX hg [.J f0] (by decide) rfl rfl ?_|refine goX hg [.J f1] (by decide) rfl rfl ?_);cbv)))
 all_goals exact aO hF (by simp only [aG hg,bZ hg];rfl)
theorem qX(ns:List ae)(hl:ns.length<=1048576)(n kid:Int)(x y:ae)(h1:isN ns n=true)(h2:isN ns kid=true)(hx:ns[(n-1).toNat]? =some x)(hy:ns[(kid-1).toNat]? =some y)(rtl keeps:Bool)(bx:Bx)(c L:Nat)(hbx:zk (vwA ae.ac ns) rtl keeps bx c L kid)(st:St)(hm:st.1.length+c<=L)(hq:st.2.length+c<=L)(wide high:Int):
  SE prog 50 (sR (vwA ae.ac ns) rtl keeps) (SM st.1) (SA st.2) [.c (.ptr 0 0 0),ai n,ai kid,ai wide,ai high] (.t (.agg (lc (av.c (apS bx ns rtl n kid wide high st).1)))) (SM (apS bx ns rtl n kid wide high st).2.1) (SA (apS bx ns rtl n kid wide high st).2.2):=by
 unfold apS
 rw [il hx,il hy]
 obtain⟨Kx,hf⟩:=nmE (vw aj x.kids)
 obtain⟨Rx,hi⟩:=nmE (vw aD.c x.table.rules)
 obtain⟨Ky,hh⟩:=nmE (vw aj y.kids)
 obtain⟨Ry,hj⟩:=nmE (vw aD.c y.table.rules)
 have b1:=bj h1
 have b2:=bj h2
 obtain⟨V,hV⟩:=nmE (vwA ae.ac ns)
 have cx:=bh ns n x b1.1 (by have:=b1.2.1;omega) hx V Kx Rx hV hf hi
 have cy:=bh ns kid y b2.1 (by have:=b2.2.1;omega) hy V Ky Ry hV hh hj
 rw [<-hV]at hbx⊢
 have cs:=p8 x.style y.style wide high rtl
 have cp:=nI x.style wide high
 generalize hW:vx x.style wide=W at cs cp;replace hW:=hW.symm
 generalize hH:xq x.style high=H at cs cp;replace hH:=hH.symm
 obtain⟨⟨X0,X1⟩,hX⟩:∃X,X=apX y.style rtl W H:=⟨_,rfl⟩
 obtain⟨⟨Y0,Y1⟩,hY⟩:∃X,X=apY y.style rtl W H:=⟨_,rfl⟩
 rw [<-hX,<-hY]at cs⊢
 have cB:=hbx.2 X0 X1 Y0 Y1 st hm hq
 obtain⟨q,hq⟩:=nmE (bx kid ⟨X0,X1⟩ ⟨Y0,Y1⟩ st)
 rw [<-hq]at cB⊢
 rw [acE]at cB
 dsimp only
 unfold apF
 rw [<-hW,<-hH]
 have pM:=bT st.1
 have pA:=bU st.2
 have hc:=bT q.2.1
 have hb:=bU q.2.2
 generalize hM0:SM st.1=M0 at cB pM
 generalize hA0:SA st.2=A0 at cB pA
 generalize hM2:SM q.2.1=M2 at cB hc
 generalize hA2:SA q.2.2=A2 at cB hb
 generalize hFR:vw av.c q.1.frames=FR at cB
 have c1:=cu y.style true W q.1.wide
 have c2:=cu y.style false H q.1.high
 generalize hfw:me y.style true W q.1.wide=fw at c1
 generalize hfh:me y.style false H q.1.high=fh at c2
 have cF:=fz x.style
 obtain⟨⟨r0,r1,r2,r3⟩,hr⟩:∃q,q=l7 x.style:=⟨_,rfl⟩
 rw [<-hr]at cF⊢
 have a1:=pp y.style 0 2 rtl W W wide fw x.style.border.left x.style.border.right r0 r2 rtl
 have a2:=pp y.style 1 3 rtl H W high fh x.style.border.top x.style.border.bottom r1 r3 false
 dsimp only
 generalize hP1:atF y.style 0 2 rtl W W wide fw x.style.border.left x.style.border.right r0 r2 rtl=P1 at a1
 generalize hP2:atF y.style 1 3 rtl H W high fh x.style.border.top x.style.border.bottom r1 r3 false=P2 at a2
 clear hP1 hP2 hfw hfh hFR hq hX hY hW hH hf hi hh hj hV hbx hM0 hA0 hM2 hA2 hr
 obtain⟨x0,x1,x2,x3,x4⟩:=x
 obtain⟨y0,y1,y2,y3,y4⟩:=y
 dsimp only at *
 refine mL [(3,.hand),(9,.hand),(10,.hand)] func50 (fun g hn hd F hk he hg hF=> ?_)
 cbv
 (repeat'((first|refine ad hg cx ?_|refine ad hg cy ?_);cbv))
 refine db hg he bn [0,1,2,3,4,5,6,7,8,9,10,11] (.op 12 [] (.op 13 [] (.op 14 [] (.op 15 [] .done .none) .none) .none) (.op 13 [] (.op 12 [] (.op 14 [] (.op 15 [] .done .none) .none) .none) .none)) (by kernel_rfl) (by kernel_rfl) (S:=Unit) (fun _=>True) (fun _=>[(0,.p 0),(2,.i (kid)),(3,.i (wide)),(4,.i (high)),(10,.p 3),(11,.p 4),(12,.p 5),(13,.p 6),(14,.p 7)]) (fun _=>[.bx 91 5 [.view V,.B rtl,.B keeps,.own 1,.own 2],.rw ⟨157,10,M0⟩,.rw ⟨172,6,A0⟩,.bx 45 5 [.J 0,.J 0,.J 0,.J 0,.J 0],.bx 36 60 (lc (ag.c x2)),.bx 36 60 (lc (ag.c y2)),.bx 122 2 [.J X0,.J X1],.bx 122 2 [.J Y0,.J Y1]]) (fun BL ha=> ?_) (fun _ _=> ?_)
 ·cbv
  ((repeat'(first|exact trivial|exact rfl|refine And.intro ?_ ?_|(refine aa hg cs ?_;cbv))))
  all_goals first
   |exact ha () trivial _ _ (Wk.weak (wkM [some 0,some 1,some 2,some 3,some 4,some 5,some 6,some 7] zr9 ⟨.inr (wqB rfl ⟨zr5,zpt⟩),.inr (wqE rfl pM),.inr (wqE rfl pA),.inr (wqE rfl rfl),.inr (wqE rfl rfl),.inr (wqE rfl rfl),.inr (wqE rfl rfl),.inr (wqE rfl rfl),zpt⟩ (by decide) ⟨.inr rfl,.inr rfl,.inr rfl,zpt⟩ ⟨.inr ⟨_,rfl⟩,.inr ⟨_,rfl⟩,.inr ⟨_,rfl⟩,zpt⟩))
   |exact ha () trivial _ _ (Wk.weak (wkM [some 0,some 1,some 2,some 3,some 4,some 5,some 7,some 6] zr9 ⟨.inr (wqB rfl ⟨zr5,zpt⟩),.inr (wqE rfl pM),.inr (wqE rfl pA),.inr (wqE rfl rfl),.inr (wqE rfl rfl),.inr (wqE rfl rfl),.inr (wqE rfl rfl),.inr (wqE rfl rfl),zpt⟩ (by decide) ⟨.inr rfl,.inr rfl,.inr rfl,zpt⟩ ⟨.inr ⟨_,rfl⟩,.inr ⟨_,rfl⟩,.inr ⟨_,rfl⟩,zpt⟩))
 cbv
 (repeat'((first|refine ad hg cp ?_|refine aa hg c1 ?_|refine aa hg c2 ?_|refine ad hg cF ?_|refine je rfl hg 0 1 2 cB rfl rfl rfl (by decide) rfl pM pA ⟨rfl,rfl,.inl ⟨rfl,rfl⟩,.inl ⟨rfl,rfl⟩,zpt⟩ rfl ?_);cbv))
 refine db hg he bn [0,1,2,3,4,5,6,7,8,9,10,11,12,13,15,16,17,18,20,21,22,23] (.op 14 [] (.op 19 [24,25] (.op 26 [] .done .none) .none) (.op 19 [] (.op 14 [24,25] (.op 26 [] .done .none) .none) .none)) (by kernel_rfl) (by kernel_rfl) (S:=Unit) (fun _=>True) (fun _=>[(0,.p 0),(4,.i (high)),(10,.p 3),(12,.p 6),(15,.i (W)),(16,.i (H)),(18,.p 7),(19,.p 8),(20,.p 9)]) (fun _=>[.bx 91 5 [.view V,.B rtl,.B keeps,.own 4,.own 5],.gn,.gn,.bx 45 5 [.J 0,.J 0,.J 0,.J 0,.J 0],.rw ⟨157,10,M2⟩,.rw ⟨172,6,A2⟩,.bx 36 60 (lc (ag.c y2)),.bx 34 4 [.J r0,.J r1,.J r2,.J r3],.bx 34 4 [.J x2.border.left,.J x2.border.top,.J x2.border.right,.J x2.border.bottom],.bx 45 5 [.J kid,.J P1,.J 0,.J fw,.J fh]]) (fun BL ha=> ?_) (fun _ _=> ?_)
 ·cbv
  ((repeat'(first|exact trivial|exact rfl|refine And.intro ?_ ?_|(refine fj hg a1 (bq rfl (ah (aq rfl) (ah (aq rfl) (ah (aq rfl) (ah (aq rfl) (ah (aq rfl) (ah (aq rfl) (ah (aq rfl) (ah (aX (ab:=⟨_,_,[[.imm (.int .i64 x2.border.left)],[.imm (.int .i64 x2.border.right)]]⟩) rfl (fun x hx=>by simp only [zph,List.not_mem_nil,or_false]at hx;rcases hx with rfl|rfl<;>rfl) (fun x hx=>by simp only [zph,List.not_mem_nil,or_false]at hx;rcases hx with rfl|rfl<;>rfl)) (ah (aX (ab:=⟨_,_,[[.imm (.int .i64 r0)],[.imm (.int .i64 r2)]]⟩) rfl (fun x hx=>by simp only [zph,List.not_mem_nil,or_false]at hx;rcases hx with rfl|rfl<;>rfl) (fun x hx=>by simp only [zph,List.not_mem_nil,or_false]at hx;rcases hx with rfl|rfl<;>rfl)) (ah (aq rfl) (ay)))))))))))) rfl ?_;cbv))))
  all_goals exact ha () trivial _ _ (Wk.weak (wkM [some 0,none,none,some 3,some 8,some 9,some 5,some 11,some 12,some 13] zr9 ⟨.inr (wqB rfl ⟨zr5,zpt⟩),.inl rfl,.inl rfl,.inr (wqE rfl rfl),.inr (wqE rfl hc),.inr (wqE rfl hb),.inr (wqE rfl rfl),.inr (wqE rfl rfl),.inr (wqE rfl rfl),.inr (wqE rfl rfl),zpt⟩ (by decide) ⟨.inl rfl,.inl rfl,.inr rfl,zpt⟩ ⟨.inl rfl,.inl rfl,.inr ⟨_,rfl⟩,zpt⟩))
 cbv
 refine db hg he bn [0,1,2,3,4,5,6,7,8,9,10,11,12,13,15,16,17,18] (.op 14 [] (.op 19 [20,21] (.op 22 [] .done .none) .none) (.op 19 [] (.op 14 [20,21] (.op 22 [] .done .none) .none) .none)) (by kernel_rfl) (by kernel_rfl) (S:=Unit) (fun _=>True) (fun _=>[(0,.p 0),(10,.p 3),(20,.p 6)]) (fun _=>[.bx 91 5 [.view V,.B rtl,.B keeps,.own 4,.own 5],.gn,.gn,.bx 45 5 [.J 0,.J 0,.J 0,.J 0,.J 0],.rw ⟨157,10,M2⟩,.rw ⟨172,6,A2⟩,.bx 45 5 [.J kid,.J P1,.J P2,.J fw,.J fh]]) (fun BL ha=> ?_) (fun _ _=> ?_)
 ·cbv
  ((repeat'(first|exact trivial|exact rfl|refine And.intro ?_ ?_|(refine fj hg a2 (bq rfl (ah (aq rfl) (ah (aq rfl) (ah (aq rfl) (ah (aq rfl) (ah (aq rfl) (ah (aq rfl) (ah (aq rfl) (ah (aX (ab:=⟨_,_,[[.imm (.int .i64 x2.border.top)],[.imm (.int .i64 x2.border.bottom)]]⟩) rfl (fun x hx=>by simp only [zph,List.not_mem_nil,or_false]at hx;rcases hx with rfl|rfl<;>rfl) (fun x hx=>by simp only [zph,List.not_mem_nil,or_false]at hx;rcases hx with rfl|rfl<;>rfl)) (ah (aX (ab:=⟨_,_,[[.imm (.int .i64 r1)],[.imm (.int .i64 r3)]]⟩) rfl (fun x hx=>by simp only [zph,List.not_mem_nil,or_false]at hx;rcases hx with rfl|rfl<;>rfl) (fun x hx=>by simp only [zph,List.not_mem_nil,or_false]at hx;rcases hx with rfl|rfl<;>rfl)) (ah (aq rfl) (ay)))))))))))) rfl ?_;cbv))))
  all_goals exact ha () trivial _ _ (Wk.weak (wkM [some 0,none,none,some 3,some 4,some 5,some 9] zr3 ⟨.inr (wqB rfl ⟨zr5,zpt⟩),.inl rfl,.inl rfl,.inr (wqE rfl rfl),.inr (wqE rfl hc),.inr (wqE rfl hb),.inr (wqE rfl rfl),zpt⟩ (by decide) ⟨.inl rfl,.inl rfl,.inr rfl,zpt⟩ ⟨.inl rfl,.inl rfl,.inr ⟨_,rfl⟩,zpt⟩))
 cbv
 exact su 4 5 hF rfl rfl rfl rfl rfl (by decide) rfl hc hb
theorem oX(ns:List ae)(hl:ns.length<=1048576)(hs:∀y∈ns,ae.small y)(n kid wide high:Int)(rtl:Bool):PC0 16 [.agg [.view (vwA ae.ac ns)],ai n,ai kid,ai wide,ai high,abl rtl] (.t (.agg (lc (av.c (afO ns n kid wide high rtl))))):=by
 have cO:=po ns hl hs n wide high
 have hb:DN ns n kid wide high=false->lc (av.c (afO ns n kid wide high rtl))=[.J 0,.J 0,.J 0,.J 0,.J 0]:=fun h=>by unfold afO;rw [if_pos h];rfl
 cases hO:(dy ns&&(rng n 1 (ns.length:Int)&&(rng wide 0 1048576&&rng high 0 1048576)))
 case false=>
  have hn:DN ns n kid wide high=false:=by
   cases hh:DN ns n kid wide high
   ·rfl
   ·simp only [DN,zqs]at hh
    simp only [hh,Bool.and_self]at hO
    cases hO
  rw [hb hn]
  rw [hO]at cO
  obtain⟨V,hV⟩:=nmE (vwA ae.ac ns)
  rw [<-hV]at cO⊢
  clear hb hn
  refine aU func16 fun g F hg hF=> ?_
  cbv
  repeat'(refine ad hg cO ?_;cbv)
  exact gj hF rfl ⟨rfl,rfl⟩
 rw [hO]at cO
 simp only [zqs]at hO
 obtain⟨hT,hI,hS,hS2⟩:=hO
 obtain⟨n1,n2,x,hx⟩:=bj (ns:=ns) (n:=n) hI
 have ha:=gR hT n1 hx
 have hm:=oY x (hs x (zqd hx))
 have cK:=i7 (kK ns n x hs hT hl n1 n2 hx hm ha) (zm (c:=aj) (k:=1) fun _=>rfl) mO
 have hi:apK ns n=x.kids.filter (lk ns):=by simp only [apK,kg,hx]
 have hf:(x.kids.filter (lk ns)).length<=1048576:=zpb (List.length_filter_le _ _) hm
 have cH:=jS (x.kids.filter (lk ns)) kid hf
 obtain⟨G,hG⟩:=nmE (vw aj (x.kids.filter (lk ns)))
 have hr:G.length=(x.kids.filter (lk ns)).length:=by rw [hG,ar]
 rw [<-hG]at cK cH
 rw [<-hi]at cH
 have hc:=Hq (apK ns n) kid
 obtain⟨C,hC⟩:=nmE (cnt (apK ns n) kid)
 rw [<-hC]at cH hc
 cases hH:Bw (apK ns n) kid
 case false=>
  rw [hb (by simp [DN,hH])]
  rw [hH]at hc
  obtain⟨V,hV⟩:=nmE (vwA ae.ac ns)
  rw [<-hV]at cO cK⊢
  clear hb hG hi hC
  refine aU func16 fun g F hg hF=> ?_
  have e:g .q .eql C 0=true:=by rw [bg hg];simpa using hc
  cbv
  (repeat'((first|rw [e]|refine ad hg cO ?_|refine ad hg cK ?_|refine ad hg cH ?_);cbv))
  exact gj hF rfl ⟨rfl,rfl⟩
 rw [hH]at hc
 have hj:=ha kid (Jl hx hH)
 obtain⟨m1,m2,y,hy⟩:=bj hj
 have ho:DN ns n kid wide high=true:=by simp only [DN,hT,hI,hH,hS,hS2,Bool.and_self]
 have hk:=GS hl hs hT rtl hj
 have ca:=qX ns hl n kid x y hI hj hx hy rtl false (zb false ns rtl 4) 65641 1073741824 hk st0 (by decide) (by decide) wide high
 rw [Hy (AO ns rtl 4),SM0,SA0]at ca
 have e:afO ns n kid wide high rtl=apG (wG ns rtl 4) ns rtl n kid wide high:=by unfold afO;rw [if_neg (by rw [ho];simp)]
 rw [e]
 clear e hb
 obtain⟨he,hd⟩:=nmE ((apS (zb false ns rtl 4) ns rtl n kid wide high st0).2)
 rw [<-hd]at ca
 have hq:=bT he.1
 have hp:=bU he.2
 generalize hM2:SM he.1=M2 at ca hq
 generalize hA2:SA he.2=A2 at ca hp
 obtain⟨X,hX⟩:=nmE (apG (wG ns rtl 4) ns rtl n kid wide high)
 rw [<-hX]at ca⊢
 obtain⟨X0,X1,X2,X3,X4⟩:=X
 obtain⟨V,hV⟩:=nmE (vwA ae.ac ns)
 rw [<-hV]at cO cK ca⊢
 clear hG hi hX hd hM2 hA2 hV hC hk
 refine aU func16 fun g F hg hF=> ?_
 have e:g .q .eql C 0=false:=by rw [bg hg];simpa using hc
 cbv
 (repeat'((first|rw [e]|refine ad hg cO ?_|refine ad hg cK ?_|refine ad hg cH ?_);cbv))
 refine Hr rfl hg 3 rfl [.bx 28 1 [.view V],.bx 45 5 [.J 0,.J 0,.J 0,.J 0,.J 0],.bx 91 5 [.view V,.B rtl,.B false,.own 3,.own 4],.rw ⟨157,10,[]⟩,.rw ⟨172,6,[]⟩] [.c (.ptr 2 0 0),ai n,ai kid,ai wide,ai high] [some 0,some 1,some 2,none,none] (wkM [some 0,some 1,some 2,none,none] ⟨zr5,zpt⟩ ⟨.inr (wqE rfl rfl),.inr (wqE rfl rfl),.inr (wqB rfl ⟨zr5,zpt⟩),.inr ⟨_,rfl,rfl⟩,.inr ⟨_,rfl,rfl⟩,zpt⟩ (by decide) ⟨.inr rfl,.inr rfl,.inr rfl,zpt⟩ ⟨.inr ⟨_,rfl⟩,.inr ⟨_,rfl⟩,.inr ⟨_,rfl⟩,zpt⟩) ?_
 (refine je rfl hg 2 3 4 ca rfl rfl rfl (by decide) rfl rfl rfl zr5 rfl ?_;cbv)
 exact gj hF rfl ⟨rfl,rfl⟩
def cU(c:Nat):Nat->Nat
 |0=>c
 |f+1=>c+12*(c+cU c f)
theorem oW(ns:List ae)(hl:ns.length<=1048576)(hs:∀y∈ns,ae.small y)(n:Int)(hno:(dy ns&&isN ns n)=false):bX prog 49 [.agg [.view (vwA ae.ac ns)],ai n] fun res ha=>res= .o 0/\ha=[⟨3,1,[]⟩]:=by
 have cT:=ip ns hl hs
 have hb:aJ (vwA ae.ac ns)=(ns.length:Int):=by rw [ak,bm]
 have cI:=fJ (vwA ae.ac ns) n
 rw [hb]at cI
 change PC0 _ _ (.t (abl (isN ns n)))at cI
 obtain⟨V,hV⟩:=nmE (vwA ae.ac ns)
 rw [<-hV]at cT cI⊢
 clear hb hV
 cases hT:dy ns
 case false=>
  rw [hT]at cT
  refine aU func49 fun g F hg hF=> ?_
  cbv
  repeat'(refine ad hg cT ?_;cbv)
  exact bH hF rfl rfl
 rw [hT]at cT hno
 have hI:isN ns n=false:=by simpa using hno
 rw [hI]at cI
 refine aU func49 fun g F hg hF=> ?_
 cbv
 repeat'((first|refine ad hg cT ?_|refine ad hg cI ?_);cbv)
 exact bH hF rfl rfl
theorem nM(ns:List ae)(hl:ns.length<=1048576)(hs:∀y∈ns,ae.small y)(n wide high:Int)(rtl:Bool):bX prog 21 [.agg [.view (vwA ae.ac ns)],ai n,ai wide,ai high,abl rtl] fun res ht=>res= .o 0/\ht=[⟨45,5,vw av.c (alO ns n wide high rtl)⟩]:=by
 have cO:=po ns hl hs n wide high
 change PC0 _ _ (.t (abl (uOk ns n wide high)))at cO
 have hK:∃xs:List Int,xs.length<=1048576/\(uOk ns n wide high=true->xs=apK ns n)/\PC0 49 [.agg [.view (vwA ae.ac ns)],ai n] (.t (.c (.view (vw aj xs)))):=by
  cases hti:dy ns&&isN ns n
  case false=>
   refine⟨[],by simp,fun h=> ?_,i7 (oW ns hl hs n hti) (fun x hx=>by cases hx) (fun x hx=>by cases hx)⟩
   simp only [uOk,zqs]at h
   rw [h.1,h.2.1]at hti
   cases hti
  obtain⟨hT,hI⟩:=Bool.and_eq_true_iff.1 hti
  obtain⟨n1,n2,x,hx⟩:=bj hI
  have hf:=gR hT n1 hx
  have hA:=oY x (hs x (zqd hx))
  exact⟨x.kids.filter (lk ns),zpb (List.length_filter_le _ _) hA,fun _=>by simp only [apK,kg,hx],i7 (kK ns n x hs hT hl n1 n2 hx hA hf) (zm (c:=aj) (k:=1) fun _=>rfl) mO⟩
 obtain⟨xs,hC,hp,cK⟩:=hK
 cases hO:uOk ns n wide high
 case false=>
  rw [show vw av.c (alO ns n wide high rtl)=[] by unfold alO;rw [if_pos hO];rfl]
  rw [hO]at cO
  obtain⟨V,hV⟩:=nmE (vwA ae.ac ns)
  obtain⟨G,hG⟩:=nmE (vw aj xs)
  rw [<-hV]at cO cK⊢
  rw [<-hG]at cK
  clear hp hG hV
  refine rH [(6,.hand)] func21 fun g hE hd F ha hm hg hF=> ?_
  cbv
  repeat'(refine ad hg cK ?_;cbv)
  refine fO [(6,.hand)] [] ha hm hg bn (by kernel_rfl) (fun s:Unit=>[(1,.i (n)),(2,.i (wide)),(3,.i (high)),(4,.t (abl (rtl))),(5,.p 0),(11,.o 1),(12,.v G),(13,.i (0))]) (fun s=>[.bx 28 1 [.view V],.rw ⟨45,5,[]⟩]) (fun s=>True) (fun s=>0) () trivial (Wk.weak (wkG [some _,some _] zr8 ⟨wqE rfl rfl,wqE rfl rfl,zpt⟩ (by decide) aB)) (fun s B hN hB=> ?_)
  cbv
  cases hc:g .q .lss 0 (g .ln G)
  ·cbv
   exact bH hF rfl rfl
  cbv
  repeat'(refine ad hg cO ?_;cbv)
  exact bH hF rfl rfl
 have hq:=hp hO
 rw [show alO ns n wide high rtl=(apK ns n).map fun hr=>apG (wG ns rtl 4) ns rtl n hr wide high by unfold alO;rw [if_neg (by rw [hO];simp)]]
 rw [<-hq]
 have hb:=hO
 simp only [uOk,zqs]at hb
 have cA:=fun k(hk:k∈xs)=>oX ns hl hs n k wide high rtl
 have hw:∀k∈xs,afO ns n k wide high rtl=apG (wG ns rtl 4) ns rtl n k wide high:=fun k hk=>by
  have h1:Bw (apK ns n) k=true:=by
   rw [hq]at hk
   simp only [Bw,List.any_eq_true,zqp]
   exact⟨k,hk,rfl⟩
  have h2:DN ns n k wide high=true:=by
   have h3:rng n 1 (ns.length:Int)=true:=hb.2.1
   simp only [DN,hb.1,h3,h1,hb.2.2.1,hb.2.2.2,Bool.and_self]
  unfold afO
  rw [if_neg (by rw [h2];simp)]
 rw [hO]at cO
 obtain⟨fA,hn⟩:∃f:Int->av,f=fun hr=>apG (wG ns rtl 4) ns rtl n hr wide high:=⟨_,rfl⟩
 have cA:=fun k(hk:k∈xs)=>(by have h:=cA k hk;rw [hw k hk]at h;exact h:PC0 16 [.agg [.view (vwA ae.ac ns)],ai n,ai k,ai wide,ai high,abl rtl] (.t (.agg (lc (av.c (apG (wG ns rtl 4) ns rtl n k wide high))))))
 have hv:∀k,apG (wG ns rtl 4) ns rtl n k wide high=fA k:=fun k=>by rw [hn]
 rw [<-hn]
 simp only [hv]at cA
 obtain⟨V,hV⟩:=nmE (vwA ae.ac ns)
 rw [<-hV]at cO cK⊢
 simp only [<-hV]at cA
 obtain⟨G,hG⟩:=nmE (vw aj xs)
 have hL:=lmV hG
 rw [<-hG]at cK
 obtain⟨W,hW⟩:=nmE (xs.map fA)
 have hM:W.length<=1048576:=by rw [hW,zql];exact hC
 rw [<-hW]
 obtain⟨Z,hZ⟩:=nmE (vw av.c W)
 rw [<-hZ]
 clear hv hn hw hp hq hb
 refine rH [(6,.hand)] func21 fun g hE hd F ha hm hg hF=> ?_
 cbv
 repeat'(refine ad hg cK ?_;cbv)
 refine j8 ([(6,.hand)]) ([]) ha hm hg bn (by kernel_rfl) G (fun x=>lc (aj x)) xs hG hC (fun z(s:List av×LLA)=>[(1,.i (n)),(2,.i (wide)),(3,.i (high)),(4,.t (abl (rtl))),(5,.p 0),(11,.o 1),(12,.v G),(13,.i (z))]) (fun z(s:List av×LLA)=>[.bx 28 1 [.view V],.rw ⟨45,5,s.2⟩]) (fun z(s:List av×LLA)=>s.2=vw av.c s.1) (fun(s:List av×LLA) rest=>s.1++rest.map fA) (W) ([],[]) (by rw [hW];rfl) rfl (Wk.weak (wkG [some _,some _] zr8 ⟨wqE rfl rfl,wqE rfl rfl,zpt⟩ (by decide) aB)) (fun z s B hz h0 hi he=> ?_) (fun z s x rest B z0 z1 z2 hx hy h0 hi hc e1 hB=> ?_)
 ·obtain⟨hj,E⟩:=s
  dsimp only at hi h0
  have pE:=pmV hi
  obtain rfl:hj=W:=by simpa using h0
  rw [hZ,<-hi]at hF
  cbv;rw [he];cbv
  exact bH hF rfl pE
 ·obtain⟨hj,E⟩:=s
  dsimp only at hi h0
  have cA:=cA x (zqd hx)
  obtain⟨⟨f0,f1,f2,f3,f4⟩,ho⟩:∃f,f=fA x:=⟨_,rfl⟩
  rw [<-ho]at cA
  have hh:=congrArg List.length h0
  rw [zqe]at hh
  have hJ:E.length<=1048576:=by rw [hi,ar];omega
  have h3:(hj++[(⟨f0,f1,f2,f3,f4⟩:av)])++rest.map fA=W:=by rw [<-h0,ho];simp
  have aE:E++[[.J f0,.J f1,.J f2,.J f3,.J f4]]=vw av.c (hj++[(⟨f0,f1,f2,f3,f4⟩:av)]):=by rw [hi,bi];rfl
  obtain⟨E2,hu⟩:∃E2,E2=E++[[.J f0,.J f1,.J f2,.J f3,.J f4]]:=⟨_,rfl⟩
  rw [<-hu]at aE
  have hD:=pmV aE
  clear hh ho
  cbv
  rw [hc]
  cbv
  repeat'(refine ad hg cO ?_;cbv)
  refine db hg hm bn [1,2,3,4,5,6,7,8,9,10] (.op 0 [] (.op 11 [] (.op 12 [] (.op 13 [] .done .none) .none) .none) (.op 11 [] (.op 0 [] (.op 12 [] (.op 13 [] .done .none) .none) .none) .none)) (by kernel_rfl) (by kernel_rfl) (S:=Unit) (fun _=>True) (fun _=>[(1,.i (n)),(2,.i (wide)),(3,.i (high)),(4,.t (abl (rtl))),(5,.p 0),(11,.o 1),(12,.v G),(13,.i (z))]) (fun _=>[.bx 28 1 [.view V],.rw ⟨45,5,E2⟩]) (fun BL hH=> ?_) (fun _ _=> ?_)
  ·cbv
   ((repeat'(first|exact trivial|exact rfl|refine And.intro ?_ ?_|((first|refine aa hg cA ?_|refine goX hg _ z0 hy rfl ?_|refine dh hg rfl (by decide) hJ ?_;cbv;rw [gd hg,<-hu]);cbv))))
   all_goals exact hH () trivial _ _ (Wk.weak (wkG [some _,some 3] zr8 ⟨wqE rfl rfl,wqE rfl hD,zpt⟩ (by decide) aB))
  cbv
  ((repeat'(rw [e1];cbv)))
  skip
  exact hB ((hj++[(⟨f0,f1,f2,f3,f4⟩:av)],E2)) _ _ ⟨h3,aE⟩ (Wk.weak (wkG [some _,some 1] zr8 ⟨wqE rfl rfl,wqE rfl hD,zpt⟩ (by decide) aB))
theorem nN(ns:List ae)(hl:ns.length<=1048576)(hs:∀y∈ns,ae.small y)(n wide high:Int)(rtl:Bool):PC0 21 [.agg [.view (vwA ae.ac ns)],ai n,ai wide,ai high,abl rtl] (.t (.c (.view (vw av.c (alO ns n wide high rtl))))):=
 i7 (nM ns hl hs n wide high rtl) (zm (c:=av.c) (k:=5) fun _=>rfl) mO
def rS(k:Int)(l0:Nat)(l1:Nat):List AC:=(.J (k):: .view (vw aj (gJ (k+1) l0)):: .J (k+1+1*((l0:Nat):Int)):: .J (k+1+1*((l0:Nat):Int)+1):: .J (k+1+1*((l0:Nat):Int)+2):: .J (k+1+1*((l0:Nat):Int)+3):: .J (k+1+1*((l0:Nat):Int)+4):: .J (k+1+1*((l0:Nat):Int)+5):: .B (m3 (k+1+1*((l0:Nat):Int)+6)):: .B (m3 (k+1+1*((l0:Nat):Int)+7)):: .J (k+1+1*((l0:Nat):Int)+8):: .J (k+1+1*((l0:Nat):Int)+9):: .J (k+1+1*((l0:Nat):Int)+10):: .J (k+1+1*((l0:Nat):Int)+11):: .J (k+1+1*((l0:Nat):Int)+12):: .J (k+1+1*((l0:Nat):Int)+13):: .J (k+1+1*((l0:Nat):Int)+14):: .J (k+1+1*((l0:Nat):Int)+15):: .J (k+1+1*((l0:Nat):Int)+16):: .J (k+1+1*((l0:Nat):Int)+17):: .J (k+1+1*((l0:Nat):Int)+18):: .J (k+1+1*((l0:Nat):Int)+19):: .J (k+1+1*((l0:Nat):Int)+20):: .J (k+1+1*((l0:Nat):Int)+21):: .J (k+1+1*((l0:Nat):Int)+22):: .J (k+1+1*((l0:Nat):Int)+23):: .J (k+1+1*((l0:Nat):Int)+24):: .J (k+1+1*((l0:Nat):Int)+25):: .J (k+1+1*((l0:Nat):Int)+26):: .J (k+1+1*((l0:Nat):Int)+27):: .J (k+1+1*((l0:Nat):Int)+28):: .J (k+1+1*((l0:Nat):Int)+29):: .J (k+1+1*((l0:Nat):Int)+30):: .J (k+1+1*((l0:Nat):Int)+31):: .J (k+1+1*((l0:Nat):Int)+32):: .J (k+1+1*((l0:Nat):Int)+33):: .J (k+1+1*((l0:Nat):Int)+34):: .J (k+1+1*((l0:Nat):Int)+35):: .J (k+1+1*((l0:Nat):Int)+36):: .J (k+1+1*((l0:Nat):Int)+37):: .J (k+1+1*((l0:Nat):Int)+38):: .J (k+1+1*((l0:Nat):Int)+39):: .J (k+1+1*((l0:Nat):Int)+40):: .J (k+1+1*((l0:Nat):Int)+41):: .J (k+1+1*((l0:Nat):Int)+42):: .J (k+1+1*((l0:Nat):Int)+43):: .J (k+1+1*((l0:Nat):Int)+44):: .J (k+1+1*((l0:Nat):Int)+45):: .J (k+1+1*((l0:Nat):Int)+46):: .J (k+1+1*((l0:Nat):Int)+47):: .J (k+1+1*((l0:Nat):Int)+48):: .J (k+1+1*((l0:Nat):Int)+49):: .J (k+1+1*((l0:Nat):Int)+50):: .J (k+1+1*((l0:Nat):Int)+51):: .J (k+1+1*((l0:Nat):Int)+52):: .J (k+1+1*((l0:Nat):Int)+53):: .J (k+1+1*((l0:Nat):Int)+54):: .J (k+1+1*((l0:Nat):Int)+55):: .J (k+1+1*((l0:Nat):Int)+56):: .J (k+1+1*((l0:Nat):Int)+57):: .J (k+1+1*((l0:Nat):Int)+58):: .J (k+1+1*((l0:Nat):Int)+59):: .B (m3 (k+1+1*((l0:Nat):Int)+60)):: .view (vw aD.c (fC (k+1+1*((l0:Nat):Int)+61) l1))::[])
def fc(k:Int)(l0:Nat)(l1:Nat):Int:=k+1+1*((l0:Nat):Int)+61+3*((l1:Nat):Int)
theorem yE(k:Int)(l0:Nat)(l1:Nat):fc k l0 l1=k+62+1*((l0:Nat):Int)+3*((l1:Nat):Int):=by unfold fc;omega
def dq:Int->List (Nat×Nat)->LLA
 |_,[]=>[]
 |k,⟨l0,l1⟩::ls=>rS k l0 l1::dq (fc k l0 l1) ls
def da:Int->List (Nat×Nat)->Int
 |k,[]=>k
 |k,⟨l0,l1⟩::ls=>da (fc k l0 l1) ls
theorem jc:∀(ls:List (Nat×Nat))(k:Int),k<=da k ls
 | [],k=>zpc k
 |⟨l0,l1⟩::ls,k=>by have:=jc ls (fc k l0 l1);unfold fc at this;unfold da fc;omega
theorem jn:∀(ls:List (Nat×Nat))(k:Int),(dq k ls).length=ls.length
 | [],k=>rfl
 |⟨l0,l1⟩::ls,k=>by simp [dq,jn ls]
theorem pI:∀(ls:List (Nat×Nat))(k:Int),∀x∈dq k ls,x.length=64
 | [],k,x,hx=>by simp [dq]at hx
 |⟨l0,l1⟩::ls,k,x,hx=>by
  rcases zph.1 hx with h|h
  ·rw [h];rfl
  ·exact pI ls _ x h
theorem Ed{kc q0 q1 q62 q63:Int}{l0:Nat}{l1:Nat}(hkc:0<=kc)(hkb:kc+62+1*((l0:Nat):Int)+3*((l1:Nat):Int)<=1152921504606846976)(hq0:q0=kc+1)(hq1:q1=q0+1*((l0:Nat):Int))(hq62:q62=q1+61)(hq63:q63=q62+3*((l1:Nat):Int)):q63=fc kc l0 l1/\(0<=kc/\kc+1<=1152921504606846976)/\(0<=q1/\q1+61<=1152921504606846976)/\(0<=q63/\q63+0<=1152921504606846976):=by
 unfold fc
 refine⟨?_,?_,?_,?_⟩<;>omega
def n9(x:List AC)(l:Nat×Nat):Prop:=∃u0 u2 u3 u4 u5 u6 u7 u8 u9 u10 u11 u12 u13 u14 u15 u16 u17 u18 u19 u20 u21 u22 u23 u24 u25 u26 u27 u28 u29 u30 u31 u32 u33 u34 u35 u36 u37 u38 u39 u40 u41 u42 u43 u44 u45 u46 u47 u48 u49 u50 u51 u52 u53 u54 u55 u56 u57 u58 u59 u60 u61 u62 F0 F1,x=(.imm u0:: .view F0:: .imm u2:: .imm u3:: .imm u4:: .imm u5:: .imm u6:: .imm u7:: .imm u8:: .imm u9:: .imm u10:: .imm u11:: .imm u12:: .imm u13:: .imm u14:: .imm u15:: .imm u16:: .imm u17:: .imm u18:: .imm u19:: .imm u20:: .imm u21:: .imm u22:: .imm u23:: .imm u24:: .imm u25:: .imm u26:: .imm u27:: .imm u28:: .imm u29:: .imm u30:: .imm u31:: .imm u32:: .imm u33:: .imm u34:: .imm u35:: .imm u36:: .imm u37:: .imm u38:: .imm u39:: .imm u40:: .imm u41:: .imm u42:: .imm u43:: .imm u44:: .imm u45:: .imm u46:: .imm u47:: .imm u48:: .imm u49:: .imm u50:: .imm u51:: .imm u52:: .imm u53:: .imm u54:: .imm u55:: .imm u56:: .imm u57:: .imm u58:: .imm u59:: .imm u60:: .imm u61:: .imm u62:: .view F1::[])/\(F0.length=l.1/\F0.length<=1048576/\pQ F0=true/\∀y∈F0,y.length=1)/\(F1.length=l.2/\F1.length<=1048576/\pQ F1=true/\∀y∈F1,y.length=3)
theorem yD{x:List AC}{l:Nat×Nat}(h:n9 x l):x.all dat=true/\x.length=64:=by
 obtain⟨u0,u2,u3,u4,u5,u6,u7,u8,u9,ha,hb,hc,hd,he,hf,hg,hh,hi,hj,hk,hl,hm,hn,ho,hp,hq,hr,hs,ht,hu,hv,hw,hx,hy,hz,hA,hB,hC,hD,hE,hF,hG,hH,hI,hJ,hK,hL,hM,hN,hO,hP,hQ,hR,hS,hT,hU,hV,hW,hX,hY,hZ,h0,F0,F1,rfl,-⟩:=h
 exact⟨rfl,rfl⟩
theorem Cl{e v:List AC}{u:Value}(h:e.map vwC= .imm u::v)(hb:e.all ij=true):∃e',e= .imm u::e'/\e'.map vwC=v/\e'.all ij=true:=by
 match e,h,hb with
 |x::e,h,hb=>
  rw [zqA,List.cons.injEq]at h
  rw [zqD,zqs]at hb
  exact⟨e,by rw [Fh hb.1 h.1],h.2,hb.2⟩
theorem FE{e v:List AC}{F:LLA}(h:e.map vwC= .view F::v)(hb:e.all ij=true):∃B e',e= .fv B F::e'/\e'.map vwC=v/\e'.all ij=true:=by
 match e,h,hb with
 |x::e,h,hb=>
  rw [zqA,List.cons.injEq]at h
  rw [zqD,zqs]at hb
  obtain⟨B,hB⟩:=Hw hb.1 h.1
  exact⟨B,e,by rw [hB],h.2,hb.2⟩
variable {r:List AC}
theorem Dq{D:LLA}{j:Nat}(h:D[j]? =some r)(i:Nat)(c:AC):∃x,x=r.set i c:=⟨_,rfl⟩
theorem Et{D E:LLA}{j:Nat}(h:D=E.set j r):∃x,x=r/\D=E.set j x:=⟨_,rfl,h⟩
def mkF(q:Int):Nat->Int
 |0=>q
 |i+1=>wrap64 (mkF q i+1)
theorem Eg{P:Program}{n0 N:Nat}{β:BP}{g:Gd}(hg:g=G0 P n0 N)(q:Int)(i:Nat):g .w .add .i64 (mkF q i) 1=mkF q (i+1):=by rw [aG hg];rfl
theorem FK{q:Int}(h0:0<=q)(hC:q+61<=1152921504606846976):∀i:Nat,i<=61->mkF q i=q+(i:Int)
 |0,_=>by simp [mkF]
 |i+1,h=>by rw [mkF,FK h0 hC i (by omega),ao _ (by omega)];omega
def Ii(k:Int)(A B:LLA)(f:Nat->Int):List AC:= .J k:: .view A:: .J (f 0)::((List.range 60).map (fun i=>if i=5\/i=6\/i=59 then .B (m3 (f (i+1)))else .J (f (i+1)))++[.view B])
theorem D8{kc q:Int}{l0 l1:Nat}{f:Nat->Int}(hq:q=kc+1+1*((l0:Nat):Int))(h:∀i:Nat,i<=61->f i=q+(i:Int)):Ii kc (vw aj (gJ (kc+1) l0)) (vw aD.c (fC (f 61) l1)) f=rS kc l0 l1:=by
 have e0:f 0=q:=by rw [h 0 (by decide)];exact Int.add_zero q
 have e1:∀i∈List.range 60,f (i+1)=q+((i+1:Nat):Int):=fun i hi=>h _ (by have:=List.mem_range.1 hi;omega)
 have e2:f 61=q+61:=h 61 (by decide)
 rw [Ii,e0,e2,zpl (g:=fun i=>if i=5\/i=6\/i=59 then AC.imm (.bool (m3 (q+((i+1:Nat):Int))))else .J (q+((i+1:Nat):Int))) fun i hi=>by rw [e1 i hi]]
 subst hq
 rfl
theorem qr(k0:Int):PC0 57 [.c (.view []),ai k0] (.i k0):=by
 refine rH [(6,.hand),(129,.hand),(14,.hand),(26,.hand),(38,.hand),(50,.hand),(62,.hand),(74,.hand),(86,.hand),(98,.hand),(110,.hand),(122,.hand)] func57 fun g hc hd F ha hb hg hF=> ?_
 cbv
 refine fO [(6,.hand),(129,.hand),(14,.hand),(26,.hand),(38,.hand),(50,.hand),(62,.hand),(74,.hand),(86,.hand),(98,.hand),(110,.hand),(122,.hand)] [] ha hb hg bn (by kernel_rfl) (fun _:Unit=>[(0,.t (.c (.view []))),(1,.i k0),(5,.i 0)]) (fun _=>[]) (fun _=>True) (fun _=>0) () trivial (Wk.weak (wk0 zr3)) (fun s B _ hB=> ?_)
 cbv
 have e:g .q .lss 0 (g .ln [])=false:=by rw [ba hg,bu hg];rfl
 rw [e]
 cbv
 exact aO hF rfl
theorem qq(k0:Int)(bs:List Nat)(V:LLA)(ls:List (Nat×Nat))(hV:V.length=ls.length)(hl:V.length<=1048576)(hok:∀(i:Nat)(x:List AC)(l:Nat×Nat),V[i]? =some x->ls[i]? =some l->n9 x l)(hnd:bs.Nodup)(hk0:0<=k0)(hk1:da k0 ls<=1152921504606846976):
  DP prog 57 [.c (.fv bs V),ai k0] [(bs,V,dq k0 ls)] (.int .i64 (da k0 ls)):=by
 by_cases hne:V=[]
 ·subst hne
  obtain rfl:ls=[]:=zqv (by simpa using hV.symm)
  exact vB (qr k0)
 have xi:∀x∈V,x.all dat=true/\x.length=64:=fun x hx=>by
  obtain⟨i,hi,rfl⟩:=zpi hx
  exact yD (hok i _ _ (zqc hi) (zqc (by omega)))
 have dV:=fun x hx=>(xi x hx).1
 have kV:=fun x hx=>(xi x hx).2
 refine xv (by kernel_rfl) hne kV dV hnd (by rw [jn,hV]) fun hy ty es xc ht e1 e2 e3 e4=> ?_
 clear hnd xc
 obtain⟨β,hβ⟩:∃β:BP,β=⟨0,fun b=>b∈hy⟩:=⟨_,rfl⟩
 have xj:∀b∈hy,β.ex b:=by rw [hβ];exact fun _ h=>h
 rw [<-hβ]
 clear hβ
 have xA:0<=aJ V:=by rw [ak];omega
 have xr:aJ V<=1048576:=by rw [ak];omega
 refine xN (h:=[.rw ⟨ty,64,es⟩]) [(6,.hand),(129,.hand),(14,.hand),(26,.hand),(38,.hand),(50,.hand),(62,.hand),(74,.hand),(86,.hand),(98,.hand),(110,.hand),(122,.hand)] [] (c:=jx f57) bn func57 (by kernel_rfl) (by kernel_rfl) (bl (by rfl)) (by kernel_rfl) fun g xz hd F ha hn hg hF=> ?_
 cbv
 refine fO [(6,.hand),(129,.hand),(14,.hand),(26,.hand),(38,.hand),(50,.hand),(62,.hand),(74,.hand),(86,.hand),(98,.hand),(110,.hand),(122,.hand)] [] ha hn hg bn (by kernel_rfl) (fun s:Int×Int×LLA=>[(0,.o 0),(1,.i s.2.1),(5,.i s.1)]) (fun s=>[.rw ⟨ty,64,s.2.2⟩]) (fun s=>∃R,DF 64 V R s.2.2 s.1 hy/\dq k0 ls=R++dq s.2.1 (ls.drop s.1.toNat)/\da k0 ls=da s.2.1 (ls.drop s.1.toNat)/\0<=s.2.1) (fun s=>(aJ V).toNat-s.1.toNat)
  (0,k0,es) ⟨[],DF.start e1 e2 e3 e4,rfl,rfl,hk0⟩ (Wk.weak (wk1 ⟨⟨_,rfl,rfl,bN e3⟩,zpt⟩ zr3)) (fun s B hs hB=> ?_)
 clear e1 e2 e3 e4
 obtain⟨z,kc,E⟩:=s
 obtain⟨R,hs,hR,hK,h8⟩:=hs
 simp only at hs hR hK h8
 have h0:=hs.z0
 have h1:=hs.z1
 have xe:aJ E=aJ V:=by rw [ak,ak,hs.len]
 cbv
 cases hc:g .q .lss z (g .ln E)
 ·rw [ba hg,bu hg,xe,zqo]at hc
  cbv
  have h4:=hs.all hc
  have h5:ls.drop z.toNat=[]:=by rw [ak]at hc;exact List.drop_eq_nil_of_le (by omega)
  rw [h5]at hR hK
  have xq:dq k0 ls=R:=by rw [hR];exact zpr R
  have xp:da k0 ls=kc:=hK
  rw [xq,xp]at hF
  exact EL hF (bN hs.bare) ⟨rfl,E,rfl,h4,hs.fp,hs.bare⟩
 ·rw [ba hg,bu hg,xe,zqp]at hc
  cbv
  obtain⟨j,hj⟩:=nmE z.toNat
  have xt:j<V.length:=by rw [hj];rw [ak]at hc;omega
  have hk:j<E.length:=by rw [hs.len];exact xt
  obtain⟨e,v,he,hv,hq,hr,xs⟩:=hs.at_ hj hc
  obtain⟨l,xl⟩:∃l,ls[j]? =some l:=⟨_,zqc (by omega)⟩
  have h5:ls.drop z.toNat=l::ls.drop (z+1).toNat:=by
   rw [<-hj,show(z+1).toNat=j+1 by omega]
   have hM:j<ls.length:=by omega
   rw [List.drop_eq_getElem_cons hM,<-Option.some.inj ((zqc hM).symm.trans xl)]
  rw [h5]at hR hK
  obtain⟨u0,u2,u3,u4,u5,u6,u7,u8,u9,xB,xC,xD,xE,xF,xG,xH,xI,xJ,xK,xL,xM,xO,xP,xQ,xR,xS,xT,xU,xV,xW,xX,xY,xZ,x0,x1,x2,x3,x4,x5,x6,x7,x8,x9,ya,yb,yc,yd,ye,yf,yg,yh,yi,yj,yk,yl,ym,yn,yo,yp,yq,yr,ys,F0,F1,xx,⟨hH,hY,hU,hW⟩,⟨hI,h3,hZ,h2⟩⟩:=hok j v l hv xl
  subst xx
  obtain⟨l0,l1⟩:=l
  simp only at hH hI
  subst hH hI
  obtain⟨l0,hN⟩:=nmE F0.length
  obtain⟨l1,hO⟩:=nmE F1.length
  rw [<-hN,<-hO]at hR hK
  obtain⟨e,rfl,hq,hr⟩:=Cl hq hr
  obtain⟨B0,e,rfl,hq,hr⟩:=FE hq hr
  iterate 61 obtain⟨e,rfl,hq,hr⟩:=Cl hq hr
  obtain⟨B1,e,rfl,hq,hr⟩:=FE hq hr
  obtain rfl:=List.map_eq_nil_iff.1 hq
  clear hq hr xs
  have xa:=uG (by rw [hs.fp];exact ht) he
  have hL:=fun b(hb:b∈fpL _)=>hs.fp▸Da he hb
  have xb:(B0++B1).Nodup:=by simpa [fpL,fpC]using xa
  obtain⟨hC,hE,hw⟩:=List.nodup_append.1 xb
  obtain⟨D,hD⟩:=nmE E
  have l_:j<D.length:=by rw [hD];exact hk
  have h_:=he
  have s_:=hD.trans (D3 he).symm
  rw [<-hD]at h_⊢
  have ez:g .w .add .i64 z 1=z+1:=by rw [aG hg,ao _ (by omega)]
  have xu:(aJ V).toNat-(z+1).toNat<(aJ V).toNat-z.toNat:=by omega
  have hJ:=jc (ls.drop (z+1).toNat) (fc kc l0 l1)
  have xf:da (fc kc l0 l1) (ls.drop (z+1).toNat)<=1152921504606846976:=by rw [show da (fc kc l0 l1) (ls.drop (z+1).toNat)=da k0 ls from hK.symm];exact hk1
  have xk:kc+62+1*((l0:Nat):Int)+3*((l1:Nat):Int)<=1152921504606846976:=by rw [<-yE];exact zpv hJ xf
  obtain⟨q0,hS⟩:=nmE (kc+1)
  obtain⟨q1,hT⟩:=nmE (q0+1*((l0:Nat):Int))
  obtain⟨hQ,hz,hA,xd⟩:=Ed h8 xk hS hT rfl rfl
  clear xk hJ xf
  have e0:=JU hg hz.1 hz.2 (Int.add_zero _).symm hS rfl (by decide) (by decide)
  obtain⟨m,xm⟩:=nmE m3
  have em:∀x,g .q .eql (g .w .rem .i64 x 3) 0=m x:=fun x=>by rw [xm,Ez hg,bg hg];rfl
  have h6:=FK hA.1 hA.2
  have f0:q1=mkF q1 0:=rfl
  have ew:=Eg hg q1
  generalize hf:mkF q1=f at h6 f0 ew
  have xw:q1=kc+1+1*((l0:Nat):Int):=by rw [hT,hS]
  rw [f0]at hT
  have xo:f 61=q1+61:=h6 61 (zpk _)
  obtain⟨xy,hP⟩:=nmE (f 61+3*((l1:Nat):Int))
  rw [<-xo,<-hP]at hQ
  generalize hC59:Code.seq (Code.region 123 _ _) _=C59
  generalize hC53:Code.seq (Code.region 111 _ _) _=C53
  generalize hC47:Code.seq (Code.region 99 _ _) _=C47
  generalize hC41:Code.seq (Code.region 87 _ _) _=C41
  generalize hC35:Code.seq (Code.region 75 _ _) _=C35
  generalize hC29:Code.seq (Code.region 63 _ _) _=C29
  generalize hC23:Code.seq (Code.region 51 _ _) _=C23
  generalize hC17:Code.seq (Code.region 39 _ _) _=C17
  generalize hC11:Code.seq (Code.region 27 _ _) _=C11
  generalize hC5:Code.seq (Code.region 15 _ _) _=C5
  iterate 1 ((try(rw [ew];cbv));refine yO hg h0 hj l_ ?_;cbv;refine⟨_,h_,?_⟩;cbv;generalize hG:g .st _ _ _=D;generalize hX:tu _ _ _=x at hG;cbv at hX;subst hX;obtain⟨s',h',l'⟩:=gZ hg hG s_ hk;clear hG s_ h_ l_;revert s' h' l';intro s_ h_ l_)
  rw [e0]
  cbv
  have ho:∀x∈D,x.all ij=true:=fun x hx=>by
   rw [s_]at hx
   rcases List.mem_or_eq_of_mem_set hx with h|h
   ·exact hs.bare x h
   ·rw [h];rfl
  have h7:fpE D=hy:=by rw [s_];exact(qO he (by rfl)).trans hs.fp
  have hm:=r8 q0 B0 F0 hY hW hU hC (by omega) (by omega)
  rw [<-hN]at hm
  rw [<-hT]at hm
  obtain⟨M0,xg⟩:=nmE ((vw aj (gJ q0 l0)))
  rw [<-xg]at hm
  refine oC hg hn bn 6 (by kernel_rfl) (fun mk h9=> ?_)
  cbv
  refine yO hg h0 hj l_ ?_
  cbv
  refine⟨_,h_,?_⟩
  cbv
  subst h9
  obtain⟨x,hx⟩:=Dq h_ 1 (.fv B0 M0)
  cbv at hx
  obtain⟨D',hD⟩:=nmE (D.set j x)
  subst hx
  obtain⟨s',h',l'⟩:=zL hD s_ hk
  refine⟨_,_,_,[(B0,F0,M0)],_,[(0,.o 0),(1,.i (q0)),(5,.i z)],[.rw ⟨ty,64,D'⟩],rfl,rfl,rfl,rfl,rfl,hm,fun u hu b hb=> ?_,fun u hu=> ?_,⟨.inr (.inl zr1),.inr (.inl zr1),.inr (.inl zr1),zpt⟩,⟨?_,zpt⟩,?_⟩
  ·rw [zpa.1 hu]at hb
   exact xj b (hL b (by simp [fpL,fpC];first|exact hb|exact .inl hb|exact .inr hb))
  ·rw [zpa.1 hu]
   exact⟨_,zpd ..,zpa.2 rfl⟩
  ·rw [hD]
   refine Fy h_ ho (by rw [h7];exact ht) (fun u hu b hb=> ?_) ?_
   ·rw [zpa.1 hu]at hb
    simp [fpL,fpC];first|exact hb|exact .inl hb|exact .inr hb
   ·iterate 63
     refine⟨?_,?_⟩
     first|exact .inr (.inl zr1)|exact .inr (.inr ⟨_,zpa.2 rfl,rfl,rfl⟩)|exact .inr (.inl ⟨rfl,fun b hb u hu hp=>(by rw [zpa.1 hu]at hp;first|exact hw b hb b hp rfl|exact hw b hp b hb rfl)⟩)
    exact⟨.inr (.inl ⟨rfl,fun b hb u hu hp=>(by rw [zpa.1 hu]at hp;first|exact hw b hb b hp rfl|exact hw b hp b hb rfl)⟩),zpt⟩
  cbv
  clear h_ s_ l_ hD
  revert D'
  intro D s_ h_ l_
  iterate 4 ((try(rw [ew];cbv));refine yO hg h0 hj l_ ?_;cbv;refine⟨_,h_,?_⟩;cbv;generalize hG:g .st _ _ _=D;generalize hX:tu _ _ _=x at hG;cbv at hX;subst hX;obtain⟨s',h',l'⟩:=gZ hg hG s_ hk;clear hG s_ h_ l_;revert s' h' l';intro s_ h_ l_)
  refine gP [] [] ha hn hg bn [(0,.o 0),(1,.i (f 4)),(5,.i z)] [.rw ⟨ty,64,D⟩] (by kernel_rfl) (fun B' hh=> ?_) ?_
  ·cbv
   rw [ew]
   exact hh _ _ (Wk.weak (wk1 ⟨⟨_,rfl,rfl,by rw [s_];exact ek (bN hs.bare) rfl⟩,zpt⟩ zr3))
  as_aux_lemma=>
   subst hC5
   cbv
   iterate 6 ((try(rw [ew];cbv));(try(refine HN hg (by decide) ?_;cbv;rw [em];cbv));refine yO hg h0 hj l_ ?_;cbv;refine⟨_,h_,?_⟩;cbv;generalize hG:g .st _ _ _=D;generalize hX:tu _ _ _=x at hG;cbv at hX;subst hX;obtain⟨s',h',l'⟩:=gZ hg hG s_ hk;clear hG s_ h_ l_;revert s' h' l';intro s_ h_ l_)
   refine gP [] [] ha hn hg bn [(0,.o 0),(1,.i (f 10)),(5,.i z)] [.rw ⟨ty,64,D⟩] (by kernel_rfl) (fun B' hh=> ?_) ?_
   ·cbv
    rw [ew]
    exact hh _ _ (Wk.weak (wk1 ⟨⟨_,rfl,rfl,by rw [s_];exact ek (bN hs.bare) rfl⟩,zpt⟩ zr3))
   as_aux_lemma=>
    subst hC11
    cbv
    iterate 6 ((try(rw [ew];cbv));refine yO hg h0 hj l_ ?_;cbv;refine⟨_,h_,?_⟩;cbv;generalize hG:g .st _ _ _=D;generalize hX:tu _ _ _=x at hG;cbv at hX;subst hX;obtain⟨s',h',l'⟩:=gZ hg hG s_ hk;clear hG s_ h_ l_;revert s' h' l';intro s_ h_ l_)
    refine gP [] [] ha hn hg bn [(0,.o 0),(1,.i (f 16)),(5,.i z)] [.rw ⟨ty,64,D⟩] (by kernel_rfl) (fun B' hh=> ?_) ?_
    ·cbv
     rw [ew]
     exact hh _ _ (Wk.weak (wk1 ⟨⟨_,rfl,rfl,by rw [s_];exact ek (bN hs.bare) rfl⟩,zpt⟩ zr3))
    as_aux_lemma=>
     subst hC17
     cbv
     iterate 6 ((try(rw [ew];cbv));refine yO hg h0 hj l_ ?_;cbv;refine⟨_,h_,?_⟩;cbv;generalize hG:g .st _ _ _=D;generalize hX:tu _ _ _=x at hG;cbv at hX;subst hX;obtain⟨s',h',l'⟩:=gZ hg hG s_ hk;clear hG s_ h_ l_;revert s' h' l';intro s_ h_ l_)
     refine gP [] [] ha hn hg bn [(0,.o 0),(1,.i (f 22)),(5,.i z)] [.rw ⟨ty,64,D⟩] (by kernel_rfl) (fun B' hh=> ?_) ?_
     ·cbv
      rw [ew]
      exact hh _ _ (Wk.weak (wk1 ⟨⟨_,rfl,rfl,by rw [s_];exact ek (bN hs.bare) rfl⟩,zpt⟩ zr3))
     as_aux_lemma=>
      subst hC23
      cbv
      iterate 6 ((try(rw [ew];cbv));refine yO hg h0 hj l_ ?_;cbv;refine⟨_,h_,?_⟩;cbv;generalize hG:g .st _ _ _=D;generalize hX:tu _ _ _=x at hG;cbv at hX;subst hX;obtain⟨s',h',l'⟩:=gZ hg hG s_ hk;clear hG s_ h_ l_;revert s' h' l';intro s_ h_ l_)
      refine gP [] [] ha hn hg bn [(0,.o 0),(1,.i (f 28)),(5,.i z)] [.rw ⟨ty,64,D⟩] (by kernel_rfl) (fun B' hh=> ?_) ?_
      ·cbv
       rw [ew]
       exact hh _ _ (Wk.weak (wk1 ⟨⟨_,rfl,rfl,by rw [s_];exact ek (bN hs.bare) rfl⟩,zpt⟩ zr3))
      as_aux_lemma=>
       subst hC29
       cbv
       iterate 6 ((try(rw [ew];cbv));refine yO hg h0 hj l_ ?_;cbv;refine⟨_,h_,?_⟩;cbv;generalize hG:g .st _ _ _=D;generalize hX:tu _ _ _=x at hG;cbv at hX;subst hX;obtain⟨s',h',l'⟩:=gZ hg hG s_ hk;clear hG s_ h_ l_;revert s' h' l';intro s_ h_ l_)
       refine gP [] [] ha hn hg bn [(0,.o 0),(1,.i (f 34)),(5,.i z)] [.rw ⟨ty,64,D⟩] (by kernel_rfl) (fun B' hh=> ?_) ?_
       ·cbv
        rw [ew]
        exact hh _ _ (Wk.weak (wk1 ⟨⟨_,rfl,rfl,by rw [s_];exact ek (bN hs.bare) rfl⟩,zpt⟩ zr3))
       as_aux_lemma=>
        subst hC35
        cbv
        iterate 6 ((try(rw [ew];cbv));refine yO hg h0 hj l_ ?_;cbv;refine⟨_,h_,?_⟩;cbv;generalize hG:g .st _ _ _=D;generalize hX:tu _ _ _=x at hG;cbv at hX;subst hX;obtain⟨s',h',l'⟩:=gZ hg hG s_ hk;clear hG s_ h_ l_;revert s' h' l';intro s_ h_ l_)
        refine gP [] [] ha hn hg bn [(0,.o 0),(1,.i (f 40)),(5,.i z)] [.rw ⟨ty,64,D⟩] (by kernel_rfl) (fun B' hh=> ?_) ?_
        ·cbv
         rw [ew]
         exact hh _ _ (Wk.weak (wk1 ⟨⟨_,rfl,rfl,by rw [s_];exact ek (bN hs.bare) rfl⟩,zpt⟩ zr3))
        as_aux_lemma=>
         subst hC41
         cbv
         iterate 6 ((try(rw [ew];cbv));refine yO hg h0 hj l_ ?_;cbv;refine⟨_,h_,?_⟩;cbv;generalize hG:g .st _ _ _=D;generalize hX:tu _ _ _=x at hG;cbv at hX;subst hX;obtain⟨s',h',l'⟩:=gZ hg hG s_ hk;clear hG s_ h_ l_;revert s' h' l';intro s_ h_ l_)
         refine gP [] [] ha hn hg bn [(0,.o 0),(1,.i (f 46)),(5,.i z)] [.rw ⟨ty,64,D⟩] (by kernel_rfl) (fun B' hh=> ?_) ?_
         ·cbv
          rw [ew]
          exact hh _ _ (Wk.weak (wk1 ⟨⟨_,rfl,rfl,by rw [s_];exact ek (bN hs.bare) rfl⟩,zpt⟩ zr3))
         as_aux_lemma=>
          subst hC47
          cbv
          iterate 6 ((try(rw [ew];cbv));refine yO hg h0 hj l_ ?_;cbv;refine⟨_,h_,?_⟩;cbv;generalize hG:g .st _ _ _=D;generalize hX:tu _ _ _=x at hG;cbv at hX;subst hX;obtain⟨s',h',l'⟩:=gZ hg hG s_ hk;clear hG s_ h_ l_;revert s' h' l';intro s_ h_ l_)
          refine gP [] [] ha hn hg bn [(0,.o 0),(1,.i (f 52)),(5,.i z)] [.rw ⟨ty,64,D⟩] (by kernel_rfl) (fun B' hh=> ?_) ?_
          ·cbv
           rw [ew]
           exact hh _ _ (Wk.weak (wk1 ⟨⟨_,rfl,rfl,by rw [s_];exact ek (bN hs.bare) rfl⟩,zpt⟩ zr3))
          as_aux_lemma=>
           subst hC53
           cbv
           iterate 6 ((try(rw [ew];cbv));refine yO hg h0 hj l_ ?_;cbv;refine⟨_,h_,?_⟩;cbv;generalize hG:g .st _ _ _=D;generalize hX:tu _ _ _=x at hG;cbv at hX;subst hX;obtain⟨s',h',l'⟩:=gZ hg hG s_ hk;clear hG s_ h_ l_;revert s' h' l';intro s_ h_ l_)
           refine gP [] [] ha hn hg bn [(0,.o 0),(1,.i (f 58)),(5,.i z)] [.rw ⟨ty,64,D⟩] (by kernel_rfl) (fun B' hh=> ?_) ?_
           ·cbv
            rw [ew]
            exact hh _ _ (Wk.weak (wk1 ⟨⟨_,rfl,rfl,by rw [s_];exact ek (bN hs.bare) rfl⟩,zpt⟩ zr3))
           as_aux_lemma=>
            subst hC59
            cbv
            iterate 3 ((try(rw [ew];cbv));(try(refine HN hg (by decide) ?_;cbv;rw [em];cbv));refine yO hg h0 hj l_ ?_;cbv;refine⟨_,h_,?_⟩;cbv;generalize hG:g .st _ _ _=D;generalize hX:tu _ _ _=x at hG;cbv at hX;subst hX;obtain⟨s',h',l'⟩:=gZ hg hG s_ hk;clear hG s_ h_ l_;revert s' h' l';intro s_ h_ l_)
            rw [ew]
            cbv
            have ho:∀x∈D,x.all ij=true:=fun x hx=>by
             rw [s_]at hx
             rcases List.mem_or_eq_of_mem_set hx with h|h
             ·exact hs.bare x h
             ·rw [h];rfl
            have h7:fpE D=hy:=by rw [s_];exact(qO he (by rfl)).trans hs.fp
            have hm:=qn (f 61) B1 F1 h3 h2 hZ hE (by omega) (by omega)
            rw [<-hO]at hm
            rw [<-hP]at hm
            obtain⟨M1,xh⟩:=nmE ((vw aD.c (fC (f 61) l1)))
            rw [<-xh]at hm
            refine oC hg hn bn 7 (by kernel_rfl) (fun mk h9=> ?_)
            cbv
            refine yO hg h0 hj l_ ?_
            cbv
            refine⟨_,h_,?_⟩
            cbv
            subst h9
            obtain⟨x,hx⟩:=Dq h_ 63 (.fv B1 M1)
            cbv at hx
            obtain⟨D',hD⟩:=nmE (D.set j x)
            subst hx
            obtain⟨s',h',l'⟩:=zL hD s_ hk
            refine⟨_,_,_,[(B1,F1,M1)],_,[(0,.o 0),(1,.i (f 61)),(5,.i z)],[.rw ⟨ty,64,D'⟩],rfl,rfl,rfl,rfl,rfl,hm,fun u hu b hb=> ?_,fun u hu=> ?_,⟨.inr (.inl zr1),.inr (.inl zr1),.inr (.inl zr1),zpt⟩,⟨?_,zpt⟩,?_⟩
            ·rw [zpa.1 hu]at hb
             exact xj b (hL b (by simp [fpL,fpC];first|exact hb|exact .inl hb|exact .inr hb))
            ·rw [zpa.1 hu]
             exact⟨_,zpd ..,zpa.2 rfl⟩
            ·rw [hD]
             refine Fy h_ ho (by rw [h7];exact ht) (fun u hu b hb=> ?_) ?_
             ·rw [zpa.1 hu]at hb
              simp [fpL,fpC];first|exact hb|exact .inl hb|exact .inr hb
             ·iterate 63
               refine⟨?_,?_⟩
               first|exact .inr (.inl zr1)|exact .inr (.inr ⟨_,zpa.2 rfl,rfl,rfl⟩)|exact .inr (.inl ⟨rfl,fun b hb u hu hp=>(by rw [zpa.1 hu]at hp;first|exact hw b hb b hp rfl|exact hw b hp b hb rfl)⟩)
              exact⟨.inr (.inr ⟨_,zpa.2 rfl,rfl,rfl⟩),zpt⟩
            cbv
            clear h_ s_ l_ hD
            revert D'
            intro D s_ h_ l_
            rw [ez]
            obtain⟨x,hx,s'⟩:=Et s_
            rw [s']
            have xn:=hs.step (r:=rS kc l0 l1) hj hc he (e':=x) (by rw [hx,<-D8 xw h6,xg,xh,xm,hS];rfl) (by rw [hx];rfl) (by rw [hx];rfl) (by rw [hx];rfl)
            rw [hB]
            refine⟨(z+1,xy,_),⟨_,xn,?_,?_,by simp only;rw [hQ];exact zpv h8 (by have:=jc [⟨l0,l1⟩] kc;exact this)⟩,xu,Wk.weak (wk1 ⟨⟨_,rfl,rfl,bN xn.bare⟩,zpt⟩ zr3)⟩
            ·simp only
             rw [hQ,zqC]
             exact hR
            ·simp only
             rw [hQ]
             exact hK
theorem xt{x:List AC}{l:Nat×Nat}(h:n9 x l):x.length=64:=by
 obtain⟨u0,u2,u3,u4,u5,u6,u7,u8,u9,ha,hb,hc,hd,hf,hg,hh,hi,hj,hk,hl,hm,hn,ho,hp,hq,hr,hs,ht,hu,hv,hw,hx,hy,hz,hA,hB,hC,hD,hE,hF,hG,hH,hI,hJ,hK,hL,hM,hN,hO,hP,hQ,hR,hS,hT,hU,hV,hW,hX,hY,hZ,h0,h1,F0,F1,he,-⟩:=h
 rw [he];rfl
theorem yC(x:ae)(hs:x.small):n9 x.ac (x.kids.length,x.table.rules.length):=by
 obtain⟨a0,a1,⟨a2,a3,a4,a5,a6,a7,a8,a9,hc,hd,he,⟨hf,hg⟩,⟨hh,hi⟩,⟨hj,hk⟩,⟨hl,hm⟩,⟨hn,ho⟩,⟨hp,hq⟩,⟨hr,ht⟩,hu,⟨⟨hv,hw⟩,⟨hx,hy⟩,⟨hz,hA⟩,⟨hB,hC⟩,⟨hD,hE⟩,⟨hF,hG⟩⟩,⟨⟨hH,hI⟩,⟨hJ,hK⟩,⟨hL,hM⟩,⟨hN,hO⟩,⟨hP,hQ⟩,⟨hR,hS⟩⟩,⟨hT,hU,hV,hW⟩,⟨hX,hY,hZ,h0⟩,h1,h2⟩,h3,⟨h4⟩⟩:=x
 obtain⟨hb,ha,-⟩:=hs
 exact⟨_,_,_,_,_,_,_,_,_,_,_,_,_,_,_,_,_,_,_,_,_,_,_,_,_,_,_,_,_,_,_,_,_,_,_,_,_,_,_,_,_,_,_,_,_,_,_,_,_,_,_,_,_,_,_,_,_,_,_,_,_,_,_,_,rfl,⟨by simp [vw],by simpa [vw]using hb,wV _ _,zm (c:=aj) (k:=1) fun _=>rfl⟩,⟨by simp [vw],by simpa [vw]using ha,wV _ _,zm (c:=aD.c) (k:=3) fun _=>rfl⟩⟩
theorem r7(k0:Int)(b0:List Nat)(V0:LLA)(ls0:List (Nat×Nat))(hV0:V0.length=ls0.length)(hl0:V0.length<=1048576)(hok0:∀(i:Nat)(x:List AC)(l:Nat×Nat),V0[i]? =some x->ls0[i]? =some l->n9 x l)
  (hnd:b0.Nodup) (hk0:0<=k0) (hk1:da k0 ls0<=1152921504606846976):
  DP prog 24 [.agg [.fv b0 V0],ai k0] [(b0,V0,dq k0 ls0)] (.int .i64 (da k0 ls0)):=by
 have he:=qq k0 b0 V0 ls0 hV0 hl0 hok0 hnd hk0 hk1
 have hf:∃k:Nat,(∀x∈V0,x.length=k)/\∀x∈dq k0 ls0,x.length=k:=⟨64,fun x hx=>by
  obtain⟨i,hi,rfl⟩:=zpi hx
  exact xt (hok0 i _ _ (zqc hi) (zqc (by omega))),pI ls0 k0⟩
 have hh:(dq k0 ls0).length=V0.length:=by rw [jn,hV0]
 clear hok0
 obtain⟨R0,ha⟩:=nmE (dq k0 ls0)
 obtain⟨K1,hc⟩:=nmE (da k0 ls0)
 rw [<-ha,<-hc]at he
 rw [<-ha]at hf hh
 rw [<-ha,<-hc]
 clear ha hc hk1
 refine CL (fun u hu=> ?_) ?_
 ·rw [zpa.1 hu];exact⟨hf,hh⟩
 obtain⟨β,hβ⟩:∃β:BP,β=⟨0,fun b=>∃u∈[(b0,V0,R0)],b∈u.1⟩:=⟨_,rfl⟩
 have hm:∀b∈b0,β.ex b:=by rw [hβ];exact fun b hb=>⟨_,zpd ..,hb⟩
 rw [<-hβ]
 clear hβ
 refine xN (h:=[]) [(1,.hand)] [] (c:=jx f24) bn func24 (by kernel_rfl) (by kernel_rfl) (bl (by rfl)) (by kernel_rfl) fun g hn hd F hj hk hg hF=> ?_
 cbv
 refine oC hg hk bn 3 (by kernel_rfl) (fun mk hl=> ?_)
 cbv
 subst hl
 refine⟨_,_,_,[(b0,V0,R0)],_,[(2,.p 0),(4,.i 0)],[.bx 28 1 [.fv b0 R0]],rfl,rfl,rfl,rfl,rfl,he,fun u hu b hb=>hm b (by rw [zpa.1 hu]at hb;exact hb),fun u hu=> ?_,⟨.inr (.inl zr1),.inr (.inl zr1),zpt⟩,⟨⟨rfl,rfl,.inr (.inr ⟨_,zpa.2 rfl,rfl,rfl⟩),zpt⟩,zpt⟩,?_⟩
 ·rw [zpa.1 hu];exact⟨_,zpd ..,zpa.2 rfl⟩
 cbv
 refine Kt hF 0 _ _ [.fv b0 R0] rfl rfl (fun u hu=> ?_)
 rw [zpa.1 hu];exact zpd ..
theorem l9:∀(ls:List (Nat×Nat))(k:Int),(∀l∈ls,l.1<=1048576/\l.2<=1048576)->da k ls<=k+4194366*(ls.length:Int)
 | [],k,_=>by simp [da]
 |l::ls,k,h=>by
  have h1:=l9 ls (fc k l.1 l.2) fun l' hl=>h l' (zpe _ hl)
  obtain⟨h2,h3⟩:=h l (zpd ..)
  unfold da
  unfold fc at h1⊢
  simp only [zqx]
  omega
theorem yG(ns:List ae)(hl:ns.length<=1048576)(hs:∀y∈ns,ae.small y):∃(R0:LLA)(K:Int),0<=K/\K<=1152921504606846976/\∀b0:List Nat,b0.Nodup->DP prog 24 [.agg [.fv b0 (vwA ae.ac ns)],ai 1] [(b0,vwA ae.ac ns,R0)] (.int .i64 K):=by
 have k0:=jc (ns.map fun m=>(m.kids.length,m.table.rules.length)) 1
 have k2:=l9 (ns.map fun m=>(m.kids.length,m.table.rules.length)) 1 (fun l hl=>by
  obtain⟨m,hm,rfl⟩:=List.mem_map.1 hl
  have:=hs m hm
  obtain⟨a0,a1,⟨a2,a3,a4,a5,a6,a7,a8,a9,hc,hd,he,⟨hf,hg⟩,⟨hh,hi⟩,⟨hj,hk⟩,⟨hn,ho⟩,⟨hp,hq⟩,⟨hr,ht⟩,⟨hu,hv⟩,hw,⟨⟨hy,hz⟩,⟨hA,hB⟩,⟨hC,hD⟩,⟨hE,hF⟩,⟨hG,hH⟩,⟨hI,hJ⟩⟩,⟨⟨hK,hL⟩,⟨hM,hN⟩,⟨hO,hP⟩,⟨hQ,hR⟩,⟨hS,hT⟩,⟨hU,hV⟩⟩,⟨hW,hX,hY,hZ⟩,⟨h0,h1,h2,h3⟩,h4,h5⟩,h6,⟨h7⟩⟩:=m
  exact⟨this.1,this.2.1⟩)
 rw [zql]at k2
 refine⟨_,_,zpv (by decide) k0,by omega,fun b0 hb=>r7 1 b0 _ (ns.map fun m=>(m.kids.length,m.table.rules.length)) (by simp [vwA]) (by simpa [vwA]using hl) (fun i x l hx hl=> ?_) hb (by decide) (by omega)⟩
 simp only [vwA,zqi,zqj]at hx hl
 obtain⟨m,hm,rfl⟩:=hx
 obtain⟨m',ha,rfl⟩:=hl
 rw [hm]at ha
 cases ha
 exact yC m (hs m (zqd hm))
section
variable {P:Program}{n0 N:Nat}{g:Gd}
variable {K:AV->EH->Prop}{f:FuncId}{args args':List AT}
theorem AI{β:BP}(hg:g=G0 P n0 N){h:EH}{ab:AB}(hc:bX P f args' fun res hd=>res= .o 0/\hd=[ab])(ha:qD (toH h) args args')(hp:pQ ab.es=true)
  (hK:K (.t (.c (.own (mz h)))) (h++[.rw ab])):g .C f h args K:=
 Jf hg hc ha fun res hd hb=>by
  obtain⟨rfl,rfl⟩:=hb
  refine⟨rfl,fun hf he=> ?_,[.rw ab],?_,?_⟩
  ·obtain rfl:=zpa.1 he
   exact j7 hp _ _
  ·simp only [zqA,List.map_nil,fX (fu hp)];rfl
  ·rw [dv]at hK;rw [bP];exact hK
theorem xP{β:BP}(hg:g=G0 P n0 N){h:EH}{n:Nat}{ab:AB}(hc:bX P f args' fun res hb=>res= .o 0/\hb=[ab])(ha:qD (toH h) args args')(hp:pQ ab.es=true)
  (hK:K (.o n) [.rw ab]):g .PC f h n args K:=
 Je hg hc ha rfl (fun he hd=>by
  obtain rfl:=zpa.1 hd
  exact j7 hp _ _) [.rw ab] (by simp only [zqA,List.map_nil,fX (fu hp)];rfl) hK
theorem Con.toB{β:BP}{h:AH}{args:List AT}{Post:AV->AH->Prop}(hc: @Con bp0 P f h args Post):Con P f h args Post:=
 ⟨hc.1,fun F w m vs hH hl ha=>(hc.2 F w m vs (hH.bp (zpn _)) hl ha).mono fun e w'⟨v,res,h',m',F',he,hp,hG,hs,hv⟩=>by
  refine⟨v,res,h',m',F',he,hp,hG,?_,hv⟩
  obtain⟨h1,h2,h3,h4,h5,h6,h7,h8⟩:=hs
  exact⟨h1.bp (zpb hH.lo h6),h2,h3,h4,h5,h6,h7,h8⟩⟩
theorem Jg{β:BP}(hg:g=G0 P n0 N){H:EH}{args:List AT}(r:Nat){ab ab':AB}{R k:Int}
  (hc: @Con bp0 P f (toH [.rw ab]) [.c (.own 0),ai k] fun res h'=>∃eh,toH eh=h'/\(res= .i R/\eh=[.rw ab'])) (hr:nth H r=some (.rw ab)) (hp:az ab.es=true) (hp':az ab'.es=true) (ha:args=[.c (.own r),ai k])
  (hK:K (.t (.c (.J R))) (BK H r (.rw ab'))):g .C f H args K:=by
 subst ha
 have hb:r<H.length:=by rw [fB]at hr;exact(zqb.1 hr).1
 refine Du hg [r] (Con.toB hc) (by simp) (by simpa using hb) ⟨⟨ab,ab,rfl,by rw [hr];rfl,rfl,rfl,.inl ⟨rfl,hp⟩⟩,zpt⟩ zr2 fun res eh⟨h1,h2⟩=> ?_
 subst h1 h2
 rw [ni]at hK
 simp only [dl,EE.mv,Iu hp',List.map_nil,zpr]
 exact hK
end
theorem jq(w:World)(a0:iR)(f0:a0.fit)(v0:Value)(r0:RT (fun b=>b<w.heap.size) w [] [] (.agg a0.ac) v0)(a1:Int)(a2:Int)(a3:Int)(a4:Bool):
  Calls prog 5 #[v0,.int .i64 a1,.int .i64 a2,.int .i64 a3,.bool a4] w fun e w'=>e= .returned (.bool true)/\Below w.heap.size w w':=by
 have cz:=vU a0 1048576 f0 (by decide) (by decide)
 have ck:a0.small->_:=fun hs=>vN a0 hs
 have ct:a0.small->_:=fun hs=>vM a0 hs
 have ce:a0.small->_:=fun hs=>vY a0 hs
 obtain⟨ns⟩:=a0
 have cm:iR.small ⟨ns⟩->_:=fun hs=>yG ns hs.1 hs.2.1
 have cs:iR.small ⟨ns⟩->_:=fun hs=>nN ns hs.1 hs.2.1 a1 a2 a3 a4
 have ci:iR.small ⟨ns⟩->_:=fun hs=>oB ns hs.1 hs.2.1 a1 a2 a3 a4
 have hf:(alO ns a1 a2 a3 a4).length<=1048576:=HB ..
 have eg:=si (alO ns a1 a2 a3 a4) (alO ns a1 a2 a3 a4) hf
 rw [zqu rfl]at eg
 obtain⟨T,hT⟩:=nmE (vwA ae.ac ns)
 obtain⟨G,hG⟩:=nmE (vw av.c (alO ns a1 a2 a3 a4))
 have iG:=imV hG
 have kG:=kmV (k:=5) hG fun _=>rfl
 have dG:=dmV hG
 have pG:=fu iG
 have hh:G.length<=1048576:=by rw [hG,ar];exact hf
 replace r0:RT (fun b=>b<w.heap.size) w [] [] (.agg [.view T]) v0:=by rw [hT];exact r0
 obtain⟨S,hS⟩:∃S:Prop,S=iR.small ⟨ns⟩:=⟨_,rfl⟩
 rw [<-hS]at ck ct ce cs ci cm
 replace cz:bX prog 15 [.agg [.view T],ai 1048576] (fun res ha=>∃R:Int,res= .i R/\ha=[]/\(R<=1048576\/R<0)/\(0<=R->S)):=by rw [hT,hS];exact cz
 replace ck:S->PC0 17 [.agg [.view T]] (.t (.agg [.view T])):=by rw [hT];exact ck
 replace ct:S->BI prog 17 [.agg [.view T]] (fun lo res ha=>(∃b,res= .t (.agg [.fv b T])/\m9 lo b)/\dt res=true/\ha=[]):=by rw [hT];exact ct
 replace ce:S->PC0 20 [.agg [.view T],.agg [.view T]] (.t (abl true)):=by rw [hT];exact ce
 rw [<-hT]at cm
 rw [<-hT,<-hG]at cs ci
 rw [<-hG]at eg
 clear hS hT hG f0 hf
 refine G9 5 [(13,.hand)] [] (S) (args:=fun lo=>[.agg [.old lo T],ai a1,ai a2,ai a3,abl a4]) (c:=jx Tryz.f5) (fun lo=>[(1,.i a1),(2,.i a2),(3,.i a3),(4,.t (abl a4)),(5,.p 0),(12,.v G)]) (fun lo=>[.bx 48 1 [.old lo T]]) bn Tryz.func5 (by kernel_rfl) (by kernel_rfl) (fun _=>by rfl) (by kernel_rfl) (fun β g hk hd F B hi he hj hg hF hB=> ?_) (fun β lo g hk hd F hs hl hi he hj hg hF=> ?_) (vs:=[v0,.int .i64 a1,.int .i64 a2,.int .i64 a3,.bool a4]) rfl (jO (Ih (xs:=[.view T]) rfl r0) (jO (rfl) (jO (rfl) (jO (rfl) (jO (rfl) (Dx))))))
 ·clear r0
  cbv
  refine Gi hg cz ⟨zr1,rfl,zpt⟩ (fun res ha⟨R,hres,hrows,hR1,hR2⟩=> ?_)
  subst hres hrows
  refine⟨[],rfl,?_⟩
  cbv
  cases hlt:g .q .lss R 0
  case true=>
   cbv
   rw [hF]
  rw [ba hg,zqo]at hlt
  have hs:S:=hR2 (by omega)
  cbv
  repeat'((first|refine za hg (ck hs) ⟨zr1,zpt⟩ rfl ?_|refine za hg (cs hs) (gQ rfl) rfl ?_);cbv)
  skip
  exact hB hs _ _ (Wk.weak (wkG [some _] zr6 ⟨wqE rfl rfl,zpt⟩ (by decide) aB))
 ·clear r0 cz
  replace ck:=ck hs
  replace ct:=ct hs
  replace ce:=ce hs
  replace cs:=cs hs
  replace ci:=ci hs
  replace cm:=cm hs
  cbv
  refine AJ hg ct ⟨zr1,zpt⟩ (fun lo0 res q1 q2 q3⟨b0,hres,hn⟩=> ?_)
  subst hres
  replace hn:=hn.mono q1
  clear q1 q2 q3
  cbv
  repeat'(refine AI hg ci (.agg (.cons (.fv _ _) .nil) (.c (.imm _) (.c (.imm _) (.c (.imm _) (.c (.imm _) .nil))))) iG ?_;cbv)
  refine xQ hg eg (.c (aX (ab:=⟨_,_,G⟩) rfl kG dG) (.c (.old _ _) .nil)) rfl ?_
  cbv
  refine oH hg ck ⟨zr1,zpt⟩ rfl ?_
  cbv
  refine oH hg ce ⟨⟨.inl rfl,zpt⟩,zr1,zpt⟩ rfl ?_
  cbv
  obtain⟨R0,K,hp,hq,cm⟩:=cm
  have hm:=cm b0 hn.1
  clear cm
  refine oC hg hj bn 2 (by kernel_rfl) (fun mk ho=> ?_)
  cbv
  subst ho
  refine⟨_,_,_,[(b0,T,R0)],_,[(1,.i a1),(2,.i a2),(3,.i a3),(4,.t (abl a4)),(5,.p 0),(12,.t (.c (.old β.lo G))),(13,.p 1),(14,.o 2)],[.bx 48 1 [.old lo T],.bx 28 1 [.dead],.rw ⟨45,5,G⟩],rfl,rfl,rfl,rfl,rfl,hm,fun u hu b hb=> ?_,fun u hu=> ?_,
   ⟨.inr (.inl zr1),.inr (.inl zr1),.inr (.inl zr1),.inr (.inl zr1),.inr (.inl zr1),.inr (.inl ⟨rfl,fun u hu b hb=> ?_⟩),.inr (.inl zr1),.inr (.inl zr1),zpt⟩,
   ⟨⟨rfl,rfl,.inr (.inl ⟨rfl,fun u hu b hb=> ?_⟩),zpt⟩,⟨rfl,rfl,.inl rfl,zpt⟩,.inl ⟨rfl,iG⟩,zpt⟩,?_⟩
  ·rw [zpa.1 hu]at hb;exact hi b (hn.2 b hb)
  ·rw [zpa.1 hu];exact⟨_,zpd ..,zpd ..⟩
  ·rw [zpa.1 hu]at hb;exact hn.2 b hb
  ·rw [zpa.1 hu]at hb;exact zpb hl (hn.2 b hb)
  clear hm hn
  have hc:=o7 1 G kG pG hh (by decide) (by decide)
  have ch:=o8 1 G.length hh (by decide) (by decide)
  rw [<-ak]at ch
  obtain⟨Y,hY⟩:=nmE (vw av.c (fq 1 G.length))
  have pY:=pmV hY
  have kY:=kmV (k:=5) hY fun _=>rfl
  have dY:=dmV hY
  rw [<-hY]at hc ch
  obtain⟨M,hM⟩:∃M:Int,M=1+5*aJ G:=⟨_,rfl⟩
  have bM:¬M<0:=by rw [hM,ak];omega
  rw [<-hM]at hc ch
  clear hY hM
  have eK:g .q .lss K 0=false:=by rw [ba hg];exact zqt (by omega)
  have e4:g .q .lss M 0=false:=by rw [ba hg];exact zqt bM
  have e5:g .q .neq M M=false:=by rw [bB hg];simp
  cbv
  rw [eK]
  cbv
  refine xQ hg eg (.c (aX (ab:=⟨_,_,G⟩) rfl kG dG) (.c (.old _ _) .nil)) rfl ?_
  cbv
  refine Jg hg 2 hc rfl pG pY rfl ?_
  cbv
  refine xQ hg ch (.c (aX (ab:=⟨_,_,Y⟩) rfl kY dY) (.c (.imm _) .nil)) rfl ?_
  cbv
  rw [e4]
  cbv
  rw [e5]
  cbv
  repeat'((first|refine za hg ck ⟨zr1,zpt⟩ rfl ?_|refine AI hg ci (.agg (.cons (.view _) .nil) (.c (.imm _) (.c (.imm _) (.c (.imm _) (.c (.imm _) .nil))))) iG ?_);cbv)
  refine xQ hg eg (.c (aX (ab:=⟨_,_,G⟩) rfl kG dG) (.c (.old _ _) .nil)) rfl ?_
  cbv
  refine xQ hg ch (.c (aX (ab:=⟨_,_,Y⟩) rfl kY dY) (.c (.imm _) .nil)) rfl ?_
  cbv
  rw [e4]
  cbv
  rw [e5]
  cbv
  rw [hF]
end Go.Proofs.YtckchgoblpgpbaaGreat
