/- The reference's layout of a node with children in its flow. -/
import Derived.Test.YtckchgoblpgpbaaGreatJ5bs
set_option linter.unusedVariables false
set_option linter.unusedSimpArgs false
set_option maxHeartbeats 32000000
namespace Go.Proofs.YtckchgoblpgpbaaGreat
open Go.ChangeShapes Go.WideShapes Go.ChangeAt Go.RowKit Am Go.Proofs.Tryz
set_option maxRecDepth 100000
theorem CW{xs:List ag}{ss:List Int}{gap inner js:Int}(h:al5 xs ss gap inner=true):(alg xs ss gap inner js).length=ss.length:=by
 unfold alg
 rw [if_neg (by rw [h];simp),uW,zqB]
 simp only [al5,zqs,zqp]at h
 omega
theorem Cr{g:Gd}(hg:g= @G0 bp0 prog 3 f148.ntmps){Q:Exit->List (Nat×AV)->EH->Prop}(V:LLA)(rtl keeps:Bool)(n:Int)(s0:aj)(row:Bool)(al ac:aI)(KW w0 w1 h0' h1':Int)(K M A0:LLA)(pM:aC M=true)(pA:aC A0=true)(IN GP AC':Int)(vI vL vZ vS vC vT:LLA)(fl ft fr fb:Int)(wd hgh iw ih:aI)(kids:List Int)(hK:K=vw ak kids)(hkl:kids.length<=1048576)(I:List ag)(hvI:vI=vw ag.c I)(hIl:I.length=kids.length)(ZZ CC ST:List Int)(S1:List ar)(hvZ:vZ=vw ak ZZ)(hvC:vC=vw ak CC)(hvT:vT=vw ak ST)(hvS:vS=vw ar.c S1)(hTl:ST.length=CC.length)
  (hzl:ZZ.length=kids.length) (hsl:S1.length=kids.length) (hf:lw s0=⟨fl,ft,fr,fb⟩) (hGP:GP=jd s0 row) (LL:List (List Int)) (hH:vL=vwA lnA LL) (hLl:LL.length<=1048576) (hcl:CC.length=LL.length) (hfl:LL.flatten=ixs 0 kids.length) (hal:∀l∈LL,al5 (lit I l) (l.map (elZ ZZ)) GP IN=true)
  (E:LLA) (hE:E=vw aM.c (List.replicate kids.length ⟨0,0,0,0,0⟩))
  (hQ:∀(z:Int)(E:LLA),E=vw aM.c (wy ⟨s0,row,wd,hgh,iw,ih,al,ac,kids⟩ rtl I IN AC' ZZ S1 ST 0 (LL.zip CC))->Q (.exit 0) [(109,.t (abl (false))),(108,.i (g .ln vL)),(107,.v vL),(106,.i (z)),(0,.p 0),(5,.p 3),(6,.p 4),(7,.p 5),(8,.p 6),(9,.v vI),(10,.v vZ),(11,.i (IN)),(12,.i (GP)),(13,.v vL),(14,.v vS),(15,.v vC),(16,.i (AC')),(18,.v vT),(19,.p 9),(20,.p 10),(21,.i (z))] [.bx 91 5 [.view V,.B rtl,.B keeps,.own 7,.own 8],.gn,.gn,.bx 180 68 (nwL n s0 row al ac KW (.view K)),.bx 122 2 [.J w0,.J w1],.bx 122 2 [.J h0',.J h1'],.bx 127 4 [.J 0,.J 0,.J 0,.N],.rw ⟨157,10,M⟩,.rw ⟨172,6,A0⟩,.bx 34 4 [.J fl,.J ft,.J fr,.J fb],.bx 127 4 [.J 0,.J 0,.J 0,.own 11],.rw ⟨45,5,E⟩]):
  g .L (lV (aJ f148) 0) Q [(0,.p 0),(5,.p 3),(6,.p 4),(7,.p 5),(8,.p 6),(9,.v vI),(10,.v vZ),(11,.i (IN)),(12,.i (GP)),(13,.v vL),(14,.v vS),(15,.v vC),(16,.i (AC')),(18,.v vT),(19,.p 9),(20,.p 10),(21,.i (0))] [.bx 91 5 [.view V,.B rtl,.B keeps,.own 7,.own 8],.gn,.gn,.bx 180 68 (nwL n s0 row al ac KW (.view K)),.bx 122 2 [.J w0,.J w1],.bx 122 2 [.J h0',.J h1'],.bx 127 4 [.J 0,.J 0,.J 0,.N],.rw ⟨157,10,M⟩,.rw ⟨172,6,A0⟩,.bx 34 4 [.J fl,.J ft,.J fr,.J fb],.bx 127 4 [.J 0,.J 0,.J 0,.own 11],.rw ⟨45,5,E⟩]:=by
 have hI:vL=(LL.zip CC).map (fun t=>lnA t.1):=by rw [hH];exact pi hcl
 have hJ:(LL.zip CC).map (·.1)=LL:=fu hcl
 have hp:(LL.zip CC).length<=1048576:=by rw [zqB];exact Nat.le_trans (Nat.min_le_left ..) hLl
 have ho:=fun{i t} h=>wA (a:=LL) (b:=CC) (i:=i) (t:=t) h
 have hU:∀l∈LL,∀i∈l,0<=i/\i<(kids.length:Int):=fun l hl i hi=>by
  have:i∈LL.flatten:=List.mem_flatten.2 ⟨l,hl,hi⟩
  rw [hfl,ll]at this
  omega
 obtain⟨qs,hF⟩:=nmE (LL.zip CC)
 rw [<-hF]at hI hJ hp hQ
 simp only [<-hF]at ho
 have hT:(qs.map (·.1)).flatten=ixs 0 kids.length:=by rw [hJ];exact hfl
 obtain⟨q,hq⟩:∃q:Pl,q=⟨s0,row,wd,hgh,iw,ih,al,ac,kids⟩:=⟨_,rfl⟩
 rw [<-hq]at hQ
 obtain⟨D1,hN⟩:=nmE (wy q rtl I IN AC' ZZ S1 ST 0 qs)
 rw [<-hN]at hQ
 have xc:I.length<=1048576:=by omega
 have xd:BD q=GP:=by rw [hq,hGP];rfl
 have xe:q.s.justify=s0.justify:=by rw [hq]
 have hu:=fun(zo c st lb:Int)(h1:0<=zo)(h2:CC[zo.toNat]? =some c)(h2':ST[zo.toNat]? =some st) PS vP h3 l h4 L vW h5 h5' h6 done h7 h8 E h9 Q' hQ'=>Cs hg (Q:=Q') V rtl keeps n s0 row al ac KW w0 w1 h0' h1' K M A0 pM pA IN GP AC' vI vL vZ vS vC vT fl ft fr fb zo wd hgh iw ih kids hK ZZ CC ST PS S1 hvZ hvC hvT hvS vP h3 hzl hsl hf h1 c h2 st h2' lb l h4 L vW h5 h5' h6 done h7 h8 E h9 hQ'
 simp only [<-hq]at hu
 replace hH:=hI
 have pE:=pmV hE
 refine aY hg ay (by kernel_rfl) vL (fun t=>lnA t.1) qs hH hp (fun z(s:Int×List aM×LLA)=>[(0,.p 0),(5,.p 3),(6,.p 4),(7,.p 5),(8,.p 6),(9,.v vI),(10,.v vZ),(11,.i (IN)),(12,.i (GP)),(13,.v vL),(14,.v vS),(15,.v vC),(16,.i (AC')),(18,.v vT),(19,.p 9),(20,.p 10),(21,.i (z))]) (fun z(s:Int×List aM×LLA)=>[.bx 91 5 [.view V,.B rtl,.B keeps,.own 7,.own 8],.gn,.gn,.bx 180 68 (nwL n s0 row al ac KW (.view K)),.bx 122 2 [.J w0,.J w1],.bx 122 2 [.J h0',.J h1'],.bx 127 4 [.J 0,.J 0,.J 0,.N],.rw ⟨157,10,M⟩,.rw ⟨172,6,A0⟩,.bx 34 4 [.J fl,.J ft,.J fr,.J fb],.bx 127 4 [.J 0,.J 0,.J 0,.own 11],.rw ⟨45,5,s.2.2⟩]) (fun z(s:Int×List aM×LLA)=>s.1=z/\s.2.2=vw aM.c (s.2.1++List.replicate (kids.length-s.2.1.length) ⟨0,0,0,0,0⟩)) (fun(s:Int×List aM×LLA) rest=>(s.2.1++wy q rtl I IN AC' ZZ S1 ST s.1 rest,ixs 0 s.2.1.length++(rest.map (·.1)).flatten)) ((D1,ixs 0 kids.length)) (0,[],E) (by rw [hN];exact Prod.ext rfl hT) ⟨rfl,hE⟩ (Wk.weak (wkM [some 0,none,none,some 3,some 4,some 5,some 6,some 7,some 8,some 9,some 10,some 11] ⟨rfl,rfl,rfl,rfl,rfl,rfl,rfl,rfl,rfl,rfl,rfl,rfl,rfl,rfl,rfl,rfl,rfl,trivial⟩ ⟨.inr ⟨_,_,rfl,rfl,rfl,rfl,.inr ⟨zr5,trivial⟩⟩,.inl rfl,.inl rfl,.inr (wqE rfl rfl),.inr (wqE rfl rfl),.inr (wqE rfl rfl),.inr (wqE rfl rfl),.inr (wqE rfl pM),.inr (wqE rfl pA),.inr (wqE rfl rfl),.inr ⟨_,_,rfl,rfl,rfl,rfl,.inr ⟨zr4,trivial⟩⟩,.inr (wqE rfl pE),trivial⟩ (by decide) ⟨.inl rfl,.inl rfl,.inr rfl,trivial⟩ ⟨.inl rfl,.inl rfl,.inr ⟨_,rfl⟩,trivial⟩)) (fun z s B hz h0 hi he=> ?_) (fun z s x rest B z0 z1 z2 hx hy h0 hi hc e1 hB=> ?_)
 ·obtain⟨k,D,E1⟩:=s
  obtain⟨i1,i2⟩:=hi
  obtain⟨ht,hj⟩:=Prod.mk.inj h0
  dsimp only at i1 i2
  obtain rfl:D=D1:=by simpa [wy]using ht
  have xa:D.length=kids.length:=by
   have:=congrArg List.length hj
   simpa [bX]using this
  have hQ:=hQ z E1 (by rw [i2,xa,Nat.sub_self,List.replicate_zero,List.append_nil])
  cbv
  rw [he]
  cbv
  exact hQ
 ·obtain⟨k,done,E1⟩:=s
  obtain⟨l,c⟩:=x
  obtain⟨i1,i2⟩:=hi
  obtain⟨ht,hj⟩:=Prod.mk.inj h0
  dsimp only at i1 i2 hy ht hj
  subst i1
  obtain⟨L,hL⟩:=nmE (vw ak l)
  have xi:vL[k.toNat]? =some [.view L]:=by rw [hL];exact hy
  have hG:=nA hj
  rw [bX]at hG
  have hn:=lM (l:=l) (ls:=rest.map (fun t:List Int×Int=>t.1)) hG.2.2
  have hd:l.length<=1048576:=Nat.le_trans hn.1 (Nat.le_trans (Nat.sub_le ..) hkl)
  have hA:=zqd (ho hx).1
  have hC:=hU l hA
  have hM:=pmV i2
  have hV:done.length+l.length<=kids.length:=by have:=hn.1;omega
  have hr:=gK I l xc hd
  have hs:=oC S1 l (by omega) hd (fun i hi=>by have:=hC i hi;omega)
  have hv:=na (pck S1 l) (Nat.le_trans (tS S1 l) hd)
  have hm:(l.map (elZ ZZ)).length<=1048576:=by rw [zql];exact hd
  have hh:=mZ (lit I l) (l.map (elZ ZZ)) GP IN s0.justify (Nat.le_trans qD hd) hm
  obtain⟨PS,hw⟩:=nmE (Ft q I IN ZZ l)
  have ha:alg (lit I l) (l.map (elZ ZZ)) GP IN s0.justify=PS:=by rw [hw];unfold Ft;rw [xd,xe]
  rw [ha]at hh
  have hS:PS.length=l.length:=by rw [<-ha,CW (hal l hA),zql]
  obtain⟨lb,hb⟩:=nmE (bas (pck S1 l))
  rw [<-hb]at hv
  obtain⟨LI,hP⟩:=nmE (vw ag.c (lit I l));(try rw [<-hP]at hr);(try rw [<-hP]at hh)
  obtain⟨PK,hR⟩:=nmE (vw ar.c (pck S1 l));(try rw [<-hR]at hs);(try rw [<-hR]at hv)
  rw [<-hvI,<-hL]at hr
  rw [<-hvS,<-hL]at hs
  obtain⟨W,hW⟩:=nmE (vw ak (l.map (elZ ZZ)))
  have xl:W.length=(l.map (elZ ZZ)).length:=by rw [hW,aq]
  have iW:=imV hW
  have kW:=kmV (k:=1) hW fun _=>rfl
  have dW:=dmV hW
  rw [<-hW]at hh
  obtain⟨vP,hk⟩:=nmE (vw ak PS)
  have xh:=lmV hk
  have hY:=imV hk
  have xj:=kmV (k:=1) hk fun _=>rfl
  have hZ:=dmV hk
  rw [<-hk]at hh
  have xg:∀i∈l,0<=i/\i<(ZZ.length:Int):=fun i hi=>by have:=hC i hi;omega
  have xf:k.toNat<CC.length:=(List.getElem?_eq_some_iff.1 (ho hx).2).1
  obtain⟨st,hX⟩:∃v,ST[k.toNat]? =some v:=⟨_,zqc (by omega)⟩
  have hu:=hu k c st lb z0 (ho hx).2 hX PS vP hk l hS L W hL hW hd done (by simpa using hn.2.1) hV E1 i2
  have h3:∀D,D=done++rg q rtl IN AC' ZZ S1 (elZ ST k) c lb PS 0 l->(D++wy q rtl I IN AC' ZZ S1 ST (k+1) rest,ixs 0 D.length++(rest.map (·.1)).flatten)=(D1,ixs 0 kids.length):=fun D hD=>Prod.ext (by
   rw [<-ht,hD,hb,hw,zqC];rfl) (by
   show ixs 0 D.length++(rest.map (·.1)).flatten=ixs 0 kids.length
   rw [<-hj,hD,zqe,lO,jK,zqC]
   congr 1
   rw [zqA,List.flatten_cons]
   congr 1
   exact hn.2.1.symm)
  clear hG hn hV hj hT hJ ho hI hq hF hC hU ha hw hb hvI hvS hm hA hal hS xf hX
  cbv
  rw [hc]
  cbv
  refine goX hg _ z0 xi rfl ?_
  cbv
  refine li hg (lV (aJ f148) 1) (by kernel_rfl) [(0,.p 0),(5,.p 3),(6,.p 4),(7,.p 5),(8,.p 6),(9,.v vI),(10,.v vZ),(11,.i (IN)),(12,.i (GP)),(13,.v vL),(14,.v vS),(15,.v vC),(16,.i (AC')),(18,.v vT),(19,.p 9),(20,.p 10),(21,.i (k)),(22,.v L),(23,.o 12),(24,.i (0))] [.bx 91 5 [.view V,.B rtl,.B keeps,.own 7,.own 8],.gn,.gn,.bx 180 68 (nwL n s0 row al ac KW (.view K)),.bx 122 2 [.J w0,.J w1],.bx 122 2 [.J h0',.J h1'],.bx 127 4 [.J 0,.J 0,.J 0,.N],.rw ⟨157,10,M⟩,.rw ⟨172,6,A0⟩,.bx 34 4 [.J fl,.J ft,.J fr,.J fb],.bx 127 4 [.J 0,.J 0,.J 0,.own 11],.rw ⟨45,5,E1⟩,.rw ⟨3,1,[]⟩] (Wk.weak (wkM [some 0,none,none,some 3,some 4,some 5,some 6,some 7,some 8,some 9,some 10,some 11,some 12] ⟨rfl,rfl,rfl,rfl,rfl,rfl,rfl,rfl,rfl,rfl,rfl,rfl,rfl,rfl,rfl,rfl,rfl,rfl,rfl,rfl,trivial⟩ ⟨.inr ⟨_,_,rfl,rfl,rfl,rfl,.inr ⟨zr5,trivial⟩⟩,.inl rfl,.inl rfl,.inr (wqE rfl rfl),.inr (wqE rfl rfl),.inr (wqE rfl rfl),.inr (wqE rfl rfl),.inr (wqE rfl pM),.inr (wqE rfl pA),.inr (wqE rfl rfl),.inr ⟨_,_,rfl,rfl,rfl,rfl,.inr ⟨zr4,trivial⟩⟩,.inr (wqE rfl hM),.inr (wqE rfl rfl),trivial⟩ (by decide) ⟨.inl rfl,.inl rfl,.inr rfl,trivial⟩ ⟨.inl rfl,.inl rfl,.inr ⟨_,rfl⟩,trivial⟩)) ?_
  refine Ct hg V rtl keeps n s0 row al ac KW w0 w1 h0' h1' K M A0 pM pA IN GP AC' vI vL vZ vS vC vT fl ft fr fb k E1 hM ZZ hvZ l L hL hd xg fun z2 E2 xb=> ?_
  obtain rfl:W=E2:=by rw [xb,hW]
  cbv
  (repeat'((first|refine aa hg hr ?_|refine ad hg hs ?_|refine ad hg hv ?_|refine bO hg hh (ah (ao rfl) (ah (aZ (ab:=⟨_,_,W⟩) rfl kW dW) (ah (ao rfl) (ah (ao rfl) (ah (ao rfl) (av)))))) hY ?_);cbv))
  refine li hg (lV (aJ f148) 2) (by kernel_rfl) [(0,.p 0),(5,.p 3),(6,.p 4),(7,.p 5),(8,.p 6),(9,.v vI),(10,.v vZ),(11,.i (IN)),(12,.i (GP)),(13,.v vL),(14,.v vS),(15,.v vC),(16,.i (AC')),(18,.v vT),(19,.p 9),(20,.p 10),(21,.i (k)),(22,.v L),(23,.v W),(25,.v vP),(26,.i (lb)),(27,.i (0))] [.bx 91 5 [.view V,.B rtl,.B keeps,.own 7,.own 8],.gn,.gn,.bx 180 68 (nwL n s0 row al ac KW (.view K)),.bx 122 2 [.J w0,.J w1],.bx 122 2 [.J h0',.J h1'],.bx 127 4 [.J 0,.J 0,.J 0,.N],.rw ⟨157,10,M⟩,.rw ⟨172,6,A0⟩,.bx 34 4 [.J fl,.J ft,.J fr,.J fb],.bx 127 4 [.J 0,.J 0,.J 0,.own 11],.rw ⟨45,5,E1⟩] (bH (sl2 12 13 W vP) (D4 rfl kW dW rfl xj hZ) (Wk.weak (wkM [some 0,none,none,some 3,some 4,some 5,some 6,some 7,some 8,some 9,some 10,some 11] ⟨rfl,rfl,rfl,rfl,rfl,rfl,rfl,rfl,rfl,rfl,rfl,rfl,rfl,rfl,rfl,rfl,rfl,rfl,rfl,rfl,rfl,rfl,trivial⟩ ⟨.inr ⟨_,_,rfl,rfl,rfl,rfl,.inr ⟨zr5,trivial⟩⟩,.inl rfl,.inl rfl,.inr (wqE rfl rfl),.inr (wqE rfl rfl),.inr (wqE rfl rfl),.inr (wqE rfl rfl),.inr ⟨_,_,rfl,rfl,rfl,rfl,.inl (bG pM)⟩,.inr ⟨_,_,rfl,rfl,rfl,rfl,.inl (bG pA)⟩,.inr (wqE rfl rfl),.inr ⟨_,_,rfl,rfl,rfl,rfl,.inr ⟨zr4,trivial⟩⟩,.inr ⟨_,_,rfl,rfl,rfl,rfl,.inl (bG hM)⟩,trivial⟩ (by decide) ⟨.inl rfl,.inl rfl,.inr rfl,trivial⟩ ⟨.inl rfl,.inl rfl,.inr ⟨_,rfl⟩,trivial⟩))) ?_
  refine hu _ fun z3 E3 D hD hO=> ?_
  have xk:=pmV hO
  cbv
  ((repeat'(rw [e1];cbv)))
  skip
  exact hB ((k+1,D,E3)) _ _ ⟨h3 D hD,⟨rfl,hO⟩⟩ (Wk.weak (wkM [some 0,none,none,some 3,some 4,some 5,some 6,some 7,some 8,some 9,some 10,some 11] ⟨rfl,rfl,rfl,rfl,rfl,rfl,rfl,rfl,rfl,rfl,rfl,rfl,rfl,rfl,rfl,rfl,rfl,trivial⟩ ⟨.inr ⟨_,_,rfl,rfl,rfl,rfl,.inr ⟨zr5,trivial⟩⟩,.inl rfl,.inl rfl,.inr (wqE rfl rfl),.inr (wqE rfl rfl),.inr (wqE rfl rfl),.inr (wqE rfl rfl),.inr (wqE rfl pM),.inr (wqE rfl pA),.inr (wqE rfl rfl),.inr ⟨_,_,rfl,rfl,rfl,rfl,.inr ⟨zr4,trivial⟩⟩,.inr (wqE rfl xk),trivial⟩ (by decide) ⟨.inl rfl,.inl rfl,.inr rfl,trivial⟩ ⟨.inl rfl,.inl rfl,.inr ⟨_,rfl⟩,trivial⟩))
theorem ED{xs:List Int}{i:Int}(h:i∉xs):cnt xs i=0:=by
 induction xs with
 |nil=>rfl
 |cons x xs ih=>
  have e:cnt (x::xs) i=(if x=i then 1 else 0)+cnt xs i:=by simp [cnt]
  rw [e,ih (fun hm=>h (List.mem_cons_of_mem _ hm)),if_neg (fun hx=>h (by rw [hx];exact List.mem_cons_self ..))]
  rfl
variable {LL:List (List Int)}{l:List Int}
theorem Dh{i:Int}{k:Int}(h:i∈l):pt i k (l::LL)=k:=by
 have:=(DA l i).2 h
 simp only [pt]
 rw [if_pos (by omega)]
theorem Av{i:Int}{k:Int}(h:i∉l):pt i k (l::LL)=pt i (k+1) LL:=by
 simp only [pt]
 rw [ED h,if_neg (by omega)]
theorem Di{i:Int}:∀(LL:List (List Int))(k:Int),i∈LL.flatten->k<=pt i k LL/\pt i k LL<k+(LL.length:Int)
 | [],k,h=>by simp at h
 |l::LL,k,h=>by
  by_cases hm:i∈l
  ·rw [Dh hm];simp only [zqx];omega
  ·rw [Av hm]
   have:=Di LL (k+1) (by rw [List.flatten_cons]at h;exact(List.mem_append.1 h).resolve_left hm)
   simp only [zqx];omega
theorem Ew(P:List Int)(c:Int)(C:List Int):elZ (P++c::C) (P.length:Int)=c:=nP (by rw [zqg (Nat.le_refl _)];simp)
theorem Dw{α:Type}(f:Int->Int->α):∀(LL:List (List Int))(CC P:List Int)(m n:Nat),CC.length=LL.length->LL.flatten=ixs m n->(ixs m n).map (fun i=>f (elZ (P++CC) (pt i (P.length:Int) LL)) i)=(LL.zip CC).flatMap fun q=>q.1.map (f q.2)
 | [],CC,P,m,n,hc,hf=>by rw [<-hf];rfl
 |l::LL,[],P,m,n,hc,hf=>by simp at hc
 |l::LL,c::CC,P,m,n,hc,hf=>by
  obtain⟨h1,h2,h3⟩:=lM hf
  have e:ixs (m:Int) n=l++LL.flatten:=by rw [<-hf,List.flatten_cons]
  rw [e,List.map_append,List.zip_cons_cons,List.flatMap_cons]
  congr 1
  ·refine List.map_congr_left fun i hi=> ?_
   rw [Dh hi,Ew]
  ·have h4:LL.flatten=ixs ((m+l.length:Nat):Int) (n-l.length):=by rw [h3,Int.natCast_add]
   have:=Dw f LL CC (P++[c]) (m+l.length) (n-l.length) (by simpa using hc) h4
   rw [<-this,<-h4]
   refine List.map_congr_left fun i hi=> ?_
   have ha:i∉l:=fun hm=>by
    rw [h2,ll]at hm
    rw [h4,ll]at hi
    omega
   rw [Av ha,zqC,zqe,zqm]
   rfl
theorem Eu{α:Type}(f:Int->Int->α)(LL:List (List Int))(CC:List Int)(n:Nat)(hc:CC.length=LL.length)(hf:LL.flatten=ixs 0 n):(ixs 0 n).map (fun i=>f (elZ CC (pt i 0 LL)) i)=(LL.zip CC).flatMap fun q=>q.1.map (f q.2):=Dw f LL CC [] 0 n hc hf
theorem xc{V:LLA}{rtl keeps:Bool}{bx:Bx}{c L:Nat}(p:Pl)(ns:List af):∀(ks:List Int)(st:St),(∀k∈ks,xx V rtl keeps bx c L k)->(lN bx p rtl ns ks st).1.length=ks.length/\(lN bx p rtl ns ks st).2.1.length<=st.1.length+ks.length*c/\(lN bx p rtl ns ks st).2.2.length<=st.2.length+ks.length*c
 | [],st,_=>by simp [lN]
 |k::r,st,h=>by
  have h1:=Bn (h k (List.mem_cons_self ..)) p ns st
  have h2:=xc p ns r (wn bx p rtl ns k st).2 (fun x hx=>h x (List.mem_cons_of_mem _ hx))
  have e:(k::r).length*c=r.length*c+c:=by rw [zqx,Nat.succ_mul]
  rw [e]
  simp only [lN,zqx]
  refine⟨by rw [h2.1],?_,?_⟩
  ·exact Nat.le_trans h2.2.1 (Nat.le_trans (Nat.add_le_add_right h1.1 _) (Nat.le_of_eq (by rw [Nat.add_assoc,Nat.add_comm c])))
  ·exact Nat.le_trans h2.2.2 (Nat.le_trans (Nat.add_le_add_right h1.2 _) (Nat.le_of_eq (by rw [Nat.add_assoc,Nat.add_comm c])))
theorem wM{V:LLA}{rtl keeps:Bool}{bx:Bx}{c L:Nat}(p:Pl)(ns:List af):∀(ks:List (Int×Int))(st:St),(∀k∈ks,xx V rtl keeps bx c L k.1)->(tF bx p rtl ns ks st).1.length=ks.length/\(tF bx p rtl ns ks st).2.1.length<=st.1.length+ks.length*c/\(tF bx p rtl ns ks st).2.2.length<=st.2.length+ks.length*c
 | [],st,_=>by simp [tF]
 |(k,z)::r,st,h=>by
  have h1:=xt (h (k,z) (List.mem_cons_self ..)) p.row ⟨3,z⟩ (zA p (kst ns k) rtl z) st
  have h2:=wM p ns r (ta bx p.row k ⟨3,z⟩ (zA p (kst ns k) rtl z) st).2 (fun x hx=>h x (List.mem_cons_of_mem _ hx))
  have e:((k,z)::r).length*c=r.length*c+c:=by rw [zqx,Nat.succ_mul]
  rw [e]
  simp only [tF,zqx]
  refine⟨by rw [h2.1],?_,?_⟩
  ·exact Nat.le_trans h2.2.1 (Nat.le_trans (Nat.add_le_add_right h1.1 _) (Nat.le_of_eq (by rw [Nat.add_assoc,Nat.add_comm c])))
  ·exact Nat.le_trans h2.2.2 (Nat.le_trans (Nat.add_le_add_right h1.2 _) (Nat.le_of_eq (by rw [Nat.add_assoc,Nat.add_comm c])))
theorem B7{cs:List Int}{gap inner ct:Int}(h:acr cs gap inner=true):(pll cs gap inner ct).length=cs.length:=by
 unfold pll
 rw [if_neg (by rw [h];simp),wR]
theorem rq(ns:List af)(hl:ns.length<=1048576)(rtl keeps:Bool)(bx:Bx)(c L:Nat)(n:Int)(p:Pl)(w0 w1 h0' h1':Int)(hpw:p.w=⟨w0,w1⟩)(hph:p.h=⟨h0',h1'⟩)(hkn:p.kids≠[])(hkl:p.kids.length<20)(hk:∀kid∈p.kids,isN ns kid=true)(hbx:∀kid∈p.kids,xx (vwA af.ac ns) rtl keeps bx c L kid)(st:St)(hm:st.1.length+40*c<=L)(hq:st.2.length+40*c<=L)
  (hal:∀l∈mL p (lN bx p rtl ns p.kids st).1,al5 (lit (lN bx p rtl ns p.kids st).1 l) (l.map (elZ (rj p (lN bx p rtl ns p.kids st).1))) (BD p) (BC p (lN bx p rtl ns p.kids st).1)=true)
  (hf:∀cs,cs=xk p (mL p (lN bx p rtl ns p.kids st).1) (tF bx p rtl ns (p.kids.zip (rj p (lN bx p rtl ns p.kids st).1)) (lN bx p rtl ns p.kids st).2).1->acr cs (sX p) (yI p cs)=true):
  SE prog 148 (sR (vwA af.ac ns) rtl keeps) (SM st.1) (SA st.2) [.c (.ptr 0 0 0),.agg (nwL n p.s p.row p.al p.ac (knS p.wide) (.view (vw ak p.kids))),agP ⟨w0,w1⟩,agP ⟨h0',h1'⟩] (.t (.agg (ju.ac (Cv bx p rtl ns st).1))) (SM (Cv bx p rtl ns st).2.1) (SA (Cv bx p rtl ns st).2.2):=by
 have cI:=p8 ns hl rtl keeps bx c L n p hkl hk hbx st (by omega) (by omega)
 have hb:=xc p ns p.kids st hbx
 have xz:p.kids.length*c<=20*c:=Nat.mul_le_mul_right c (by omega)
 obtain⟨ra,x6⟩:=nmE (lN bx p rtl ns p.kids st)
 unfold Cv
 dsimp only
 rw [<-x6]at cI hb hal hf⊢
 obtain⟨I,hM⟩:=ra
 dsimp only at cI hb hal hf⊢
 have hr:=hb.1
 have hS:I.length<=1048576:=by omega
 have hL:=th p I
 have cS:=mV ns hl rtl keeps bx c L n p (rj p I) hkl (by rw [hL,hr]) hk hbx hM (by omega) (by omega)
 obtain⟨rb,xG⟩:=nmE (tF bx p rtl ns (p.kids.zip (rj p I)) hM)
 have ha:rb.1.length=p.kids.length:=by
  have:=(wM (V:=vwA af.ac ns) (rtl:=rtl) (keeps:=keeps) (c:=c) (L:=L) p ns (p.kids.zip (rj p I)) hM (fun k yd=>hbx k.1 (by obtain⟨i,hi⟩:=List.mem_iff_getElem?.1 yd;exact zqd (zC (by obtain⟨a,b⟩:=k;exact hi)).1))).1
  rw [<-xG,zqB,hL,hr,Nat.min_self]at this
  exact this
 rw [<-xG]at cS hf⊢
 obtain⟨S0,x8⟩:=rb
 dsimp only at cS hf ha⊢
 obtain⟨s0,row,wd,yA,iw,ih,al,ac,kids⟩:=p
 dsimp only at hpw hph hkn hkl hk hbx hr hb ha cI cS
 subst hpw hph
 obtain⟨q,he⟩:∃q:Pl,q=⟨s0,row,⟨w0,w1⟩,⟨h0',h1'⟩,iw,ih,al,ac,kids⟩:=⟨_,rfl⟩
 rw [<-he]at hal hf hL cS⊢
 have hp:q.kids=kids:=by rw [he]
 have hu:kids.length<=1048576:=by omega
 have hY:(rj q I).length=kids.length:=by rw [hL,hr]
 have cZ:=p7 n s0 row al ac (knS iw) (vw ak kids) I hS
 have cN:=kB n s0 row al ac (knS iw) (vw ak kids) I hS
 have h4:mL q I=lns I (jd s0 row) (ko al) (!decide (s0.wrap=1)):=by rw [he];rfl
 have ye:BC q I=tak al (lng I (jd s0 row) (ko al) (!decide (s0.wrap=1))):=by rw [he];rfl
 have yf:rj q I=lsz I (jd s0 row) (ko al) (!decide (s0.wrap=1)) (tak al (lng I (jd s0 row) (ko al) (!decide (s0.wrap=1)))):=by rw [he];rfl
 rw [<-yf]at cZ
 rw [<-ye]at cN
 have hC:(mL q I).flatten=ixs 0 kids.length:=by rw [h4,lK,hr]
 have h3:(mL q I).length<=64:=by rw [h4];exact Nat.le_trans (mK ..) (by omega)
 have h2:∀l∈mL q I,l.length<=1048576/\∀i∈l,0<=i/\i<(S0.length:Int):=fun l hm=>by
  rw [h4]at hm
  exact⟨Nat.le_trans (jI hm) hS,fun i hi=>by have:=tY hm hi;omega⟩
 have hh:=iU I (jd s0 row) (ko al) (!decide (s0.wrap=1)) hS
 rw [<-h4]at hh
 have cC:=nT n s0 row al ac (knS iw) (vw ak kids) (mL q I) S0 (by omega) h3 h2
 have yg:xk q (mL q I) S0=CL s0 row ac (mL q I) S0:=by rw [he];rfl
 rw [<-yg]at cC
 have ht:(xk q (mL q I) S0).length=(mL q I).length:=uQ q _ _ h3
 have hf:=hf _ rfl
 have x0:BD q=jd s0 row:=by rw [he];rfl
 have x1:sX q=jd s0 (!row):=by rw [he];rfl
 unfold GJ
 dsimp only
 obtain⟨LL,xV⟩:=nmE (mL q I)
 obtain⟨ZZ,xY⟩:=nmE (rj q I)
 obtain⟨IN,xT⟩:=nmE (BC q I)
 rw [<-xV]at hC h3 h2 cC ht hh hal hf⊢
 rw [<-xY]at hY cZ cS hal⊢
 rw [<-xT]at cN hal⊢
 obtain⟨CC,xP⟩:=nmE (xk q LL S0)
 rw [<-xP]at ht cC hf⊢
 obtain⟨S1,xw⟩:=nmE (Ba q ns S0 ZZ (LL.zip CC))
 have xA:(ixs 0 S0.length).map (fun i=>xh q ns S0 ZZ (elZ CC (pt i 0 LL)) i)=S1:=by rw [xw,ha];exact Eu (xh q ns S0 ZZ) LL CC kids.length ht hC
 have x2:∀i:Int,0<=i->i<(q.kids.length:Int)->0<=pt i 0 LL/\pt i 0 LL<(CC.length:Int):=fun i h0 h1=>by
  rw [hp]at h1
  have:=Di LL 0 (show i∈LL.flatten by rw [hC,ll];omega)
  omega
 have cF:=fun C D=>oQ ns hl rtl keeps C D n q (by rw [hp];exact hu) (by rw [hp];exact hk) LL CC S0 ZZ (by rw [hp];exact ha) (by rw [hp];exact hY) (by omega) (fun l hm=>(h2 l hm).1) x2
 simp only [xA]at cF
 have hI:S1.length=kids.length:=by rw [<-xA,zql,bX,ha]
 rw [<-xw]
 obtain⟨am,an⟩:=ac
 obtain⟨lm,ln⟩:=al
 have cG:=gF s0 row
 have hz:=gF s0 (!row)
 have cT:=fV CC (sX q) (by rw [ht];omega)
 have cK:=dQ am an (crt CC (sX q))
 have x3:yI q CC=tak ⟨am,an⟩ (crt CC (sX q)):=by rw [he];rfl
 rw [<-x3]at cK
 have cL:=nW CC (sX q) (yI q CC) (ctP q) (by omega)
 have xB:ctP q=if s0.wrap=1 then 2 else s0.content:=by rw [he];rfl
 have xC:EV q CC=pll CC (sX q) (yI q CC) (ctP q):=rfl
 rw [<-xC]at cL
 have hs:(EV q CC).length=CC.length:=by rw [xC];exact B7 hf
 rw [<-x1]at hz
 rw [x0]at hal
 obtain⟨GP,xp⟩:=nmE (jd s0 row)
 rw [<-xp]at cG hh hal
 obtain⟨GC,xS⟩:=nmE (sX q)
 obtain⟨hy,xO⟩:=nmE (yI q CC)
 obtain⟨ST,xW⟩:=nmE (EV q CC)
 rw [<-xS]at hz cT cK cL
 rw [<-xO]at cK cL⊢
 rw [<-xW]at cL hs⊢
 obtain⟨TT,xX⟩:=nmE (crt CC GC)
 rw [<-xX]at cT cK
 have xb:=gX lm ln
 obtain⟨RM,xu⟩:=nmE (ko ⟨lm,ln⟩);(try rw [<-xu]at xb);(try rw [<-xu]at hh)
 obtain⟨wr,xI⟩:=nmE ((!decide (s0.wrap=1)))
 rw [<-xI]at hh
 obtain⟨V,hV⟩:=nmE (vwA af.ac ns)
 have yb:∀zs,zs=rj q I->True:=fun _ _=>trivial
 have yh:q.s=s0/\q.row=row/\q.al=⟨lm,ln⟩/\q.ac=⟨am,an⟩/\q.wide=iw/\q.w=⟨w0,w1⟩/\q.h=⟨h0',h1'⟩:=by rw [he];exact⟨rfl,rfl,rfl,rfl,rfl,rfl,rfl⟩
 obtain⟨h6,h5,xE,xD,xF,x5,x4⟩:=yh
 rw [h6,h5,xE,xD,xF,hp]
 simp only [h6,h5,xE,xD,xF,hp]at cF
 simp only [<-hV]at cF
 rw [<-hV]at cI cS⊢
 obtain⟨KW,ho⟩:=nmE (knS iw);(try rw [<-ho]at cI);(try rw [<-ho]at cS);(try rw [<-ho]at cZ);(try rw [<-ho]at cN);(try rw [<-ho]at cC);(try rw [<-ho]at⊢)
 simp only [<-ho]at cF
 obtain⟨K,hK⟩:=nmE (vw ak kids)
 have xU:=lmV hK
 have iK:=imV hK
 have kK:=kmV (k:=1) hK fun _=>rfl
 have dK:=dmV hK
 rw [<-hK]at cI cS cZ cN cC⊢
 simp only [<-hK]at cF
 obtain⟨vI,hD⟩:=nmE (vw ag.c I)
 have yk:=lmV hD
 have yG:=imV hD
 have yO:=kmV (k:=9) hD fun _=>rfl
 have yv:=dmV hD
 rw [<-hD]at cI cZ cN hh
 obtain⟨vZ,hx⟩:=nmE (vw ak ZZ)
 have yn:=lmV hx
 have yM:=imV hx
 have yR:=kmV (k:=1) hx fun _=>rfl
 have yy:=dmV hx
 rw [<-hx]at cZ cS
 simp only [<-hx]at cF
 obtain⟨vS,hG⟩:=nmE (vw ar.c S0)
 have yl:=lmV hG
 have yH:=imV hG
 have yP:=kmV (k:=7) hG fun _=>rfl
 have yw:=dmV hG
 rw [<-hG]at cS cC
 simp only [<-hG]at cF
 obtain⟨vC,hw⟩:=nmE (vw ak CC)
 have yi:=lmV hw
 have yE:=imV hw
 have yN:=kmV (k:=1) hw fun _=>rfl
 have yu:=dmV hw
 rw [<-hw]at cC cT cL
 simp only [<-hw]at cF
 obtain⟨vL,xH⟩:=nmE (vwA lnA LL)
 rw [<-xH]at hh cC
 simp only [<-xH]at cF
 obtain⟨vT,hH⟩:=nmE (vw ak ST)
 have ym:=lmV hH
 have yL:=imV hH
 have yQ:=kmV (k:=1) hH fun _=>rfl
 have yx:=dmV hH
 rw [<-hH]at cL
 obtain⟨h8,hc⟩:=nmE (vw ar.c S1)
 have x7:=lmV hc
 have xJ:=imV hc
 have xK:=kmV (k:=7) hc fun _=>rfl
 have xf:=dmV hc
 simp only [<-hc]at cF
 have xa:=fo s0
 obtain⟨fe,hZ⟩:=nmE (lw s0)
 rw [<-hZ]at xa
 obtain⟨fl,ft,fr,fb⟩:=fe
 obtain⟨M0,hT⟩:=nmE (SM st.1)
 obtain⟨A0,hQ⟩:=nmE (SA st.2)
 obtain⟨M1,hU⟩:=nmE (SM hM.1)
 obtain⟨A1,hR⟩:=nmE (SA hM.2)
 obtain⟨M2,hB⟩:=nmE (SM x8.1)
 obtain⟨A2,hA⟩:=nmE (SA x8.2)
 have ys:aC M0=true:=by rw [hT];exact bU _
 have yp:aC A0=true:=by rw [hQ];exact bV _
 have yt:aC M1=true:=by rw [hU];exact bU _
 have yq:aC A1=true:=by rw [hR];exact bV _
 have xM:aC M2=true:=by rw [hB];exact bU _
 have xL:aC A2=true:=by rw [hA];exact bV _
 have kM:∀y∈M2,y.length=10:=by rw [hB];exact GW _
 have dM:∀y∈M2,y.all dat=true:=by rw [hB];exact yJ _
 have kA:∀y∈A2,y.length=6:=by rw [hA];exact GX _
 have dA:∀y∈A2,y.all dat=true:=by rw [hA];exact yK _
 have cF:=cF (.view M2) (.view A2)
 rw [<-hT,<-hQ,<-hU,<-hR]at cI
 rw [<-hU,<-hR,<-hB,<-hA]at cS
 rw [<-hT,<-hQ,<-hB,<-hA]
 have hO:=fun(g:Gd)(hg:g= @G0 bp0 prog 3 f148.ntmps)(Q':Exit->List (Nat×AV)->EH->Prop) E hE hQ'=>Cr hg (Q:=Q') V rtl keeps n s0 row ⟨lm,ln⟩ ⟨am,an⟩ KW w0 w1 h0' h1' K M2 A2 xM xL IN GP hy vI vL vZ h8 vC vT fl ft fr fb ⟨w0,w1⟩ ⟨h0',h1'⟩ iw ih kids hK hu I hD hr ZZ CC ST S1 hx hw hH hc hs hY hI hZ.symm xp LL xH (by omega) ht hC hal E hE hQ'
 rw [<-he]at hO
 obtain⟨FF,xo⟩:=nmE (wy q rtl I IN hy ZZ S1 ST 0 (LL.zip CC))
 have xR:FF.length=kids.length:=by rw [xo,uH,fu ht,hC,bX]
 rw [<-xo]at hO⊢
 have yD:0<kids.length:=List.length_pos_iff.2 hkn
 obtain⟨f0,FT,xl⟩:∃f t,FF=f::t:=by
  cases FF with
  |nil=>simp at xR;omega
  |cons a b=>exact⟨_,_,rfl⟩
 obtain⟨h7,hv⟩:∃y,S1[(0:Int).toNat]? =some y:=⟨_,zqc (by show 0<S1.length;omega)⟩
 have hJ:sdZ S1 0=h7:=vt (Int.le_refl 0) hv
 obtain⟨vF,hn⟩:=nmE (vw aM.c FF)
 have yj:=lmV hn
 have yF:=imV hn
 have yo:=kmV (k:=5) hn fun _=>rfl
 have x9:=dmV hn
 have pF:=pmV hn
 have xn:vF[(0:Int).toNat]? =some (lc (aM.c f0)):=by rw [hn,xl];rfl
 have xm:(0:Int)<aX vF:=by rw [hn,aQ];omega
 have xv:h8[(0:Int).toNat]? =some (lc (ar.c h7)):=by rw [hc];exact bf hv
 have hP:=fi fl ft fr fb
 have hN:=fj fl ft fr fb
 obtain⟨B1,xg⟩:=nmE (adE fl fr)
 obtain⟨B2,xi⟩:=nmE (adE ft fb)
 change PC0 _ _ (.i (adE fl fr))at hP
 change PC0 _ _ (.i (adE ft fb))at hN
 rw [<-xg]at hP
 rw [<-xi]at hN
 obtain⟨XW,hX⟩:=nmE ((if row then IN else hy))
 obtain⟨XH,hW⟩:=nmE ((if row then hy else IN))
 obtain⟨W1,xy⟩:=nmE (wrap64 (XW+B1))
 obtain⟨H1,xq⟩:=nmE (wrap64 (XH+B2))
 obtain⟨BB,xj⟩:=nmE (wrap64 (f0.y+h7.base))
 have xd:=dQ w0 w1 W1
 have xe:=dQ h0' h1' H1
 have h9:=aG BB
 obtain⟨R1,xr⟩:=nmE (tak ⟨w0,w1⟩ W1);(try rw [<-xr]at xd)
 obtain⟨R2,xs⟩:=nmE (tak ⟨h0',h1'⟩ H1);(try rw [<-xs]at xe)
 obtain⟨R3,xt⟩:=nmE (cl BB);(try rw [<-xt]at h9)
 have xZ:ju.ac (DF q IN hy FF S1)=[.J R1,.J R2,.J R3,.view vF]:=by
  rw [xr,xs,xt,xy,xq,xj,hX,hW,xg,xi,hn]
  unfold DF
  rw [h6,x5,x4,h5,<-hZ,hJ,xl]
  rfl
 rw [xZ]
 refine vr (t:=45) (k:=5) (V:=vF) (R:= .t (.agg [.J R1,.J R2,.J R3,.own 5])) ?_ yo x9 rfl rfl rfl
 have xN:∀g:Gd,g=G0 prog 3 f148.ntmps->g .rp (g .ln K) [.J 0,.J 0,.J 0,.J 0,.J 0]=vw aM.c (List.replicate kids.length ⟨0,0,0,0,0⟩):=fun g hg=>by
  rw [zf hg,bF hg,hK,aQ,Int.toNat_natCast];exact pI aM.c kids.length ⟨0,0,0,0,0⟩
 have xU:K.length<=1048576:=by rw [hK,aq];exact hu
 have t0:∀g:Gd,g=G0 prog 3 f148.ntmps->g .q .neq s0.wrap 1=wr:=fun g hg=>by rw [bn hg,xI];exact(dN _ _).trans (by simp)
 have te:∀g:Gd,g=G0 prog 3 f148.ntmps->g .q .eql s0.wrap 1=decide (s0.wrap=1):=fun g hg=>by rw [bj hg];exact zqn _ _
 have t1:∀g:Gd,g=G0 prog 3 f148.ntmps->g .w .add .i64 XW B1=W1:=fun g hg=>by rw [aN hg,xy]
 have t2:∀g:Gd,g=G0 prog 3 f148.ntmps->g .w .add .i64 XH B2=H1:=fun g hg=>by rw [aN hg,xq]
 have t3:∀g:Gd,g=G0 prog 3 f148.ntmps->g .w .add .i64 f0.y h7.base=BB:=fun g hg=>by rw [aN hg,xj]
 clear xZ xr xs xt xy xq xj xg xi hZ h6 h5 xE xD xF x5 x4 hJ xl xR xo xw hv hI hr hY h3 h2 hC ht xX xS xO xW xT he x2 xA hs hal hf xI x0 x1 x3 xC yb hp xV xY xP hL ha hb x6 xG xz hT hQ hU hR hB hA ho xu hV xp hbx hk hm hq
 refine dl ([]) ([]) (c:=aJ f148) ay func148 (by kernel_rfl) (by kernel_rfl) (bl (by rfl)) (by kernel_rfl) (fun g yz hd F yc yB hg hF=> ?_)
 have t0:=t0 g hg
 have te:=te g hg
 have t1:=t1 g hg
 have t2:=t2 g hg
 have t3:=t3 g hg
 have xN:=xN g hg
 have hO:=hO g hg
 cbv
 ((repeat'((first|rw [t0]|refine ad hg cZ ?_|refine ad hg cN ?_|refine ad hg cG ?_|refine aa hg xb ?_|refine aa hg hh ?_|refine ad hg cC ?_|refine aa hg hz ?_|refine aa hg cT ?_|refine aa hg cK ?_|refine iP rfl hg 0 1 2 cI rfl rfl rfl (by decide) rfl ys yp ⟨rfl,.inl ⟨rfl,rfl⟩,trivial⟩ rfl ?_|refine iP rfl hg 0 7 8 cS rfl rfl rfl (by decide) rfl yt yq ⟨rfl,.inl ⟨rfl,rfl⟩,rfl,trivial⟩ rfl ?_|refine bE hg cF (dp (o4 (r:=0) (rm:=9) (ra:=10) [.view V,.B rtl,.B keeps] rfl rfl rfl kM dM rfl kA dA) (bB rfl (ah (ao rfl) (ah (ao rfl) (ah (ao rfl) (ah (ao rfl) av)))))) xJ ?_);cbv)))
 by_cases hw1:s0.wrap=1
 all_goals
  first|rw [if_pos hw1]at xB|rw [if_neg hw1]at xB
  rw [xB]at cL
  first|rw [zqu hw1]at te|rw [zqt hw1]at te
  ((repeat'((first|rw [te]|refine ad hg hz ?_|refine ad hg cL ?_|refine ad hg xa ?_);cbv)))
  refine Ep hg (by decide) xU ?_
  cbv
  generalize hE0:g .rp (g .ln K) _=E3
  have xQ:E3=vw aM.c (List.replicate kids.length ⟨0,0,0,0,0⟩):=by rw [<-hE0];exact xN
  clear hE0
  have yr:=pmV xQ
  refine li hg (lV (aJ f148) 0) (by kernel_rfl) [(0,.p 0),(5,.p 3),(6,.p 4),(7,.p 5),(8,.p 6),(9,.v vI),(10,.v vZ),(11,.i (IN)),(12,.i (GP)),(13,.v vL),(14,.v h8),(15,.v vC),(16,.i (hy)),(18,.v vT),(19,.p 9),(20,.p 10),(21,.i (0))] [.bx 91 5 [.view V,.B rtl,.B keeps,.own 7,.own 8],.gn,.gn,.bx 180 68 (nwL n s0 row ⟨lm,ln⟩ ⟨am,an⟩ KW (.view K)),.bx 122 2 [.J w0,.J w1],.bx 122 2 [.J h0',.J h1'],.bx 127 4 [.J 0,.J 0,.J 0,.N],.rw ⟨157,10,M2⟩,.rw ⟨172,6,A2⟩,.bx 34 4 [.J fl,.J ft,.J fr,.J fb],.bx 127 4 [.J 0,.J 0,.J 0,.own 11],.rw ⟨45,5,E3⟩] (bH (sl1 11 h8) (jh rfl xK xf) (Wk.weak (wkM [some 0,none,none,some 3,some 4,some 5,some 6,some 9,some 10,some 12,some 14,some 13] ⟨rfl,rfl,rfl,rfl,rfl,rfl,rfl,rfl,rfl,rfl,rfl,rfl,rfl,rfl,rfl,rfl,rfl,trivial⟩ ⟨.inr ⟨_,_,rfl,rfl,rfl,rfl,.inr ⟨zr5,trivial⟩⟩,.inl rfl,.inl rfl,.inr (wqE rfl rfl),.inr (wqE rfl rfl),.inr (wqE rfl rfl),.inr (wqE rfl rfl),.inr ⟨_,_,rfl,rfl,rfl,rfl,.inl (bG xM)⟩,.inr ⟨_,_,rfl,rfl,rfl,rfl,.inl (bG xL)⟩,.inr (wqE rfl rfl),.inr ⟨_,_,rfl,rfl,rfl,rfl,.inr ⟨zr4,trivial⟩⟩,.inr ⟨_,_,rfl,rfl,rfl,rfl,.inl (bG yr)⟩,trivial⟩ (by decide) ⟨.inl rfl,.inl rfl,.inr rfl,trivial⟩ ⟨.inl rfl,.inl rfl,.inr ⟨_,rfl⟩,trivial⟩))) ?_
  refine hO _ E3 xQ fun z2 E2 ya=> ?_
  obtain rfl:vF=E2:=by rw [ya,hn]
  cbv
  cases row
  all_goals
   (try simp only [Bool.false_eq_true,if_false]at hX hW)
   (try simp only [if_true]at hX hW)
   subst hX hW
   (try cbv)
   ((repeat'((first|rw [t1]|rw [t2]|rw [t3]|refine aa hg hP ?_|refine aa hg hN ?_|refine aa hg xd ?_|refine aa hg xe ?_|refine aa hg h9 ?_|refine goX hg _ (Int.le_refl 0) xv rfl ?_|refine goY hg (Int.le_refl 0) xm fun j hj yC=> ?_;subst hj|refine⟨_,xn,?_⟩);cbv)))
   exact AW 7 8 11 hF rfl (.inr zr4) rfl rfl rfl rfl (by decide) rfl xM xL pF
end Go.Proofs.YtckchgoblpgpbaaGreat
