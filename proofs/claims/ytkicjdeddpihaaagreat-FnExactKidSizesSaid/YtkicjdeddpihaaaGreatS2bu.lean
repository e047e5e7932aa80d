/- The reference's layout of a node with children in its flow. -/
import Derived.Test.YtkicjdeddpihaaaGreatS2bt
set_option linter.unusedVariables false
set_option linter.unusedSimpArgs false
set_option maxHeartbeats 32000000
namespace Go.Proofs.YtkicjdeddpihaaaGreat
open Go.ChangeShapes Go.WideShapes Go.ChangeAt Go.RowKit Am Go.Proofs.Tryz
set_option maxRecDepth 100000
theorem Ez{xs:List af}{ss:List Int}{gap inner js:Int}(h:al5 xs ss gap inner=true):(alg xs ss gap inner js).length=ss.length:=by
 unfold alg
 rw [if_neg (by rw [h];simp),v8,zqB]
 simp only [al5,zqs,zqp]at h
 omega
theorem D5{g:Gd}(hg:g= @G0 bp0 prog 3 f173.ntmps){Q:Exit->List (Nat×AV)->EH->Prop}(V:LLA)(rtl keeps:Bool)(n:Int)(s0:ak)(row:Bool)(al ac:az)(KW w0 w1 h0' h1':Int)(K M A0:LLA)(pM:aB M=true)(pA:aB A0=true)(IN GP AC':Int)(vI vL vZ vS vC vT:LLA)(fl ft fr fb:Int)(wd hgh iw ih:az)(kids:List Int)(hK:K=vw ah kids)(hkl:kids.length<=1048576)(I:List af)(hvI:vI=vw af.c I)(hIl:I.length=kids.length)(ZZ CC ST:List Int)(S1:List av)(hvZ:vZ=vw ah ZZ)(hvC:vC=vw ah CC)(hvT:vT=vw ah ST)(hvS:vS=vw av.c S1)(hTl:ST.length=CC.length)
  (hzl:ZZ.length=kids.length) (hsl:S1.length=kids.length) (hf:oh s0=⟨fl,ft,fr,fb⟩) (hGP:GP=gp s0 row) (LL:List (List Int)) (hH:vL=vwA lnA LL) (hLl:LL.length<=1048576) (hcl:CC.length=LL.length) (hfl:LL.flatten=ixs 0 kids.length) (hal:∀l∈LL,al5 (lit I l) (l.map (elZ ZZ)) GP IN=true)
  (E:LLA) (hE:E=vw aX.c (List.replicate kids.length ⟨0,0,0,0,0⟩))
  (hQ:∀(z:Int)(E:LLA),E=vw aX.c (xx ⟨s0,row,wd,hgh,iw,ih,al,ac,kids⟩ rtl I IN AC' ZZ S1 ST 0 (LL.zip CC))->Q (.exit 0) [(109,.t (abl (false))),(108,.i (g .ln vL)),(107,.v vL),(106,.i (z)),(0,.p 0),(5,.p 3),(6,.p 4),(7,.p 5),(8,.p 6),(9,.v vI),(10,.v vZ),(11,.i (IN)),(12,.i (GP)),(13,.v vL),(14,.v vS),(15,.v vC),(16,.i (AC')),(18,.v vT),(19,.p 9),(20,.p 10),(21,.i (z))] [.bx 74 5 [.view V,.B rtl,.B keeps,.own 7,.own 8],.gn,.gn,.bx 66 68 (nwL n s0 row al ac KW (.view K)),.bx 34 2 [.J w0,.J w1],.bx 34 2 [.J h0',.J h1'],.bx 43 4 [.J 0,.J 0,.J 0,.N],.rw ⟨146,10,M⟩,.rw ⟨153,6,A0⟩,.bx 62 4 [.J fl,.J ft,.J fr,.J fb],.bx 43 4 [.J 0,.J 0,.J 0,.own 11],.rw ⟨156,5,E⟩]):
  g .L (mh (aK f173) 0) Q [(0,.p 0),(5,.p 3),(6,.p 4),(7,.p 5),(8,.p 6),(9,.v vI),(10,.v vZ),(11,.i (IN)),(12,.i (GP)),(13,.v vL),(14,.v vS),(15,.v vC),(16,.i (AC')),(18,.v vT),(19,.p 9),(20,.p 10),(21,.i (0))] [.bx 74 5 [.view V,.B rtl,.B keeps,.own 7,.own 8],.gn,.gn,.bx 66 68 (nwL n s0 row al ac KW (.view K)),.bx 34 2 [.J w0,.J w1],.bx 34 2 [.J h0',.J h1'],.bx 43 4 [.J 0,.J 0,.J 0,.N],.rw ⟨146,10,M⟩,.rw ⟨153,6,A0⟩,.bx 62 4 [.J fl,.J ft,.J fr,.J fb],.bx 43 4 [.J 0,.J 0,.J 0,.own 11],.rw ⟨156,5,E⟩]:=by
 have hI:vL=(LL.zip CC).map (fun t=>lnA t.1):=by rw [hH];exact qj hcl
 have hJ:(LL.zip CC).map (·.1)=LL:=fz hcl
 have hp:(LL.zip CC).length<=1048576:=by rw [zqB];exact Nat.le_trans (Nat.min_le_left ..) hLl
 have ho:=fun{i t} h=>xA (a:=LL) (b:=CC) (i:=i) (t:=t) h
 have hU:∀l∈LL,∀i∈l,0<=i/\i<(kids.length:Int):=fun l hl i hi=>by
  have:i∈LL.flatten:=List.mem_flatten.2 ⟨l,hl,hi⟩
  rw [hfl,lI]at this
  omega
 obtain⟨qs,hF⟩:=nmE (LL.zip CC)
 rw [<-hF]at hI hJ hp hQ
 simp only [<-hF]at ho
 have hT:(qs.map (·.1)).flatten=ixs 0 kids.length:=by rw [hJ];exact hfl
 obtain⟨q,hq⟩:∃q:Pl,q=⟨s0,row,wd,hgh,iw,ih,al,ac,kids⟩:=⟨_,rfl⟩
 rw [<-hq]at hQ
 obtain⟨D1,hN⟩:=nmE (xx q rtl I IN AC' ZZ S1 ST 0 qs)
 rw [<-hN]at hQ
 have xc:I.length<=1048576:=by omega
 have xd:Dd q=GP:=by rw [hq,hGP];rfl
 have xe:q.s.justify=s0.justify:=by rw [hq]
 have hu:=fun(zo c st lb:Int)(h1:0<=zo)(h2:CC[zo.toNat]? =some c)(h2':ST[zo.toNat]? =some st) PS vP h3 l h4 L vW h5 h5' h6 done h7 h8 E h9 Q' hQ'=>D6 hg (Q:=Q') V rtl keeps n s0 row al ac KW w0 w1 h0' h1' K M A0 pM pA IN GP AC' vI vL vZ vS vC vT fl ft fr fb zo wd hgh iw ih kids hK ZZ CC ST PS S1 hvZ hvC hvT hvS vP h3 hzl hsl hf h1 c h2 st h2' lb l h4 L vW h5 h5' h6 done h7 h8 E h9 hQ'
 simp only [<-hq]at hu
 replace hH:=hI
 have pE:=pmV hE
 refine aY hg ay (by kernel_rfl) vL (fun t=>lnA t.1) qs hH hp (fun z(s:Int×List aX×LLA)=>[(0,.p 0),(5,.p 3),(6,.p 4),(7,.p 5),(8,.p 6),(9,.v vI),(10,.v vZ),(11,.i (IN)),(12,.i (GP)),(13,.v vL),(14,.v vS),(15,.v vC),(16,.i (AC')),(18,.v vT),(19,.p 9),(20,.p 10),(21,.i (z))]) (fun z(s:Int×List aX×LLA)=>[.bx 74 5 [.view V,.B rtl,.B keeps,.own 7,.own 8],.gn,.gn,.bx 66 68 (nwL n s0 row al ac KW (.view K)),.bx 34 2 [.J w0,.J w1],.bx 34 2 [.J h0',.J h1'],.bx 43 4 [.J 0,.J 0,.J 0,.N],.rw ⟨146,10,M⟩,.rw ⟨153,6,A0⟩,.bx 62 4 [.J fl,.J ft,.J fr,.J fb],.bx 43 4 [.J 0,.J 0,.J 0,.own 11],.rw ⟨156,5,s.2.2⟩]) (fun z(s:Int×List aX×LLA)=>s.1=z/\s.2.2=vw aX.c (s.2.1++List.replicate (kids.length-s.2.1.length) ⟨0,0,0,0,0⟩)) (fun(s:Int×List aX×LLA) rest=>(s.2.1++xx q rtl I IN AC' ZZ S1 ST s.1 rest,ixs 0 s.2.1.length++(rest.map (·.1)).flatten)) ((D1,ixs 0 kids.length)) (0,[],E) (by rw [hN];exact Prod.ext rfl hT) ⟨rfl,hE⟩ (Wk.weak (wkM [some 0,none,none,some 3,some 4,some 5,some 6,some 7,some 8,some 9,some 10,some 11] ⟨rfl,rfl,rfl,rfl,rfl,rfl,rfl,rfl,rfl,rfl,rfl,rfl,rfl,rfl,rfl,rfl,rfl,trivial⟩ ⟨.inr ⟨_,_,rfl,rfl,rfl,rfl,.inr ⟨zr5,trivial⟩⟩,.inl rfl,.inl rfl,.inr (wqE rfl rfl),.inr (wqE rfl rfl),.inr (wqE rfl rfl),.inr (wqE rfl rfl),.inr (wqE rfl pM),.inr (wqE rfl pA),.inr (wqE rfl rfl),.inr ⟨_,_,rfl,rfl,rfl,rfl,.inr ⟨zr4,trivial⟩⟩,.inr (wqE rfl pE),trivial⟩ (by decide) ⟨.inl rfl,.inl rfl,.inr rfl,trivial⟩ ⟨.inl rfl,.inl rfl,.inr ⟨_,rfl⟩,trivial⟩)) (fun z s B hz h0 hi he=> ?_) (fun z s x rest B z0 z1 z2 hx hy h0 hi hc e1 hB=> ?_)
 ·obtain⟨k,D,E1⟩:=s
  obtain⟨i1,i2⟩:=hi
  obtain⟨ht,hj⟩:=Prod.mk.inj h0
  dsimp only at i1 i2
  obtain rfl:D=D1:=by simpa [xx]using ht
  have xa:D.length=kids.length:=by
   have:=congrArg List.length hj
   simpa [bX]using this
  have hQ:=hQ z E1 (by rw [i2,xa,Nat.sub_self,List.replicate_zero,List.append_nil])
  cbv
  rw [he]
  cbv
  exact hQ
 ·obtain⟨k,done,E1⟩:=s
  obtain⟨l,c⟩:=x
  obtain⟨i1,i2⟩:=hi
  obtain⟨ht,hj⟩:=Prod.mk.inj h0
  dsimp only at i1 i2 hy ht hj
  subst i1
  obtain⟨L,hL⟩:=nmE (vw ah l)
  have xi:vL[k.toNat]? =some [.view L]:=by rw [hL];exact hy
  have hG:=nX hj
  rw [bX]at hG
  have hn:=l9 (l:=l) (ls:=rest.map (fun t:List Int×Int=>t.1)) hG.2.2
  have hd:l.length<=1048576:=Nat.le_trans hn.1 (Nat.le_trans (Nat.sub_le ..) hkl)
  have hA:=zqd (ho hx).1
  have hC:=hU l hA
  have hM:=pmV i2
  have hV:done.length+l.length<=kids.length:=by have:=hn.1;omega
  have hr:=ia I l xc hd
  have hs:=o5 S1 l (by omega) hd (fun i hi=>by have:=hC i hi;omega)
  have hv:=nz (pck S1 l) (Nat.le_trans (uP S1 l) hd)
  have hm:(l.map (elZ ZZ)).length<=1048576:=by rw [zql];exact hd
  have hh:=nu (lit I l) (l.map (elZ ZZ)) GP IN s0.justify (Nat.le_trans rA hd) hm
  obtain⟨PS,hw⟩:=nmE (Hx q I IN ZZ l)
  have ha:alg (lit I l) (l.map (elZ ZZ)) GP IN s0.justify=PS:=by rw [hw];unfold Hx;rw [xd,xe]
  rw [ha]at hh
  have hS:PS.length=l.length:=by rw [<-ha,Ez (hal l hA),zql]
  obtain⟨lb,hb⟩:=nmE (bas (pck S1 l))
  rw [<-hb]at hv
  obtain⟨LI,hP⟩:=nmE (vw af.c (lit I l));(try rw [<-hP]at hr);(try rw [<-hP]at hh)
  obtain⟨PK,hR⟩:=nmE (vw av.c (pck S1 l));(try rw [<-hR]at hs);(try rw [<-hR]at hv)
  rw [<-hvI,<-hL]at hr
  rw [<-hvS,<-hL]at hs
  obtain⟨W,hW⟩:=nmE (vw ah (l.map (elZ ZZ)))
  have xl:W.length=(l.map (elZ ZZ)).length:=by rw [hW,ar]
  have iW:=imV hW
  have kW:=kmV (k:=1) hW fun _=>rfl
  have dW:=dmV hW
  rw [<-hW]at hh
  obtain⟨vP,hk⟩:=nmE (vw ah PS)
  have xh:=lmV hk
  have hY:=imV hk
  have xj:=kmV (k:=1) hk fun _=>rfl
  have hZ:=dmV hk
  rw [<-hk]at hh
  have xg:∀i∈l,0<=i/\i<(ZZ.length:Int):=fun i hi=>by have:=hC i hi;omega
  have xf:k.toNat<CC.length:=(List.getElem?_eq_some_iff.1 (ho hx).2).1
  obtain⟨st,hX⟩:∃v,ST[k.toNat]? =some v:=⟨_,zqc (by omega)⟩
  have hu:=hu k c st lb z0 (ho hx).2 hX PS vP hk l hS L W hL hW hd done (by simpa using hn.2.1) hV E1 i2
  have h3:∀D,D=done++sj q rtl IN AC' ZZ S1 (elZ ST k) c lb PS 0 l->(D++xx q rtl I IN AC' ZZ S1 ST (k+1) rest,ixs 0 D.length++(rest.map (·.1)).flatten)=(D1,ixs 0 kids.length):=fun D hD=>Prod.ext (by
   rw [<-ht,hD,hb,hw,zqC];rfl) (by
   show ixs 0 D.length++(rest.map (·.1)).flatten=ixs 0 kids.length
   rw [<-hj,hD,zqe,mc,jT,zqC]
   congr 1
   rw [zqA,List.flatten_cons]
   congr 1
   exact hn.2.1.symm)
  clear hG hn hV hj hT hJ ho hI hq hF hC hU ha hw hb hvI hvS hm hA hal hS xf hX
  cbv
  rw [hc]
  cbv
  refine goX hg _ z0 xi rfl ?_
  cbv
  refine lA hg (mh (aK f173) 1) (by kernel_rfl) [(0,.p 0),(5,.p 3),(6,.p 4),(7,.p 5),(8,.p 6),(9,.v vI),(10,.v vZ),(11,.i (IN)),(12,.i (GP)),(13,.v vL),(14,.v vS),(15,.v vC),(16,.i (AC')),(18,.v vT),(19,.p 9),(20,.p 10),(21,.i (k)),(22,.v L),(23,.o 12),(24,.i (0))] [.bx 74 5 [.view V,.B rtl,.B keeps,.own 7,.own 8],.gn,.gn,.bx 66 68 (nwL n s0 row al ac KW (.view K)),.bx 34 2 [.J w0,.J w1],.bx 34 2 [.J h0',.J h1'],.bx 43 4 [.J 0,.J 0,.J 0,.N],.rw ⟨146,10,M⟩,.rw ⟨153,6,A0⟩,.bx 62 4 [.J fl,.J ft,.J fr,.J fb],.bx 43 4 [.J 0,.J 0,.J 0,.own 11],.rw ⟨156,5,E1⟩,.rw ⟨3,1,[]⟩] (Wk.weak (wkM [some 0,none,none,some 3,some 4,some 5,some 6,some 7,some 8,some 9,some 10,some 11,some 12] ⟨rfl,rfl,rfl,rfl,rfl,rfl,rfl,rfl,rfl,rfl,rfl,rfl,rfl,rfl,rfl,rfl,rfl,rfl,rfl,rfl,trivial⟩ ⟨.inr ⟨_,_,rfl,rfl,rfl,rfl,.inr ⟨zr5,trivial⟩⟩,.inl rfl,.inl rfl,.inr (wqE rfl rfl),.inr (wqE rfl rfl),.inr (wqE rfl rfl),.inr (wqE rfl rfl),.inr (wqE rfl pM),.inr (wqE rfl pA),.inr (wqE rfl rfl),.inr ⟨_,_,rfl,rfl,rfl,rfl,.inr ⟨zr4,trivial⟩⟩,.inr (wqE rfl hM),.inr (wqE rfl rfl),trivial⟩ (by decide) ⟨.inl rfl,.inl rfl,.inr rfl,trivial⟩ ⟨.inl rfl,.inl rfl,.inr ⟨_,rfl⟩,trivial⟩)) ?_
  refine D7 hg V rtl keeps n s0 row al ac KW w0 w1 h0' h1' K M A0 pM pA IN GP AC' vI vL vZ vS vC vT fl ft fr fb k E1 hM ZZ hvZ l L hL hd xg fun z2 E2 xb=> ?_
  obtain rfl:W=E2:=by rw [xb,hW]
  cbv
  (repeat'((first|refine aa hg hr ?_|refine ad hg hs ?_|refine ad hg hv ?_|refine bT hg hh (ao (aw rfl) (ao (bf (ab:=⟨_,_,W⟩) rfl kW dW) (ao (aw rfl) (ao (aw rfl) (ao (aw rfl) (aC)))))) hY ?_);cbv))
  refine lA hg (mh (aK f173) 2) (by kernel_rfl) [(0,.p 0),(5,.p 3),(6,.p 4),(7,.p 5),(8,.p 6),(9,.v vI),(10,.v vZ),(11,.i (IN)),(12,.i (GP)),(13,.v vL),(14,.v vS),(15,.v vC),(16,.i (AC')),(18,.v vT),(19,.p 9),(20,.p 10),(21,.i (k)),(22,.v L),(23,.v W),(25,.v vP),(26,.i (lb)),(27,.i (0))] [.bx 74 5 [.view V,.B rtl,.B keeps,.own 7,.own 8],.gn,.gn,.bx 66 68 (nwL n s0 row al ac KW (.view K)),.bx 34 2 [.J w0,.J w1],.bx 34 2 [.J h0',.J h1'],.bx 43 4 [.J 0,.J 0,.J 0,.N],.rw ⟨146,10,M⟩,.rw ⟨153,6,A0⟩,.bx 62 4 [.J fl,.J ft,.J fr,.J fb],.bx 43 4 [.J 0,.J 0,.J 0,.own 11],.rw ⟨156,5,E1⟩] (bH (sl2 12 13 W vP) (F5 rfl kW dW rfl xj hZ) (Wk.weak (wkM [some 0,none,none,some 3,some 4,some 5,some 6,some 7,some 8,some 9,some 10,some 11] ⟨rfl,rfl,rfl,rfl,rfl,rfl,rfl,rfl,rfl,rfl,rfl,rfl,rfl,rfl,rfl,rfl,rfl,rfl,rfl,rfl,rfl,rfl,trivial⟩ ⟨.inr ⟨_,_,rfl,rfl,rfl,rfl,.inr ⟨zr5,trivial⟩⟩,.inl rfl,.inl rfl,.inr (wqE rfl rfl),.inr (wqE rfl rfl),.inr (wqE rfl rfl),.inr (wqE rfl rfl),.inr ⟨_,_,rfl,rfl,rfl,rfl,.inl (bG pM)⟩,.inr ⟨_,_,rfl,rfl,rfl,rfl,.inl (bG pA)⟩,.inr (wqE rfl rfl),.inr ⟨_,_,rfl,rfl,rfl,rfl,.inr ⟨zr4,trivial⟩⟩,.inr ⟨_,_,rfl,rfl,rfl,rfl,.inl (bG hM)⟩,trivial⟩ (by decide) ⟨.inl rfl,.inl rfl,.inr rfl,trivial⟩ ⟨.inl rfl,.inl rfl,.inr ⟨_,rfl⟩,trivial⟩))) ?_
  refine hu _ fun z3 E3 D hD hO=> ?_
  have xk:=pmV hO
  cbv
  ((repeat'(rw [e1];cbv)))
  skip
  exact hB ((k+1,D,E3)) _ _ ⟨h3 D hD,⟨rfl,hO⟩⟩ (Wk.weak (wkM [some 0,none,none,some 3,some 4,some 5,some 6,some 7,some 8,some 9,some 10,some 11] ⟨rfl,rfl,rfl,rfl,rfl,rfl,rfl,rfl,rfl,rfl,rfl,rfl,rfl,rfl,rfl,rfl,rfl,trivial⟩ ⟨.inr ⟨_,_,rfl,rfl,rfl,rfl,.inr ⟨zr5,trivial⟩⟩,.inl rfl,.inl rfl,.inr (wqE rfl rfl),.inr (wqE rfl rfl),.inr (wqE rfl rfl),.inr (wqE rfl rfl),.inr (wqE rfl pM),.inr (wqE rfl pA),.inr (wqE rfl rfl),.inr ⟨_,_,rfl,rfl,rfl,rfl,.inr ⟨zr4,trivial⟩⟩,.inr (wqE rfl xk),trivial⟩ (by decide) ⟨.inl rfl,.inl rfl,.inr rfl,trivial⟩ ⟨.inl rfl,.inl rfl,.inr ⟨_,rfl⟩,trivial⟩))
theorem GJ{xs:List Int}{i:Int}(h:i∉xs):cnt xs i=0:=by
 induction xs with
 |nil=>rfl
 |cons x xs ih=>
  have e:cnt (x::xs) i=(if x=i then 1 else 0)+cnt xs i:=by simp [cnt]
  rw [e,ih (fun hm=>h (List.mem_cons_of_mem _ hm)),if_neg (fun hx=>h (by rw [hx];exact List.mem_cons_self ..))]
  rfl
variable {LL:List (List Int)}{l:List Int}
theorem Fb{i:Int}{k:Int}(h:i∈l):qt i k (l::LL)=k:=by
 have:=(Ft l i).2 h
 simp only [qt]
 rw [if_pos (by omega)]
theorem Cc{i:Int}{k:Int}(h:i∉l):qt i k (l::LL)=qt i (k+1) LL:=by
 simp only [qt]
 rw [GJ h,if_neg (by omega)]
theorem Fc{i:Int}:∀(LL:List (List Int))(k:Int),i∈LL.flatten->k<=qt i k LL/\qt i k LL<k+(LL.length:Int)
 | [],k,h=>by simp at h
 |l::LL,k,h=>by
  by_cases hm:i∈l
  ·rw [Fb hm];simp only [zqx];omega
  ·rw [Cc hm]
   have:=Fc LL (k+1) (by rw [List.flatten_cons]at h;exact(List.mem_append.1 h).resolve_left hm)
   simp only [zqx];omega
theorem GB(P:List Int)(c:Int)(C:List Int):elZ (P++c::C) (P.length:Int)=c:=oq (by rw [zqg (Nat.le_refl _)];simp)
theorem Fo{α:Type}(f:Int->Int->α):∀(LL:List (List Int))(CC P:List Int)(m n:Nat),CC.length=LL.length->LL.flatten=ixs m n->(ixs m n).map (fun i=>f (elZ (P++CC) (qt i (P.length:Int) LL)) i)=(LL.zip CC).flatMap fun q=>q.1.map (f q.2)
 | [],CC,P,m,n,hc,hf=>by rw [<-hf];rfl
 |l::LL,[],P,m,n,hc,hf=>by simp at hc
 |l::LL,c::CC,P,m,n,hc,hf=>by
  obtain⟨h1,h2,h3⟩:=l9 hf
  have e:ixs (m:Int) n=l++LL.flatten:=by rw [<-hf,List.flatten_cons]
  rw [e,List.map_append,List.zip_cons_cons,List.flatMap_cons]
  congr 1
  ·refine List.map_congr_left fun i hi=> ?_
   rw [Fb hi,GB]
  ·have h4:LL.flatten=ixs ((m+l.length:Nat):Int) (n-l.length):=by rw [h3,Int.natCast_add]
   have:=Fo f LL CC (P++[c]) (m+l.length) (n-l.length) (by simpa using hc) h4
   rw [<-this,<-h4]
   refine List.map_congr_left fun i hi=> ?_
   have ha:i∉l:=fun hm=>by
    rw [h2,lI]at hm
    rw [h4,lI]at hi
    omega
   rw [Cc ha,zqC,zqe,zqm]
   rfl
theorem Gz{α:Type}(f:Int->Int->α)(LL:List (List Int))(CC:List Int)(n:Nat)(hc:CC.length=LL.length)(hf:LL.flatten=ixs 0 n):(ixs 0 n).map (fun i=>f (elZ CC (qt i 0 LL)) i)=(LL.zip CC).flatMap fun q=>q.1.map (f q.2):=Fo f LL CC [] 0 n hc hf
theorem yc{V:LLA}{rtl keeps:Bool}{bx:Bx}{c L:Nat}(p:Pl)(ns:List ag):∀(ks:List Int)(st:St),(∀k∈ks,Aa V rtl keeps bx c L k)->(kP bx p rtl ns ks st).1.length=ks.length/\(kP bx p rtl ns ks st).2.1.length<=st.1.length+ks.length*c/\(kP bx p rtl ns ks st).2.2.length<=st.2.length+ks.length*c
 | [],st,_=>by simp [kP]
 |k::r,st,h=>by
  have h1:=CW (h k (List.mem_cons_self ..)) p ns st
  have h2:=yc p ns r (xp bx p rtl ns k st).2 (fun x hx=>h x (List.mem_cons_of_mem _ hx))
  have e:(k::r).length*c=r.length*c+c:=by rw [zqx,Nat.succ_mul]
  rw [e]
  simp only [kP,zqx]
  refine⟨by rw [h2.1],?_,?_⟩
  ·exact Nat.le_trans h2.2.1 (Nat.le_trans (Nat.add_le_add_right h1.1 _) (Nat.le_of_eq (by rw [Nat.add_assoc,Nat.add_comm c])))
  ·exact Nat.le_trans h2.2.2 (Nat.le_trans (Nat.add_le_add_right h1.2 _) (Nat.le_of_eq (by rw [Nat.add_assoc,Nat.add_comm c])))
theorem xI{V:LLA}{rtl keeps:Bool}{bx:Bx}{c L:Nat}(p:Pl)(ns:List ag):∀(ks:List (Int×Int))(st:St),(∀k∈ks,Aa V rtl keeps bx c L k.1)->(uG bx p rtl ns ks st).1.length=ks.length/\(uG bx p rtl ns ks st).2.1.length<=st.1.length+ks.length*c/\(uG bx p rtl ns ks st).2.2.length<=st.2.length+ks.length*c
 | [],st,_=>by simp [uG]
 |(k,z)::r,st,h=>by
  have h1:=yx (h (k,z) (List.mem_cons_self ..)) p.row ⟨3,z⟩ (AW p (kst ns k) rtl z) st
  have h2:=xI p ns r (uq bx p.row k ⟨3,z⟩ (AW p (kst ns k) rtl z) st).2 (fun x hx=>h x (List.mem_cons_of_mem _ hx))
  have e:((k,z)::r).length*c=r.length*c+c:=by rw [zqx,Nat.succ_mul]
  rw [e]
  simp only [uG,zqx]
  refine⟨by rw [h2.1],?_,?_⟩
  ·exact Nat.le_trans h2.2.1 (Nat.le_trans (Nat.add_le_add_right h1.1 _) (Nat.le_of_eq (by rw [Nat.add_assoc,Nat.add_comm c])))
  ·exact Nat.le_trans h2.2.2 (Nat.le_trans (Nat.add_le_add_right h1.2 _) (Nat.le_of_eq (by rw [Nat.add_assoc,Nat.add_comm c])))
theorem DG{cs:List Int}{gap inner ct:Int}(h:acr cs gap inner=true):(pll cs gap inner ct).length=cs.length:=by
 unfold pll
 rw [if_neg (by rw [h];simp),xO]
theorem sq(ns:List ag)(hl:ns.length<=1048576)(rtl keeps:Bool)(bx:Bx)(c L:Nat)(n:Int)(p:Pl)(w0 w1 h0' h1':Int)(hpw:p.w=⟨w0,w1⟩)(hph:p.h=⟨h0',h1'⟩)(hkn:p.kids≠[])(hkl:p.kids.length<20)(hk:∀kid∈p.kids,isN ns kid=true)(hbx:∀kid∈p.kids,Aa (vwA ag.ac ns) rtl keeps bx c L kid)(st:St)(hm:st.1.length+40*c<=L)(hq:st.2.length+40*c<=L)
  (hal:∀l∈mZ p (kP bx p rtl ns p.kids st).1,al5 (lit (kP bx p rtl ns p.kids st).1 l) (l.map (elZ (qm p (kP bx p rtl ns p.kids st).1))) (Dd p) (Dc p (kP bx p rtl ns p.kids st).1)=true)
  (hf:∀cs,cs=yo p (mZ p (kP bx p rtl ns p.kids st).1) (uG bx p rtl ns (p.kids.zip (qm p (kP bx p rtl ns p.kids st).1)) (kP bx p rtl ns p.kids st).2).1->acr cs (uc p) (z6 p cs)=true):
  SE prog 173 (sR (vwA ag.ac ns) rtl keeps) (SM st.1) (SA st.2) [.c (.ptr 0 0 0),.agg (nwL n p.s p.row p.al p.ac (knS p.wide) (.view (vw ah p.kids))),agP ⟨w0,w1⟩,agP ⟨h0',h1'⟩] (.t (.agg (kg.ac (D9 bx p rtl ns st).1))) (SM (D9 bx p rtl ns st).2.1) (SA (D9 bx p rtl ns st).2.2):=by
 have cI:=k9 ns hl rtl keeps bx c L n p hkl hk hbx st (by omega) (by omega)
 have hb:=yc p ns p.kids st hbx
 have xv:p.kids.length*c<=20*c:=Nat.mul_le_mul_right c (by omega)
 obtain⟨ra,x4⟩:=nmE (kP bx p rtl ns p.kids st)
 unfold D9
 dsimp only
 rw [<-x4]at cI hb hal hf⊢
 obtain⟨I,hM⟩:=ra
 dsimp only at cI hb hal hf⊢
 have hr:=hb.1
 have hS:I.length<=1048576:=by omega
 have hL:=ql p I
 have cS:=nk ns hl rtl keeps bx c L n p (qm p I) hkl (by rw [hL,hr]) hk hbx hM (by omega) (by omega)
 obtain⟨rb,xD⟩:=nmE (uG bx p rtl ns (p.kids.zip (qm p I)) hM)
 have ha:rb.1.length=p.kids.length:=by
  have:=(xI (V:=vwA ag.ac ns) (rtl:=rtl) (keeps:=keeps) (c:=c) (L:=L) p ns (p.kids.zip (qm p I)) hM (fun k yb=>hbx k.1 (by obtain⟨i,hi⟩:=List.mem_iff_getElem?.1 yb;exact zqd (AX (by obtain⟨a,b⟩:=k;exact hi)).1))).1
  rw [<-xD,zqB,hL,hr,Nat.min_self]at this
  exact this
 rw [<-xD]at cS hf⊢
 obtain⟨S0,x6⟩:=rb
 dsimp only at cS hf ha⊢
 obtain⟨s0,row,wd,yC,iw,ih,al,ac,kids⟩:=p
 dsimp only at hpw hph hkn hkl hk hbx hr hb ha cI cS
 subst hpw hph
 obtain⟨q,he⟩:∃q:Pl,q=⟨s0,row,⟨w0,w1⟩,⟨h0',h1'⟩,iw,ih,al,ac,kids⟩:=⟨_,rfl⟩
 rw [<-he]at hal hf hL cS⊢
 have hp:q.kids=kids:=by rw [he]
 have hu:kids.length<=1048576:=by omega
 have hY:(qm q I).length=kids.length:=by rw [hL,hr]
 have cZ:=k6 n s0 row al ac (knS iw) (vw ah kids) I hS
 have cN:=ld n s0 row al ac (knS iw) (vw ah kids) I hS
 have h4:mZ q I=lns I (gp s0 row) (iq al) (!decide (s0.wrap=1)):=by rw [he];rfl
 have yd:Dc q I=tak al (lng I (gp s0 row) (iq al) (!decide (s0.wrap=1))):=by rw [he];rfl
 have ye:qm q I=lsz I (gp s0 row) (iq al) (!decide (s0.wrap=1)) (tak al (lng I (gp s0 row) (iq al) (!decide (s0.wrap=1)))):=by rw [he];rfl
 rw [<-ye]at cZ
 rw [<-yd]at cN
 have hC:(mZ q I).flatten=ixs 0 kids.length:=by rw [h4,l8,hr]
 have h3:(mZ q I).length<=64:=by rw [h4];exact Nat.le_trans (mY ..) (by omega)
 have h2:∀l∈mZ q I,l.length<=1048576/\∀i∈l,0<=i/\i<(S0.length:Int):=fun l hm=>by
  rw [h4]at hm
  exact⟨Nat.le_trans (jR hm) hS,fun i hi=>by have:=uU hm hi;omega⟩
 have hh:=ji I (gp s0 row) (iq al) (!decide (s0.wrap=1)) hS
 rw [<-h4]at hh
 have cC:=oD n s0 row al ac (knS iw) (vw ah kids) (mZ q I) S0 (by omega) h3 h2
 have yf:yo q (mZ q I) S0=El s0 row ac (mZ q I) S0:=by rw [he];rfl
 rw [<-yf]at cC
 have ht:(yo q (mZ q I) S0).length=(mZ q I).length:=vU q _ _ h3
 have hf:=hf _ rfl
 have xY:Dd q=gp s0 row:=by rw [he];rfl
 have xZ:uc q=gp s0 (!row):=by rw [he];rfl
 unfold IY
 dsimp only
 obtain⟨LL,xT⟩:=nmE (mZ q I)
 obtain⟨ZZ,xW⟩:=nmE (qm q I)
 obtain⟨IN,xR⟩:=nmE (Dc q I)
 rw [<-xT]at hC h3 h2 cC ht hh hal hf⊢
 rw [<-xW]at hY cZ cS hal⊢
 rw [<-xR]at cN hal⊢
 obtain⟨CC,xN⟩:=nmE (yo q LL S0)
 rw [<-xN]at ht cC hf⊢
 obtain⟨S1,xt⟩:=nmE (CG q ns S0 ZZ (LL.zip CC))
 have xw:(ixs 0 S0.length).map (fun i=>yk q ns S0 ZZ (elZ CC (qt i 0 LL)) i)=S1:=by rw [xt,ha];exact Gz (yk q ns S0 ZZ) LL CC kids.length ht hC
 have x0:∀i:Int,0<=i->i<(q.kids.length:Int)->0<=qt i 0 LL/\qt i 0 LL<(CC.length:Int):=fun i h0 h1=>by
  rw [hp]at h1
  have:=Fc LL 0 (show i∈LL.flatten by rw [hC,lI];omega)
  omega
 have cF:=fun C D=>pt ns hl rtl keeps C D n q (by rw [hp];exact hu) (by rw [hp];exact hk) LL CC S0 ZZ (by rw [hp];exact ha) (by rw [hp];exact hY) (by omega) (fun l hm=>(h2 l hm).1) x0
 simp only [xw]at cF
 have hI:S1.length=kids.length:=by rw [<-xw,zql,bX,ha]
 rw [<-xt]
 obtain⟨am,an⟩:=ac
 obtain⟨lm,ln⟩:=al
 have cG:=gV s0 row
 have hz:=gV s0 (!row)
 have cT:=fZ CC (uc q) (by rw [ht];omega)
 have cK:=ea am an (crt CC (uc q))
 have x1:z6 q CC=tak ⟨am,an⟩ (crt CC (uc q)):=by rw [he];rfl
 rw [<-x1]at cK
 have cL:=oH CC (uc q) (z6 q CC) (ctP q) (by omega)
 have xy:ctP q=if s0.wrap=1 then 2 else s0.content:=by rw [he];rfl
 have xz:G4 q CC=pll CC (uc q) (z6 q CC) (ctP q):=rfl
 rw [<-xz]at cL
 have hs:(G4 q CC).length=CC.length:=by rw [xz];exact DG hf
 rw [<-xZ]at hz
 rw [xY]at hal
 obtain⟨GP,xm⟩:=nmE (gp s0 row)
 rw [<-xm]at cG hh hal
 obtain⟨GC,xQ⟩:=nmE (uc q)
 obtain⟨hy,xM⟩:=nmE (z6 q CC)
 obtain⟨ST,xU⟩:=nmE (G4 q CC)
 rw [<-xQ]at hz cT cK cL
 rw [<-xM]at cK cL⊢
 rw [<-xU]at cL hs⊢
 obtain⟨TT,xV⟩:=nmE (crt CC GC)
 rw [<-xV]at cT cK
 have xb:=iu lm ln
 obtain⟨RM,xr⟩:=nmE (iq ⟨lm,ln⟩);(try rw [<-xr]at xb);(try rw [<-xr]at hh)
 obtain⟨wr,xF⟩:=nmE ((!decide (s0.wrap=1)))
 rw [<-xF]at hh
 obtain⟨V,hV⟩:=nmE (vwA ag.ac ns)
 have x9:∀zs,zs=qm q I->True:=fun _ _=>trivial
 have yh:q.s=s0/\q.row=row/\q.al=⟨lm,ln⟩/\q.ac=⟨am,an⟩/\q.wide=iw/\q.w=⟨w0,w1⟩/\q.h=⟨h0',h1'⟩:=by rw [he];exact⟨rfl,rfl,rfl,rfl,rfl,rfl,rfl⟩
 obtain⟨h6,h5,xB,xA,xC,x3,x2⟩:=yh
 rw [h6,h5,xB,xA,xC,hp]
 simp only [h6,h5,xB,xA,xC,hp]at cF
 simp only [<-hV]at cF
 rw [<-hV]at cI cS⊢
 obtain⟨KW,ho⟩:=nmE (knS iw);(try rw [<-ho]at cI);(try rw [<-ho]at cS);(try rw [<-ho]at cZ);(try rw [<-ho]at cN);(try rw [<-ho]at cC);(try rw [<-ho]at⊢)
 simp only [<-ho]at cF
 obtain⟨K,hK⟩:=nmE (vw ah kids)
 have xS:=lmV hK
 have iK:=imV hK
 have kK:=kmV (k:=1) hK fun _=>rfl
 have dK:=dmV hK
 rw [<-hK]at cI cS cZ cN cC⊢
 simp only [<-hK]at cF
 obtain⟨vI,hD⟩:=nmE (vw af.c I)
 have yl:=lmV hD
 have yI:=imV hD
 have yN:=kmV (k:=9) hD fun _=>rfl
 have yx:=dmV hD
 rw [<-hD]at cI cZ cN hh
 obtain⟨vZ,hx⟩:=nmE (vw ah ZZ)
 have yp:=lmV hx
 have yL:=imV hx
 have yQ:=kmV (k:=1) hx fun _=>rfl
 have yA:=dmV hx
 rw [<-hx]at cZ cS
 simp only [<-hx]at cF
 obtain⟨vS,hG⟩:=nmE (vw av.c S0)
 have ym:=lmV hG
 have yJ:=imV hG
 have yO:=kmV (k:=7) hG fun _=>rfl
 have yy:=dmV hG
 rw [<-hG]at cS cC
 simp only [<-hG]at cF
 obtain⟨vC,hw⟩:=nmE (vw ah CC)
 have yi:=lmV hw
 have yG:=imV hw
 have yM:=kmV (k:=1) hw fun _=>rfl
 have yw:=dmV hw
 rw [<-hw]at cC cT cL
 simp only [<-hw]at cF
 obtain⟨vL,xE⟩:=nmE (vwA lnA LL)
 rw [<-xE]at hh cC
 simp only [<-xE]at cF
 obtain⟨vT,hH⟩:=nmE (vw ah ST)
 have yn:=lmV hH
 have yK:=imV hH
 have yP:=kmV (k:=1) hH fun _=>rfl
 have yz:=dmV hH
 rw [<-hH]at cL
 obtain⟨h8,hc⟩:=nmE (vw av.c S1)
 have x5:=lmV hc
 have xG:=imV hc
 have xH:=kmV (k:=7) hc fun _=>rfl
 have xe:=dmV hc
 simp only [<-hc]at cF
 have xa:=gz s0
 obtain⟨fe,hZ⟩:=nmE (oh s0)
 rw [<-hZ]at xa
 obtain⟨fl,ft,fr,fb⟩:=fe
 obtain⟨M0,hT⟩:=nmE (SM st.1)
 obtain⟨A0,hQ⟩:=nmE (SA st.2)
 obtain⟨M1,hU⟩:=nmE (SM hM.1)
 obtain⟨A1,hR⟩:=nmE (SA hM.2)
 obtain⟨M2,hB⟩:=nmE (SM x6.1)
 obtain⟨A2,hA⟩:=nmE (SA x6.2)
 have yu:aB M0=true:=by rw [hT];exact cu _
 have yr:aB A0=true:=by rw [hQ];exact cV _
 have yv:aB M1=true:=by rw [hU];exact cu _
 have ys:aB A1=true:=by rw [hR];exact cV _
 have xK:aB M2=true:=by rw [hB];exact cu _
 have xJ:aB A2=true:=by rw [hA];exact cV _
 have kM:∀y∈M2,y.length=10:=by rw [hB];exact I8 _
 have dM:∀y∈M2,y.all dat=true:=by rw [hB];exact z7 _
 have kA:∀y∈A2,y.length=6:=by rw [hA];exact I9 _
 have dA:∀y∈A2,y.all dat=true:=by rw [hA];exact z8 _
 have cF:=cF (.view M2) (.view A2)
 rw [<-hT,<-hQ,<-hU,<-hR]at cI
 rw [<-hU,<-hR,<-hB,<-hA]at cS
 rw [<-hT,<-hQ,<-hB,<-hA]
 have hO:=fun(g:Gd)(hg:g= @G0 bp0 prog 3 f173.ntmps)(Q':Exit->List (Nat×AV)->EH->Prop) E hE hQ'=>D5 hg (Q:=Q') V rtl keeps n s0 row ⟨lm,ln⟩ ⟨am,an⟩ KW w0 w1 h0' h1' K M2 A2 xK xJ IN GP hy vI vL vZ h8 vC vT fl ft fr fb ⟨w0,w1⟩ ⟨h0',h1'⟩ iw ih kids hK hu I hD hr ZZ CC ST S1 hx hw hH hc hs hY hI hZ.symm xm LL xE (by omega) ht hC hal E hE hQ'
 rw [<-he]at hO
 obtain⟨FF,xl⟩:=nmE (xx q rtl I IN hy ZZ S1 ST 0 (LL.zip CC))
 have xP:FF.length=kids.length:=by rw [xl,vE,fz ht,hC,bX]
 rw [<-xl]at hO⊢
 have yF:0<kids.length:=List.length_pos_iff.2 hkn
 obtain⟨f0,FT,xi⟩:∃f t,FF=f::t:=by
  cases FF with
  |nil=>simp at xP;omega
  |cons a b=>exact⟨_,_,rfl⟩
 obtain⟨h7,hv⟩:∃y,S1[(0:Int).toNat]? =some y:=⟨_,zqc (by show 0<S1.length;omega)⟩
 have hJ:sdZ S1 0=h7:=wE (Int.le_refl 0) hv
 obtain⟨vF,hn⟩:=nmE (vw aX.c FF)
 have yj:=lmV hn
 have yH:=imV hn
 have yq:=kmV (k:=5) hn fun _=>rfl
 have x7:=dmV hn
 have pF:=pmV hn
 have xk:vF[(0:Int).toNat]? =some (lc (aX.c f0)):=by rw [hn,xi];rfl
 have xj:(0:Int)<aQ vF:=by rw [hn,aM];omega
 have xs:h8[(0:Int).toNat]? =some (lc (av.c h7)):=by rw [hc];exact bd hv
 have hP:=ir fl ft fr fb
 have hN:=iv fl ft fr fb
 obtain⟨B1,xf⟩:=nmE (adE fl fr)
 obtain⟨B2,xg⟩:=nmE (adE ft fb)
 change PC0 _ _ (.i (adE fl fr))at hP
 change PC0 _ _ (.i (adE ft fb))at hN
 rw [<-xf]at hP
 rw [<-xg]at hN
 obtain⟨XW,hX⟩:=nmE ((if row then IN else hy))
 obtain⟨XH,hW⟩:=nmE ((if row then hy else IN))
 obtain⟨W1,xu⟩:=nmE (wrap64 (XW+B1))
 obtain⟨H1,xn⟩:=nmE (wrap64 (XH+B2))
 obtain⟨BB,xh⟩:=nmE (wrap64 (f0.y+h7.base))
 have xc:=ea w0 w1 W1
 have xd:=ea h0' h1' H1
 have h9:=aN BB
 obtain⟨R1,xo⟩:=nmE (tak ⟨w0,w1⟩ W1);(try rw [<-xo]at xc)
 obtain⟨R2,xp⟩:=nmE (tak ⟨h0',h1'⟩ H1);(try rw [<-xp]at xd)
 obtain⟨R3,xq⟩:=nmE (cl BB);(try rw [<-xq]at h9)
 have xX:kg.ac (Fz q IN hy FF S1)=[.J R1,.J R2,.J R3,.view vF]:=by
  rw [xo,xp,xq,xu,xn,xh,hX,hW,xf,xg,hn]
  unfold Fz
  rw [h6,x3,x2,h5,<-hZ,hJ,xi]
  rfl
 rw [xX]
 refine wD (t:=156) (k:=5) (V:=vF) (R:= .t (.agg [.J R1,.J R2,.J R3,.own 5])) ?_ yq x7 rfl rfl rfl
 have xL:∀g:Gd,g=G0 prog 3 f173.ntmps->g .rp (g .ln K) [.J 0,.J 0,.J 0,.J 0,.J 0]=vw aX.c (List.replicate kids.length ⟨0,0,0,0,0⟩):=fun g hg=>by
  rw [yg hg,bB hg,hK,aM,Int.toNat_natCast];exact qB aX.c kids.length ⟨0,0,0,0,0⟩
 have xS:K.length<=1048576:=by rw [hK,ar];exact hu
 have t0:∀g:Gd,g=G0 prog 3 f173.ntmps->g .q .neq s0.wrap 1=wr:=fun g hg=>by rw [bz hg,xF];exact(dL _ _).trans (by simp)
 have te:∀g:Gd,g=G0 prog 3 f173.ntmps->g .q .eql s0.wrap 1=decide (s0.wrap=1):=fun g hg=>by rw [bm hg];exact zqn _ _
 have t1:∀g:Gd,g=G0 prog 3 f173.ntmps->g .w .add .i64 XW B1=W1:=fun g hg=>by rw [aJ hg,xu]
 have t2:∀g:Gd,g=G0 prog 3 f173.ntmps->g .w .add .i64 XH B2=H1:=fun g hg=>by rw [aJ hg,xn]
 have t3:∀g:Gd,g=G0 prog 3 f173.ntmps->g .w .add .i64 f0.y h7.base=BB:=fun g hg=>by rw [aJ hg,xh]
 clear xX xo xp xq xu xn xh xf xg hZ h6 h5 xB xA xC x3 x2 hJ xi xP xl xt hv hI hr hY h3 h2 hC ht xV xQ xM xU xR he x0 xw hs hal hf xF xY xZ x1 xz x9 hp xT xW xN hL ha hb x4 xD xv hT hQ hU hR hB hA ho xr hV xm hbx hk hm hq
 refine dJ ([]) ([]) (c:=aK f173) ay func173 (by kernel_rfl) (by kernel_rfl) (bl (by rfl)) (by kernel_rfl) (fun g yB hd F ya yD hg hF=> ?_)
 have t0:=t0 g hg
 have te:=te g hg
 have t1:=t1 g hg
 have t2:=t2 g hg
 have t3:=t3 g hg
 have xL:=xL g hg
 have hO:=hO g hg
 cbv
 ((repeat'((first|rw [t0]|refine ad hg cZ ?_|refine ad hg cN ?_|refine ad hg cG ?_|refine aa hg xb ?_|refine aa hg hh ?_|refine ad hg cC ?_|refine aa hg hz ?_|refine aa hg cT ?_|refine aa hg cK ?_|refine jE rfl hg 0 1 2 cI rfl rfl rfl (by decide) rfl yu yr ⟨rfl,.inl ⟨rfl,rfl⟩,trivial⟩ rfl ?_|refine jE rfl hg 0 7 8 cS rfl rfl rfl (by decide) rfl yv ys ⟨rfl,.inl ⟨rfl,rfl⟩,rfl,trivial⟩ rfl ?_|refine bC hg cF (dB (pT (r:=0) (rm:=9) (ra:=10) [.view V,.B rtl,.B keeps] rfl rfl rfl kM dM rfl kA dA) (bN rfl (ao (aw rfl) (ao (aw rfl) (ao (aw rfl) (ao (aw rfl) aC)))))) xG ?_);cbv)))
 by_cases hw1:s0.wrap=1
 all_goals
  first|rw [if_pos hw1]at xy|rw [if_neg hw1]at xy
  rw [xy]at cL
  first|rw [zqu hw1]at te|rw [zqt hw1]at te
  ((repeat'((first|rw [te]|refine ad hg hz ?_|refine ad hg cL ?_|refine ad hg xa ?_);cbv)))
  refine Fk hg (by decide) xS ?_
  cbv
  generalize hE0:g .rp (g .ln K) _=E3
  have xO:E3=vw aX.c (List.replicate kids.length ⟨0,0,0,0,0⟩):=by rw [<-hE0];exact xL
  clear hE0
  have yt:=pmV xO
  refine lA hg (mh (aK f173) 0) (by kernel_rfl) [(0,.p 0),(5,.p 3),(6,.p 4),(7,.p 5),(8,.p 6),(9,.v vI),(10,.v vZ),(11,.i (IN)),(12,.i (GP)),(13,.v vL),(14,.v h8),(15,.v vC),(16,.i (hy)),(18,.v vT),(19,.p 9),(20,.p 10),(21,.i (0))] [.bx 74 5 [.view V,.B rtl,.B keeps,.own 7,.own 8],.gn,.gn,.bx 66 68 (nwL n s0 row ⟨lm,ln⟩ ⟨am,an⟩ KW (.view K)),.bx 34 2 [.J w0,.J w1],.bx 34 2 [.J h0',.J h1'],.bx 43 4 [.J 0,.J 0,.J 0,.N],.rw ⟨146,10,M2⟩,.rw ⟨153,6,A2⟩,.bx 62 4 [.J fl,.J ft,.J fr,.J fb],.bx 43 4 [.J 0,.J 0,.J 0,.own 11],.rw ⟨156,5,E3⟩] (bH (sl1 11 h8) (jx rfl xH xe) (Wk.weak (wkM [some 0,none,none,some 3,some 4,some 5,some 6,some 9,some 10,some 12,some 14,some 13] ⟨rfl,rfl,rfl,rfl,rfl,rfl,rfl,rfl,rfl,rfl,rfl,rfl,rfl,rfl,rfl,rfl,rfl,trivial⟩ ⟨.inr ⟨_,_,rfl,rfl,rfl,rfl,.inr ⟨zr5,trivial⟩⟩,.inl rfl,.inl rfl,.inr (wqE rfl rfl),.inr (wqE rfl rfl),.inr (wqE rfl rfl),.inr (wqE rfl rfl),.inr ⟨_,_,rfl,rfl,rfl,rfl,.inl (bG xK)⟩,.inr ⟨_,_,rfl,rfl,rfl,rfl,.inl (bG xJ)⟩,.inr (wqE rfl rfl),.inr ⟨_,_,rfl,rfl,rfl,rfl,.inr ⟨zr4,trivial⟩⟩,.inr ⟨_,_,rfl,rfl,rfl,rfl,.inl (bG yt)⟩,trivial⟩ (by decide) ⟨.inl rfl,.inl rfl,.inr rfl,trivial⟩ ⟨.inl rfl,.inl rfl,.inr ⟨_,rfl⟩,trivial⟩))) ?_
  refine hO _ E3 xO fun z2 E2 x8=> ?_
  obtain rfl:vF=E2:=by rw [x8,hn]
  cbv
  cases row
  all_goals
   (try simp only [Bool.false_eq_true,if_false]at hX hW)
   (try simp only [if_true]at hX hW)
   subst hX hW
   (try cbv)
   ((repeat'((first|rw [t1]|rw [t2]|rw [t3]|refine aa hg hP ?_|refine aa hg hN ?_|refine aa hg xc ?_|refine aa hg xd ?_|refine aa hg h9 ?_|refine goX hg _ (Int.le_refl 0) xs rfl ?_|refine goY hg (Int.le_refl 0) xj fun j hj yE=> ?_;subst hj|refine⟨_,xk,?_⟩);cbv)))
   exact CD 7 8 11 hF rfl (.inr zr4) rfl rfl rfl rfl (by decide) rfl xK xJ pF
end Go.Proofs.YtkicjdeddpihaaaGreat
