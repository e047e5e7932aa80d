/- The reference's layout of a node with children in its flow. -/
import Derived.Test.YtkicjdeddpihaaaGreatS4bt
set_option linter.unusedVariables false
set_option linter.unusedSimpArgs false
set_option maxHeartbeats 32000000
namespace Go.Proofs.YtkicjdeddpihaaaGreat
open Go.ChangeShapes Go.WideShapes Go.ChangeAt Go.RowKit Am Go.Proofs.Tryz
set_option maxRecDepth 100000
theorem EO{xs:List af}{ss:List Int}{gap inner js:Int}(h:al5 xs ss gap inner=true):(alg xs ss gap inner js).length=ss.length:=by
 unfold alg
 rw [if_neg (by rw [h];simp),wa,zqB]
 simp only [al5,zqs,zqp]at h
 omega
theorem Ee{g:Gd}(hg:g= @G0 bp0 prog 3 f173.ntmps){Q:Exit->List (Nat×AV)->EH->Prop}(V:LLA)(rtl keeps:Bool)(n:Int)(s0:ao)(row:Bool)(al ac:az)(KW w0 w1 h0' h1':Int)(K M A0:LLA)(pM:aB M=true)(pA:aB A0=true)(IN GP AC':Int)(vI vL vZ vS vC vT:LLA)(fl ft fr fb:Int)(wd hgh iw ih:az)(kids:List Int)(hK:K=vw aj kids)(hkl:kids.length<=1048576)(I:List af)(hvI:vI=vw af.c I)(hIl:I.length=kids.length)(ZZ CC ST:List Int)(S1:List av)(hvZ:vZ=vw aj ZZ)(hvC:vC=vw aj CC)(hvT:vT=vw aj ST)(hvS:vS=vw av.c S1)(hTl:ST.length=CC.length)
  (hzl:ZZ.length=kids.length) (hsl:S1.length=kids.length) (hf:oc s0=⟨fl,ft,fr,fb⟩) (hGP:GP=ju s0 row) (LL:List (List Int)) (hH:vL=vwA lnA LL) (hLl:LL.length<=1048576) (hcl:CC.length=LL.length) (hfl:LL.flatten=ixs 0 kids.length) (hal:∀l∈LL,al5 (lit I l) (l.map (elZ ZZ)) GP IN=true)
  (E:LLA) (hE:E=vw aD.c (List.replicate kids.length ⟨0,0,0,0,0⟩))
  (hQ:∀(z:Int)(E:LLA),E=vw aD.c (xh ⟨s0,row,wd,hgh,iw,ih,al,ac,kids⟩ rtl I IN AC' ZZ S1 ST 0 (LL.zip CC))->Q (.exit 0) [(109,.t (abl (false))),(108,.i (g .ln vL)),(107,.v vL),(106,.i (z)),(0,.p 0),(5,.p 3),(6,.p 4),(7,.p 5),(8,.p 6),(9,.v vI),(10,.v vZ),(11,.i (IN)),(12,.i (GP)),(13,.v vL),(14,.v vS),(15,.v vC),(16,.i (AC')),(18,.v vT),(19,.p 9),(20,.p 10),(21,.i (z))] [.bx 74 5 [.view V,.B rtl,.B keeps,.own 7,.own 8],.gn,.gn,.bx 66 68 (nwL n s0 row al ac KW (.view K)),.bx 34 2 [.J w0,.J w1],.bx 34 2 [.J h0',.J h1'],.bx 43 4 [.J 0,.J 0,.J 0,.N],.rw ⟨146,10,M⟩,.rw ⟨153,6,A0⟩,.bx 62 4 [.J fl,.J ft,.J fr,.J fb],.bx 43 4 [.J 0,.J 0,.J 0,.own 11],.rw ⟨156,5,E⟩]):
  g .L (mf (aM f173) 0) Q [(0,.p 0),(5,.p 3),(6,.p 4),(7,.p 5),(8,.p 6),(9,.v vI),(10,.v vZ),(11,.i (IN)),(12,.i (GP)),(13,.v vL),(14,.v vS),(15,.v vC),(16,.i (AC')),(18,.v vT),(19,.p 9),(20,.p 10),(21,.i (0))] [.bx 74 5 [.view V,.B rtl,.B keeps,.own 7,.own 8],.gn,.gn,.bx 66 68 (nwL n s0 row al ac KW (.view K)),.bx 34 2 [.J w0,.J w1],.bx 34 2 [.J h0',.J h1'],.bx 43 4 [.J 0,.J 0,.J 0,.N],.rw ⟨146,10,M⟩,.rw ⟨153,6,A0⟩,.bx 62 4 [.J fl,.J ft,.J fr,.J fb],.bx 43 4 [.J 0,.J 0,.J 0,.own 11],.rw ⟨156,5,E⟩]:=by
 have hI:vL=(LL.zip CC).map (fun t=>lnA t.1):=by rw [hH];exact qk hcl
 have hJ:(LL.zip CC).map (·.1)=LL:=e9 hcl
 have hp:(LL.zip CC).length<=1048576:=by rw [zqB];exact Nat.le_trans (Nat.min_le_left ..) hLl
 have ho:=fun{i t} h=>xG (a:=LL) (b:=CC) (i:=i) (t:=t) h
 have hU:∀l∈LL,∀i∈l,0<=i/\i<(kids.length:Int):=fun l hl i hi=>by
  have:i∈LL.flatten:=List.mem_flatten.2 ⟨l,hl,hi⟩
  rw [hfl,lA]at this
  omega
 obtain⟨qs,hF⟩:=nmE (LL.zip CC)
 rw [<-hF]at hI hJ hp hQ
 simp only [<-hF]at ho
 have hT:(qs.map (·.1)).flatten=ixs 0 kids.length:=by rw [hJ];exact hfl
 obtain⟨q,hq⟩:∃q:Pl,q=⟨s0,row,wd,hgh,iw,ih,al,ac,kids⟩:=⟨_,rfl⟩
 rw [<-hq]at hQ
 obtain⟨D1,hN⟩:=nmE (xh q rtl I IN AC' ZZ S1 ST 0 qs)
 rw [<-hN]at hQ
 have xc:I.length<=1048576:=by omega
 have xd:Dm q=GP:=by rw [hq,hGP];rfl
 have xe:q.s.justify=s0.justify:=by rw [hq]
 have hu:=fun(zo c st lb:Int)(h1:0<=zo)(h2:CC[zo.toNat]? =some c)(h2':ST[zo.toNat]? =some st) PS vP h3 l h4 L vW h5 h5' h6 done h7 h8 E h9 Q' hQ'=>Ef hg (Q:=Q') V rtl keeps n s0 row al ac KW w0 w1 h0' h1' K M A0 pM pA IN GP AC' vI vL vZ vS vC vT fl ft fr fb zo wd hgh iw ih kids hK ZZ CC ST PS S1 hvZ hvC hvT hvS vP h3 hzl hsl hf h1 c h2 st h2' lb l h4 L vW h5 h5' h6 done h7 h8 E h9 hQ'
 simp only [<-hq]at hu
 replace hH:=hI
 have pE:=pmV hE
 refine aY hg ay (by kernel_rfl) vL (fun t=>lnA t.1) qs hH hp (fun z(s:Int×List aD×LLA)=>[(0,.p 0),(5,.p 3),(6,.p 4),(7,.p 5),(8,.p 6),(9,.v vI),(10,.v vZ),(11,.i (IN)),(12,.i (GP)),(13,.v vL),(14,.v vS),(15,.v vC),(16,.i (AC')),(18,.v vT),(19,.p 9),(20,.p 10),(21,.i (z))]) (fun z(s:Int×List aD×LLA)=>[.bx 74 5 [.view V,.B rtl,.B keeps,.own 7,.own 8],.gn,.gn,.bx 66 68 (nwL n s0 row al ac KW (.view K)),.bx 34 2 [.J w0,.J w1],.bx 34 2 [.J h0',.J h1'],.bx 43 4 [.J 0,.J 0,.J 0,.N],.rw ⟨146,10,M⟩,.rw ⟨153,6,A0⟩,.bx 62 4 [.J fl,.J ft,.J fr,.J fb],.bx 43 4 [.J 0,.J 0,.J 0,.own 11],.rw ⟨156,5,s.2.2⟩]) (fun z(s:Int×List aD×LLA)=>s.1=z/\s.2.2=vw aD.c (s.2.1++List.replicate (kids.length-s.2.1.length) ⟨0,0,0,0,0⟩)) (fun(s:Int×List aD×LLA) rest=>(s.2.1++xh q rtl I IN AC' ZZ S1 ST s.1 rest,ixs 0 s.2.1.length++(rest.map (·.1)).flatten)) ((D1,ixs 0 kids.length)) (0,[],E) (by rw [hN];exact Prod.ext rfl hT) ⟨rfl,hE⟩ (Wk.weak (wkM [some 0,none,none,some 3,some 4,some 5,some 6,some 7,some 8,some 9,some 10,some 11] ⟨rfl,rfl,rfl,rfl,rfl,rfl,rfl,rfl,rfl,rfl,rfl,rfl,rfl,rfl,rfl,rfl,rfl,trivial⟩ ⟨.inr ⟨_,_,rfl,rfl,rfl,rfl,.inr ⟨zr5,trivial⟩⟩,.inl rfl,.inl rfl,.inr (wqE rfl rfl),.inr (wqE rfl rfl),.inr (wqE rfl rfl),.inr (wqE rfl rfl),.inr (wqE rfl pM),.inr (wqE rfl pA),.inr (wqE rfl rfl),.inr ⟨_,_,rfl,rfl,rfl,rfl,.inr ⟨zr4,trivial⟩⟩,.inr (wqE rfl pE),trivial⟩ (by decide) ⟨.inl rfl,.inl rfl,.inr rfl,trivial⟩ ⟨.inl rfl,.inl rfl,.inr ⟨_,rfl⟩,trivial⟩)) (fun z s B hz h0 hi he=> ?_) (fun z s x rest B z0 z1 z2 hx hy h0 hi hc e1 hB=> ?_)
 ·obtain⟨k,D,E1⟩:=s
  obtain⟨i1,i2⟩:=hi
  obtain⟨ht,hj⟩:=Prod.mk.inj h0
  dsimp only at i1 i2
  obtain rfl:D=D1:=by simpa [xh]using ht
  have xa:D.length=kids.length:=by
   have:=congrArg List.length hj
   simpa [bU]using this
  have hQ:=hQ z E1 (by rw [i2,xa,Nat.sub_self,List.replicate_zero,List.append_nil])
  cbv
  rw [he]
  cbv
  exact hQ
 ·obtain⟨k,done,E1⟩:=s
  obtain⟨l,c⟩:=x
  obtain⟨i1,i2⟩:=hi
  obtain⟨ht,hj⟩:=Prod.mk.inj h0
  dsimp only at i1 i2 hy ht hj
  subst i1
  obtain⟨L,hL⟩:=nmE (vw aj l)
  have xj:vL[k.toNat]? =some [.view L]:=by rw [hL];exact hy
  have hG:=nQ hj
  rw [bU]at hG
  have hn:=lZ (l:=l) (ls:=rest.map (fun t:List Int×Int=>t.1)) hG.2.2
  have hd:l.length<=1048576:=Nat.le_trans hn.1 (Nat.le_trans (Nat.sub_le ..) hkl)
  have hA:=zqd (ho hx).1
  have hC:=hU l hA
  have hM:=pmV i2
  have hV:done.length+l.length<=kids.length:=by have:=hn.1;omega
  have hr:=gZ I l xc hd
  have hs:=o1 S1 l (by omega) hd (fun i hi=>by have:=hC i hi;omega)
  have hv:=nv (pck S1 l) (Nat.le_trans (uW S1 l) hd)
  have hm:(l.map (elZ ZZ)).length<=1048576:=by rw [zql];exact hd
  have hh:=np (lit I l) (l.map (elZ ZZ)) GP IN s0.justify (Nat.le_trans rC hd) hm
  obtain⟨PS,hw⟩:=nmE (HN q I IN ZZ l)
  have ha:alg (lit I l) (l.map (elZ ZZ)) GP IN s0.justify=PS:=by rw [hw];unfold HN;rw [xd,xe]
  rw [ha]at hh
  have hS:PS.length=l.length:=by rw [<-ha,EO (hal l hA),zql]
  obtain⟨lb,hb⟩:=nmE (bas (pck S1 l))
  rw [<-hb]at hv
  obtain⟨LI,hP⟩:=nmE (vw af.c (lit I l));(try rw [<-hP]at hr);(try rw [<-hP]at hh)
  obtain⟨PK,hR⟩:=nmE (vw av.c (pck S1 l));(try rw [<-hR]at hs);(try rw [<-hR]at hv)
  rw [<-hvI,<-hL]at hr
  rw [<-hvS,<-hL]at hs
  obtain⟨W,hW⟩:=nmE (vw aj (l.map (elZ ZZ)))
  have xm:W.length=(l.map (elZ ZZ)).length:=by rw [hW,ar]
  have iW:=imV hW
  have kW:=kmV (k:=1) hW fun _=>rfl
  have dW:=dmV hW
  rw [<-hW]at hh
  obtain⟨vP,hk⟩:=nmE (vw aj PS)
  have xi:=lmV hk
  have hY:=imV hk
  have xk:=kmV (k:=1) hk fun _=>rfl
  have hZ:=dmV hk
  rw [<-hk]at hh
  have xg:∀i∈l,0<=i/\i<(ZZ.length:Int):=fun i hi=>by have:=hC i hi;omega
  have xf:k.toNat<CC.length:=(List.getElem?_eq_some_iff.1 (ho hx).2).1
  obtain⟨st,hX⟩:∃v,ST[k.toNat]? =some v:=⟨_,zqc (by omega)⟩
  have hu:=hu k c st lb z0 (ho hx).2 hX PS vP hk l hS L W hL hW hd done (by simpa using hn.2.1) hV E1 i2
  have h3:∀D,D=done++sk q rtl IN AC' ZZ S1 (elZ ST k) c lb PS 0 l->(D++xh q rtl I IN AC' ZZ S1 ST (k+1) rest,ixs 0 D.length++(rest.map (·.1)).flatten)=(D1,ixs 0 kids.length):=fun D hD=>Prod.ext (by
   rw [<-ht,hD,hb,hw,zqC];rfl) (by
   show ixs 0 D.length++(rest.map (·.1)).flatten=ixs 0 kids.length
   rw [<-hj,hD,zqe,l9,jV,zqC]
   congr 1
   rw [zqA,List.flatten_cons]
   congr 1
   exact hn.2.1.symm)
  clear hG hn hV hj hT hJ ho hI hq hF hC hU ha hw hb hvI hvS hm hA hal hS xf hX
  cbv
  rw [hc]
  cbv
  refine goX hg _ z0 xj rfl ?_
  cbv
  refine lw hg (mf (aM f173) 1) (by kernel_rfl) [(0,.p 0),(5,.p 3),(6,.p 4),(7,.p 5),(8,.p 6),(9,.v vI),(10,.v vZ),(11,.i (IN)),(12,.i (GP)),(13,.v vL),(14,.v vS),(15,.v vC),(16,.i (AC')),(18,.v vT),(19,.p 9),(20,.p 10),(21,.i (k)),(22,.v L),(23,.o 12),(24,.i (0))] [.bx 74 5 [.view V,.B rtl,.B keeps,.own 7,.own 8],.gn,.gn,.bx 66 68 (nwL n s0 row al ac KW (.view K)),.bx 34 2 [.J w0,.J w1],.bx 34 2 [.J h0',.J h1'],.bx 43 4 [.J 0,.J 0,.J 0,.N],.rw ⟨146,10,M⟩,.rw ⟨153,6,A0⟩,.bx 62 4 [.J fl,.J ft,.J fr,.J fb],.bx 43 4 [.J 0,.J 0,.J 0,.own 11],.rw ⟨156,5,E1⟩,.rw ⟨3,1,[]⟩] (Wk.weak (wkM [some 0,none,none,some 3,some 4,some 5,some 6,some 7,some 8,some 9,some 10,some 11,some 12] ⟨rfl,rfl,rfl,rfl,rfl,rfl,rfl,rfl,rfl,rfl,rfl,rfl,rfl,rfl,rfl,rfl,rfl,rfl,rfl,rfl,trivial⟩ ⟨.inr ⟨_,_,rfl,rfl,rfl,rfl,.inr ⟨zr5,trivial⟩⟩,.inl rfl,.inl rfl,.inr (wqE rfl rfl),.inr (wqE rfl rfl),.inr (wqE rfl rfl),.inr (wqE rfl rfl),.inr (wqE rfl pM),.inr (wqE rfl pA),.inr (wqE rfl rfl),.inr ⟨_,_,rfl,rfl,rfl,rfl,.inr ⟨zr4,trivial⟩⟩,.inr (wqE rfl hM),.inr (wqE rfl rfl),trivial⟩ (by decide) ⟨.inl rfl,.inl rfl,.inr rfl,trivial⟩ ⟨.inl rfl,.inl rfl,.inr ⟨_,rfl⟩,trivial⟩)) ?_
  refine Eg hg V rtl keeps n s0 row al ac KW w0 w1 h0' h1' K M A0 pM pA IN GP AC' vI vL vZ vS vC vT fl ft fr fb k E1 hM ZZ hvZ l L hL hd xg fun z2 E2 xb=> ?_
  obtain rfl:W=E2:=by rw [xb,hW]
  cbv
  (repeat'((first|refine aa hg hr ?_|refine ae hg hs ?_|refine ae hg hv ?_|refine bW hg hh (aq (aw rfl) (aq (bf (ab:=⟨_,_,W⟩) rfl kW dW) (aq (aw rfl) (aq (aw rfl) (aq (aw rfl) (aC)))))) hY ?_);cbv))
  refine lw hg (mf (aM f173) 2) (by kernel_rfl) [(0,.p 0),(5,.p 3),(6,.p 4),(7,.p 5),(8,.p 6),(9,.v vI),(10,.v vZ),(11,.i (IN)),(12,.i (GP)),(13,.v vL),(14,.v vS),(15,.v vC),(16,.i (AC')),(18,.v vT),(19,.p 9),(20,.p 10),(21,.i (k)),(22,.v L),(23,.v W),(25,.v vP),(26,.i (lb)),(27,.i (0))] [.bx 74 5 [.view V,.B rtl,.B keeps,.own 7,.own 8],.gn,.gn,.bx 66 68 (nwL n s0 row al ac KW (.view K)),.bx 34 2 [.J w0,.J w1],.bx 34 2 [.J h0',.J h1'],.bx 43 4 [.J 0,.J 0,.J 0,.N],.rw ⟨146,10,M⟩,.rw ⟨153,6,A0⟩,.bx 62 4 [.J fl,.J ft,.J fr,.J fb],.bx 43 4 [.J 0,.J 0,.J 0,.own 11],.rw ⟨156,5,E1⟩] (bG (sl2 12 13 W vP) (Gk rfl kW dW rfl xk hZ) (Wk.weak (wkM [some 0,none,none,some 3,some 4,some 5,some 6,some 7,some 8,some 9,some 10,some 11] ⟨rfl,rfl,rfl,rfl,rfl,rfl,rfl,rfl,rfl,rfl,rfl,rfl,rfl,rfl,rfl,rfl,rfl,rfl,rfl,rfl,rfl,rfl,trivial⟩ ⟨.inr ⟨_,_,rfl,rfl,rfl,rfl,.inr ⟨zr5,trivial⟩⟩,.inl rfl,.inl rfl,.inr (wqE rfl rfl),.inr (wqE rfl rfl),.inr (wqE rfl rfl),.inr (wqE rfl rfl),.inr ⟨_,_,rfl,rfl,rfl,rfl,.inl (bD pM)⟩,.inr ⟨_,_,rfl,rfl,rfl,rfl,.inl (bD pA)⟩,.inr (wqE rfl rfl),.inr ⟨_,_,rfl,rfl,rfl,rfl,.inr ⟨zr4,trivial⟩⟩,.inr ⟨_,_,rfl,rfl,rfl,rfl,.inl (bD hM)⟩,trivial⟩ (by decide) ⟨.inl rfl,.inl rfl,.inr rfl,trivial⟩ ⟨.inl rfl,.inl rfl,.inr ⟨_,rfl⟩,trivial⟩))) ?_
  refine hu _ fun z3 E3 D hD hO=> ?_
  have xl:=pmV hO
  cbv
  ((repeat'(rw [e1];cbv)))
  skip
  exact hB ((k+1,D,E3)) _ _ ⟨h3 D hD,⟨rfl,hO⟩⟩ (Wk.weak (wkM [some 0,none,none,some 3,some 4,some 5,some 6,some 7,some 8,some 9,some 10,some 11] ⟨rfl,rfl,rfl,rfl,rfl,rfl,rfl,rfl,rfl,rfl,rfl,rfl,rfl,rfl,rfl,rfl,rfl,trivial⟩ ⟨.inr ⟨_,_,rfl,rfl,rfl,rfl,.inr ⟨zr5,trivial⟩⟩,.inl rfl,.inl rfl,.inr (wqE rfl rfl),.inr (wqE rfl rfl),.inr (wqE rfl rfl),.inr (wqE rfl rfl),.inr (wqE rfl pM),.inr (wqE rfl pA),.inr (wqE rfl rfl),.inr ⟨_,_,rfl,rfl,rfl,rfl,.inr ⟨zr4,trivial⟩⟩,.inr (wqE rfl xl),trivial⟩ (by decide) ⟨.inl rfl,.inl rfl,.inr rfl,trivial⟩ ⟨.inl rfl,.inl rfl,.inr ⟨_,rfl⟩,trivial⟩))
theorem G5{xs:List Int}{i:Int}(h:i∉xs):cnt xs i=0:=by
 induction xs with
 |nil=>rfl
 |cons x xs ih=>
  have e:cnt (x::xs) i=(if x=i then 1 else 0)+cnt xs i:=by simp [cnt]
  rw [e,ih (fun hm=>h (List.mem_cons_of_mem _ hm)),if_neg (fun hx=>h (by rw [hx];exact List.mem_cons_self ..))]
  rfl
variable {LL:List (List Int)}{l:List Int}
theorem Fo{i:Int}{k:Int}(h:i∈l):qt i k (l::LL)=k:=by
 have:=(FI l i).2 h
 simp only [qt]
 rw [if_pos (by omega)]
theorem Cj{i:Int}{k:Int}(h:i∉l):qt i k (l::LL)=qt i (k+1) LL:=by
 simp only [qt]
 rw [G5 h,if_neg (by omega)]
theorem Fp{i:Int}:∀(LL:List (List Int))(k:Int),i∈LL.flatten->k<=qt i k LL/\qt i k LL<k+(LL.length:Int)
 | [],k,h=>by simp at h
 |l::LL,k,h=>by
  by_cases hm:i∈l
  ·rw [Fo hm];simp only [zqx];omega
  ·rw [Cj hm]
   have:=Fp LL (k+1) (by rw [List.flatten_cons]at h;exact(List.mem_append.1 h).resolve_left hm)
   simp only [zqx];omega
theorem GU(P:List Int)(c:Int)(C:List Int):elZ (P++c::C) (P.length:Int)=c:=og (by rw [zqg (Nat.le_refl _)];simp)
theorem FD{α:Type}(f:Int->Int->α):∀(LL:List (List Int))(CC P:List Int)(m n:Nat),CC.length=LL.length->LL.flatten=ixs m n->(ixs m n).map (fun i=>f (elZ (P++CC) (qt i (P.length:Int) LL)) i)=(LL.zip CC).flatMap fun q=>q.1.map (f q.2)
 | [],CC,P,m,n,hc,hf=>by rw [<-hf];rfl
 |l::LL,[],P,m,n,hc,hf=>by simp at hc
 |l::LL,c::CC,P,m,n,hc,hf=>by
  obtain⟨h1,h2,h3⟩:=lZ hf
  have e:ixs (m:Int) n=l++LL.flatten:=by rw [<-hf,List.flatten_cons]
  rw [e,List.map_append,List.zip_cons_cons,List.flatMap_cons]
  congr 1
  ·refine List.map_congr_left fun i hi=> ?_
   rw [Fo hi,GU]
  ·have h4:LL.flatten=ixs ((m+l.length:Nat):Int) (n-l.length):=by rw [h3,Int.natCast_add]
   have:=FD f LL CC (P++[c]) (m+l.length) (n-l.length) (by simpa using hc) h4
   rw [<-this,<-h4]
   refine List.map_congr_left fun i hi=> ?_
   have ha:i∉l:=fun hm=>by
    rw [h2,lA]at hm
    rw [h4,lA]at hi
    omega
   rw [Cj ha,zqC,zqe,zqm]
   rfl
theorem GQ{α:Type}(f:Int->Int->α)(LL:List (List Int))(CC:List Int)(n:Nat)(hc:CC.length=LL.length)(hf:LL.flatten=ixs 0 n):(ixs 0 n).map (fun i=>f (elZ CC (qt i 0 LL)) i)=(LL.zip CC).flatMap fun q=>q.1.map (f q.2):=FD f LL CC [] 0 n hc hf
theorem yl{V:LLA}{rtl keeps:Bool}{bx:Bx}{c L:Nat}(p:Pl)(ns:List ag):∀(ks:List Int)(st:St),(∀k∈ks,Aj V rtl keeps bx c L k)->(l7 bx p rtl ns ks st).1.length=ks.length/\(l7 bx p rtl ns ks st).2.1.length<=st.1.length+ks.length*c/\(l7 bx p rtl ns ks st).2.2.length<=st.2.length+ks.length*c
 | [],st,_=>by simp [l7]
 |k::r,st,h=>by
  have h1:=C3 (h k (List.mem_cons_self ..)) p ns st
  have h2:=yl p ns r (xx bx p rtl ns k st).2 (fun x hx=>h x (List.mem_cons_of_mem _ hx))
  have e:(k::r).length*c=r.length*c+c:=by rw [zqx,Nat.succ_mul]
  rw [e]
  simp only [l7,zqx]
  refine⟨by rw [h2.1],?_,?_⟩
  ·exact Nat.le_trans h2.2.1 (Nat.le_trans (Nat.add_le_add_right h1.1 _) (Nat.le_of_eq (by rw [Nat.add_assoc,Nat.add_comm c])))
  ·exact Nat.le_trans h2.2.2 (Nat.le_trans (Nat.add_le_add_right h1.2 _) (Nat.le_of_eq (by rw [Nat.add_assoc,Nat.add_comm c])))
theorem xO{V:LLA}{rtl keeps:Bool}{bx:Bx}{c L:Nat}(p:Pl)(ns:List ag):∀(ks:List (Int×Int))(st:St),(∀k∈ks,Aj V rtl keeps bx c L k.1)->(uM bx p rtl ns ks st).1.length=ks.length/\(uM bx p rtl ns ks st).2.1.length<=st.1.length+ks.length*c/\(uM bx p rtl ns ks st).2.2.length<=st.2.length+ks.length*c
 | [],st,_=>by simp [uM]
 |(k,z)::r,st,h=>by
  have h1:=yF (h (k,z) (List.mem_cons_self ..)) p.row ⟨3,z⟩ (Bh p (kst ns k) rtl z) st
  have h2:=xO p ns r (uw bx p.row k ⟨3,z⟩ (Bh p (kst ns k) rtl z) st).2 (fun x hx=>h x (List.mem_cons_of_mem _ hx))
  have e:((k,z)::r).length*c=r.length*c+c:=by rw [zqx,Nat.succ_mul]
  rw [e]
  simp only [uM,zqx]
  refine⟨by rw [h2.1],?_,?_⟩
  ·exact Nat.le_trans h2.2.1 (Nat.le_trans (Nat.add_le_add_right h1.1 _) (Nat.le_of_eq (by rw [Nat.add_assoc,Nat.add_comm c])))
  ·exact Nat.le_trans h2.2.2 (Nat.le_trans (Nat.add_le_add_right h1.2 _) (Nat.le_of_eq (by rw [Nat.add_assoc,Nat.add_comm c])))
theorem DQ{cs:List Int}{gap inner ct:Int}(h:acr cs gap inner=true):(pll cs gap inner ct).length=cs.length:=by
 unfold pll
 rw [if_neg (by rw [h];simp),xU]
theorem sr(ns:List ag)(hl:ns.length<=1048576)(rtl keeps:Bool)(bx:Bx)(c L:Nat)(n:Int)(p:Pl)(w0 w1 h0' h1':Int)(hpw:p.w=⟨w0,w1⟩)(hph:p.h=⟨h0',h1'⟩)(hkn:p.kids≠[])(hkl:p.kids.length<20)(hk:∀kid∈p.kids,isN ns kid=true)(hbx:∀kid∈p.kids,Aj (vwA ag.ac ns) rtl keeps bx c L kid)(st:St)(hm:st.1.length+40*c<=L)(hq:st.2.length+40*c<=L)
  (hal:∀l∈mg p (l7 bx p rtl ns p.kids st).1,al5 (lit (l7 bx p rtl ns p.kids st).1 l) (l.map (elZ (sn p (l7 bx p rtl ns p.kids st).1))) (Dm p) (Dl p (l7 bx p rtl ns p.kids st).1)=true)
  (hf:∀cs,cs=yy p (mg p (l7 bx p rtl ns p.kids st).1) (uM bx p rtl ns (p.kids.zip (sn p (l7 bx p rtl ns p.kids st).1)) (l7 bx p rtl ns p.kids st).2).1->acr cs (uh p) (Af p cs)=true):
  SE prog 173 (sR (vwA ag.ac ns) rtl keeps) (SM st.1) (SA st.2) [.c (.ptr 0 0 0),.agg (nwL n p.s p.row p.al p.ac (knS p.wide) (.view (vw aj p.kids))),agP ⟨w0,w1⟩,agP ⟨h0',h1'⟩] (.t (.agg (jc.ac (Ei bx p rtl ns st).1))) (SM (Ei bx p rtl ns st).2.1) (SA (Ei bx p rtl ns st).2.2):=by
 have cI:=qG ns hl rtl keeps bx c L n p hkl hk hbx st (by omega) (by omega)
 have hb:=yl p ns p.kids st hbx
 have xw:p.kids.length*c<=20*c:=Nat.mul_le_mul_right c (by omega)
 obtain⟨ra,x4⟩:=nmE (l7 bx p rtl ns p.kids st)
 unfold Ei
 dsimp only
 rw [<-x4]at cI hb hal hf⊢
 obtain⟨I,hM⟩:=ra
 dsimp only at cI hb hal hf⊢
 have hr:=hb.1
 have hS:I.length<=1048576:=by omega
 have hL:=uB p I
 have cS:=nf ns hl rtl keeps bx c L n p (sn p I) hkl (by rw [hL,hr]) hk hbx hM (by omega) (by omega)
 obtain⟨rb,xD⟩:=nmE (uM bx p rtl ns (p.kids.zip (sn p I)) hM)
 have ha:rb.1.length=p.kids.length:=by
  have:=(xO (V:=vwA ag.ac ns) (rtl:=rtl) (keeps:=keeps) (c:=c) (L:=L) p ns (p.kids.zip (sn p I)) hM (fun k yb=>hbx k.1 (by obtain⟨i,hi⟩:=List.mem_iff_getElem?.1 yb;exact zqd (Bi (by obtain⟨a,b⟩:=k;exact hi)).1))).1
  rw [<-xD,zqB,hL,hr,Nat.min_self]at this
  exact this
 rw [<-xD]at cS hf⊢
 obtain⟨S0,x6⟩:=rb
 dsimp only at cS hf ha⊢
 obtain⟨s0,row,wd,yC,iw,ih,al,ac,kids⟩:=p
 dsimp only at hpw hph hkn hkl hk hbx hr hb ha cI cS
 subst hpw hph
 obtain⟨q,he⟩:∃q:Pl,q=⟨s0,row,⟨w0,w1⟩,⟨h0',h1'⟩,iw,ih,al,ac,kids⟩:=⟨_,rfl⟩
 rw [<-he]at hal hf hL cS⊢
 have hp:q.kids=kids:=by rw [he]
 have hu:kids.length<=1048576:=by omega
 have hY:(sn q I).length=kids.length:=by rw [hL,hr]
 have cZ:=qF n s0 row al ac (knS iw) (vw aj kids) I hS
 have cN:=kQ n s0 row al ac (knS iw) (vw aj kids) I hS
 have h4:mg q I=lns I (ju s0 row) (kC al) (!decide (s0.wrap=1)):=by rw [he];rfl
 have yc:Dl q I=tak al (lng I (ju s0 row) (kC al) (!decide (s0.wrap=1))):=by rw [he];rfl
 have yd:sn q I=lsz I (ju s0 row) (kC al) (!decide (s0.wrap=1)) (tak al (lng I (ju s0 row) (kC al) (!decide (s0.wrap=1)))):=by rw [he];rfl
 rw [<-yd]at cZ
 rw [<-yc]at cN
 have hC:(mg q I).flatten=ixs 0 kids.length:=by rw [h4,jT,hr]
 have h3:(mg q I).length<=64:=by rw [h4];exact Nat.le_trans (lx ..) (by omega)
 have h2:∀l∈mg q I,l.length<=1048576/\∀i∈l,0<=i/\i<(S0.length:Int):=fun l hm=>by
  rw [h4]at hm
  exact⟨Nat.le_trans (jS hm) hS,fun i hi=>by have:=vb hm hi;omega⟩
 have hh:=jg I (ju s0 row) (kC al) (!decide (s0.wrap=1)) hS
 rw [<-h4]at hh
 have cC:=oy n s0 row al ac (knS iw) (vw aj kids) (mg q I) S0 (by omega) h3 h2
 have ye:yy q (mg q I) S0=Ev s0 row ac (mg q I) S0:=by rw [he];rfl
 rw [<-ye]at cC
 have ht:(yy q (mg q I) S0).length=(mg q I).length:=qz q _ _ h3
 have hf:=hf _ rfl
 have xY:Dm q=ju s0 row:=by rw [he];rfl
 have xZ:uh q=ju s0 (!row):=by rw [he];rfl
 unfold I8
 dsimp only
 obtain⟨LL,xT⟩:=nmE (mg q I)
 obtain⟨ZZ,xW⟩:=nmE (sn q I)
 obtain⟨IN,xR⟩:=nmE (Dl q I)
 rw [<-xT]at hC h3 h2 cC ht hh hal hf⊢
 rw [<-xW]at hY cZ cS hal⊢
 rw [<-xR]at cN hal⊢
 obtain⟨CC,xM⟩:=nmE (yy q LL S0)
 rw [<-xM]at ht cC hf⊢
 obtain⟨S1,xu⟩:=nmE (CO q ns S0 ZZ (LL.zip CC))
 have xx:(ixs 0 S0.length).map (fun i=>yu q ns S0 ZZ (elZ CC (qt i 0 LL)) i)=S1:=by rw [xu,ha];exact GQ (yu q ns S0 ZZ) LL CC kids.length ht hC
 have x0:∀i:Int,0<=i->i<(q.kids.length:Int)->0<=qt i 0 LL/\qt i 0 LL<(CC.length:Int):=fun i h0 h1=>by
  rw [hp]at h1
  have:=Fp LL 0 (show i∈LL.flatten by rw [hC,lA];omega)
  omega
 have cF:=fun C D=>pp ns hl rtl keeps C D n q (by rw [hp];exact hu) (by rw [hp];exact hk) LL CC S0 ZZ (by rw [hp];exact ha) (by rw [hp];exact hY) (by omega) (fun l hm=>(h2 l hm).1) x0
 simp only [xx]at cF
 have hI:S1.length=kids.length:=by rw [<-xx,zql,bU,ha]
 rw [<-xu]
 obtain⟨am,an⟩:=ac
 obtain⟨lm,ln⟩:=al
 have cG:=gR s0 row
 have hz:=gR s0 (!row)
 have cT:=fY CC (uh q) (by rw [ht];omega)
 have cK:=ea am an (crt CC (uh q))
 have x1:Af q CC=tak ⟨am,an⟩ (crt CC (uh q)):=by rw [he];rfl
 rw [<-x1]at cK
 have cL:=oB CC (uh q) (Af q CC) (ctP q) (by omega)
 have xy:ctP q=if s0.wrap=1 then 2 else s0.content:=by rw [he];rfl
 have xz:Hi q CC=pll CC (uh q) (Af q CC) (ctP q):=rfl
 rw [<-xz]at cL
 have hs:(Hi q CC).length=CC.length:=by rw [xz];exact DQ hf
 rw [<-xZ]at hz
 rw [xY]at hal
 obtain⟨GP,xn⟩:=nmE (ju s0 row)
 rw [<-xn]at cG hh hal
 obtain⟨GC,xQ⟩:=nmE (uh q)
 obtain⟨hy,xL⟩:=nmE (Af q CC)
 obtain⟨ST,xU⟩:=nmE (Hi q CC)
 rw [<-xQ]at hz cT cK cL
 rw [<-xL]at cK cL⊢
 rw [<-xU]at cL hs⊢
 obtain⟨TT,xV⟩:=nmE (crt CC GC)
 rw [<-xV]at cT cK
 have xb:=ip lm ln
 obtain⟨RM,xs⟩:=nmE (kC ⟨lm,ln⟩);(try rw [<-xs]at xb);(try rw [<-xs]at hh)
 obtain⟨wr,xF⟩:=nmE ((!decide (s0.wrap=1)))
 rw [<-xF]at hh
 obtain⟨V,hV⟩:=nmE (vwA ag.ac ns)
 have x9:∀zs,zs=sn q I->True:=fun _ _=>trivial
 have yf:q.s=s0/\q.row=row/\q.al=⟨lm,ln⟩/\q.ac=⟨am,an⟩/\q.wide=iw/\q.w=⟨w0,w1⟩/\q.h=⟨h0',h1'⟩:=by rw [he];exact⟨rfl,rfl,rfl,rfl,rfl,rfl,rfl⟩
 obtain⟨h6,h5,xB,xA,xC,x3,x2⟩:=yf
 rw [h6,h5,xB,xA,xC,hp]
 simp only [h6,h5,xB,xA,xC,hp]at cF
 simp only [<-hV]at cF
 rw [<-hV]at cI cS⊢
 obtain⟨KW,ho⟩:=nmE (knS iw);(try rw [<-ho]at cI);(try rw [<-ho]at cS);(try rw [<-ho]at cZ);(try rw [<-ho]at cN);(try rw [<-ho]at cC);(try rw [<-ho]at⊢)
 simp only [<-ho]at cF
 obtain⟨K,hK⟩:=nmE (vw aj kids)
 have xS:=lmV hK
 have iK:=imV hK
 have kK:=kmV (k:=1) hK fun _=>rfl
 have dK:=dmV hK
 rw [<-hK]at cI cS cZ cN cC⊢
 simp only [<-hK]at cF
 obtain⟨vI,hD⟩:=nmE (vw af.c I)
 have yi:=lmV hD
 have yI:=imV hD
 have yN:=kmV (k:=9) hD fun _=>rfl
 have yw:=dmV hD
 rw [<-hD]at cI cZ cN hh
 obtain⟨vZ,hx⟩:=nmE (vw aj ZZ)
 have ym:=lmV hx
 have yL:=imV hx
 have yQ:=kmV (k:=1) hx fun _=>rfl
 have yA:=dmV hx
 rw [<-hx]at cZ cS
 simp only [<-hx]at cF
 obtain⟨vS,hG⟩:=nmE (vw av.c S0)
 have yj:=lmV hG
 have yJ:=imV hG
 have yO:=kmV (k:=7) hG fun _=>rfl
 have yx:=dmV hG
 rw [<-hG]at cS cC
 simp only [<-hG]at cF
 obtain⟨vC,hw⟩:=nmE (vw aj CC)
 have yg:=lmV hw
 have yG:=imV hw
 have yM:=kmV (k:=1) hw fun _=>rfl
 have yv:=dmV hw
 rw [<-hw]at cC cT cL
 simp only [<-hw]at cF
 obtain⟨vL,xE⟩:=nmE (vwA lnA LL)
 rw [<-xE]at hh cC
 simp only [<-xE]at cF
 obtain⟨vT,hH⟩:=nmE (vw aj ST)
 have yk:=lmV hH
 have yK:=imV hH
 have yP:=kmV (k:=1) hH fun _=>rfl
 have yz:=dmV hH
 rw [<-hH]at cL
 obtain⟨h8,hc⟩:=nmE (vw av.c S1)
 have x5:=lmV hc
 have xG:=imV hc
 have xH:=kmV (k:=7) hc fun _=>rfl
 have xe:=dmV hc
 simp only [<-hc]at cF
 have xa:=gx s0
 obtain⟨fe,hZ⟩:=nmE (oc s0)
 rw [<-hZ]at xa
 obtain⟨fl,ft,fr,fb⟩:=fe
 obtain⟨M0,hT⟩:=nmE (SM st.1)
 obtain⟨A0,hQ⟩:=nmE (SA st.2)
 obtain⟨M1,hU⟩:=nmE (SM hM.1)
 obtain⟨A1,hR⟩:=nmE (SA hM.2)
 obtain⟨M2,hB⟩:=nmE (SM x6.1)
 obtain⟨A2,hA⟩:=nmE (SA x6.2)
 have ys:aB M0=true:=by rw [hT];exact cu _
 have yp:aB A0=true:=by rw [hQ];exact cV _
 have yt:aB M1=true:=by rw [hU];exact cu _
 have yq:aB A1=true:=by rw [hR];exact cV _
 have xJ:aB M2=true:=by rw [hB];exact cu _
 have xI:aB A2=true:=by rw [hA];exact cV _
 have kM:∀y∈M2,y.length=10:=by rw [hB];exact Jg _
 have dM:∀y∈M2,y.all dat=true:=by rw [hB];exact Ag _
 have kA:∀y∈A2,y.length=6:=by rw [hA];exact Jh _
 have dA:∀y∈A2,y.all dat=true:=by rw [hA];exact Ah _
 have cF:=cF (.view M2) (.view A2)
 rw [<-hT,<-hQ,<-hU,<-hR]at cI
 rw [<-hU,<-hR,<-hB,<-hA]at cS
 rw [<-hT,<-hQ,<-hB,<-hA]
 have hO:=fun(g:Gd)(hg:g= @G0 bp0 prog 3 f173.ntmps)(Q':Exit->List (Nat×AV)->EH->Prop) E hE hQ'=>Ee hg (Q:=Q') V rtl keeps n s0 row ⟨lm,ln⟩ ⟨am,an⟩ KW w0 w1 h0' h1' K M2 A2 xJ xI IN GP hy vI vL vZ h8 vC vT fl ft fr fb ⟨w0,w1⟩ ⟨h0',h1'⟩ iw ih kids hK hu I hD hr ZZ CC ST S1 hx hw hH hc hs hY hI hZ.symm xn LL xE (by omega) ht hC hal E hE hQ'
 rw [<-he]at hO
 obtain⟨FF,xm⟩:=nmE (xh q rtl I IN hy ZZ S1 ST 0 (LL.zip CC))
 have xP:FF.length=kids.length:=by rw [xm,qw,e9 ht,hC,bU]
 rw [<-xm]at hO⊢
 have yF:0<kids.length:=List.length_pos_iff.2 hkn
 obtain⟨f0,FT,xj⟩:∃f t,FF=f::t:=by
  cases FF with
  |nil=>simp at xP;omega
  |cons a b=>exact⟨_,_,rfl⟩
 obtain⟨h7,hv⟩:∃y,S1[(0:Int).toNat]? =some y:=⟨_,zqc (by show 0<S1.length;omega)⟩
 have hJ:sdZ S1 0=h7:=wI (Int.le_refl 0) hv
 obtain⟨vF,hn⟩:=nmE (vw aD.c FF)
 have yh:=lmV hn
 have yH:=imV hn
 have yn:=kmV (k:=5) hn fun _=>rfl
 have x7:=dmV hn
 have pF:=pmV hn
 have xl:vF[(0:Int).toNat]? =some (lc (aD.c f0)):=by rw [hn,xj];rfl
 have xk:(0:Int)<aN vF:=by rw [hn,aO];omega
 have xt:h8[(0:Int).toNat]? =some (lc (av.c h7)):=by rw [hc];exact ba hv
 have hP:=io fl ft fr fb
 have hN:=iq fl ft fr fb
 obtain⟨B1,xf⟩:=nmE (adE fl fr)
 obtain⟨B2,xg⟩:=nmE (adE ft fb)
 change PC0 _ _ (.i (adE fl fr))at hP
 change PC0 _ _ (.i (adE ft fb))at hN
 rw [<-xf]at hP
 rw [<-xg]at hN
 obtain⟨XW,hX⟩:=nmE ((if row then IN else hy))
 obtain⟨XH,hW⟩:=nmE ((if row then hy else IN))
 obtain⟨W1,xv⟩:=nmE (wrap64 (XW+B1))
 obtain⟨H1,xo⟩:=nmE (wrap64 (XH+B2))
 obtain⟨BB,xi⟩:=nmE (wrap64 (f0.y+h7.base))
 have xc:=ea w0 w1 W1
 have xd:=ea h0' h1' H1
 have h9:=aQ BB
 obtain⟨R1,xp⟩:=nmE (tak ⟨w0,w1⟩ W1);(try rw [<-xp]at xc)
 obtain⟨R2,xq⟩:=nmE (tak ⟨h0',h1'⟩ H1);(try rw [<-xq]at xd)
 obtain⟨R3,xr⟩:=nmE (cl BB);(try rw [<-xr]at h9)
 have xX:jc.ac (FO q IN hy FF S1)=[.J R1,.J R2,.J R3,.view vF]:=by
  rw [xp,xq,xr,xv,xo,xi,hX,hW,xf,xg,hn]
  unfold FO
  rw [h6,x3,x2,h5,<-hZ,hJ,xj]
  rfl
 rw [xX]
 refine wH (t:=156) (k:=5) (V:=vF) (R:= .t (.agg [.J R1,.J R2,.J R3,.own 5])) ?_ yn x7 rfl rfl rfl
 have xK:∀g:Gd,g=G0 prog 3 f173.ntmps->g .rp (g .ln K) [.J 0,.J 0,.J 0,.J 0,.J 0]=vw aD.c (List.replicate kids.length ⟨0,0,0,0,0⟩):=fun g hg=>by
  rw [yo hg,bz hg,hK,aO,Int.toNat_natCast];exact qD aD.c kids.length ⟨0,0,0,0,0⟩
 have xS:K.length<=1048576:=by rw [hK,ar];exact hu
 have t0:∀g:Gd,g=G0 prog 3 f173.ntmps->g .q .neq s0.wrap 1=wr:=fun g hg=>by rw [bj hg,xF];exact(dX _ _).trans (by simp)
 have te:∀g:Gd,g=G0 prog 3 f173.ntmps->g .q .eql s0.wrap 1=decide (s0.wrap=1):=fun g hg=>by rw [bn hg];exact zqn _ _
 have t1:∀g:Gd,g=G0 prog 3 f173.ntmps->g .w .add .i64 XW B1=W1:=fun g hg=>by rw [aJ hg,xv]
 have t2:∀g:Gd,g=G0 prog 3 f173.ntmps->g .w .add .i64 XH B2=H1:=fun g hg=>by rw [aJ hg,xo]
 have t3:∀g:Gd,g=G0 prog 3 f173.ntmps->g .w .add .i64 f0.y h7.base=BB:=fun g hg=>by rw [aJ hg,xi]
 clear xX xp xq xr xv xo xi xf xg hZ h6 h5 xB xA xC x3 x2 hJ xj xP xm xu hv hI hr hY h3 h2 hC ht xV xQ xL xU xR he x0 xx hs hal hf xF xY xZ x1 xz x9 hp xT xW xM hL ha hb x4 xD xw hT hQ hU hR hB hA ho xs hV xn hbx hk hm hq
 refine dJ ([]) ([]) (c:=aM f173) ay func173 (by kernel_rfl) (by kernel_rfl) (bl (by rfl)) (by kernel_rfl) (fun g yB hd F ya yD hg hF=> ?_)
 have t0:=t0 g hg
 have te:=te g hg
 have t1:=t1 g hg
 have t2:=t2 g hg
 have t3:=t3 g hg
 have xK:=xK g hg
 have hO:=hO g hg
 cbv
 ((repeat'((first|rw [t0]|refine ae hg cZ ?_|refine ae hg cN ?_|refine ae hg cG ?_|refine aa hg xb ?_|refine aa hg hh ?_|refine ae hg cC ?_|refine aa hg hz ?_|refine aa hg cT ?_|refine aa hg cK ?_|refine jF rfl hg 0 1 2 cI rfl rfl rfl (by decide) rfl ys yp ⟨rfl,.inl ⟨rfl,rfl⟩,trivial⟩ rfl ?_|refine jF rfl hg 0 7 8 cS rfl rfl rfl (by decide) rfl yt yq ⟨rfl,.inl ⟨rfl,rfl⟩,rfl,trivial⟩ rfl ?_|refine bK hg cF (dB (pK (r:=0) (rm:=9) (ra:=10) [.view V,.B rtl,.B keeps] rfl rfl rfl kM dM rfl kA dA) (bN rfl (aq (aw rfl) (aq (aw rfl) (aq (aw rfl) (aq (aw rfl) aC)))))) xG ?_);cbv)))
 by_cases hw1:s0.wrap=1
 all_goals
  first|rw [if_pos hw1]at xy|rw [if_neg hw1]at xy
  rw [xy]at cL
  first|rw [zqu hw1]at te|rw [zqt hw1]at te
  ((repeat'((first|rw [te]|refine ae hg hz ?_|refine ae hg cL ?_|refine ae hg xa ?_);cbv)))
  refine Fz hg (by decide) xS ?_
  cbv
  generalize hE0:g .rp (g .ln K) _=E3
  have xN:E3=vw aD.c (List.replicate kids.length ⟨0,0,0,0,0⟩):=by rw [<-hE0];exact xK
  clear hE0
  have yr:=pmV xN
  refine lw hg (mf (aM f173) 0) (by kernel_rfl) [(0,.p 0),(5,.p 3),(6,.p 4),(7,.p 5),(8,.p 6),(9,.v vI),(10,.v vZ),(11,.i (IN)),(12,.i (GP)),(13,.v vL),(14,.v h8),(15,.v vC),(16,.i (hy)),(18,.v vT),(19,.p 9),(20,.p 10),(21,.i (0))] [.bx 74 5 [.view V,.B rtl,.B keeps,.own 7,.own 8],.gn,.gn,.bx 66 68 (nwL n s0 row ⟨lm,ln⟩ ⟨am,an⟩ KW (.view K)),.bx 34 2 [.J w0,.J w1],.bx 34 2 [.J h0',.J h1'],.bx 43 4 [.J 0,.J 0,.J 0,.N],.rw ⟨146,10,M2⟩,.rw ⟨153,6,A2⟩,.bx 62 4 [.J fl,.J ft,.J fr,.J fb],.bx 43 4 [.J 0,.J 0,.J 0,.own 11],.rw ⟨156,5,E3⟩] (bG (sl1 11 h8) (jy rfl xH xe) (Wk.weak (wkM [some 0,none,none,some 3,some 4,some 5,some 6,some 9,some 10,some 12,some 14,some 13] ⟨rfl,rfl,rfl,rfl,rfl,rfl,rfl,rfl,rfl,rfl,rfl,rfl,rfl,rfl,rfl,rfl,rfl,trivial⟩ ⟨.inr ⟨_,_,rfl,rfl,rfl,rfl,.inr ⟨zr5,trivial⟩⟩,.inl rfl,.inl rfl,.inr (wqE rfl rfl),.inr (wqE rfl rfl),.inr (wqE rfl rfl),.inr (wqE rfl rfl),.inr ⟨_,_,rfl,rfl,rfl,rfl,.inl (bD xJ)⟩,.inr ⟨_,_,rfl,rfl,rfl,rfl,.inl (bD xI)⟩,.inr (wqE rfl rfl),.inr ⟨_,_,rfl,rfl,rfl,rfl,.inr ⟨zr4,trivial⟩⟩,.inr ⟨_,_,rfl,rfl,rfl,rfl,.inl (bD yr)⟩,trivial⟩ (by decide) ⟨.inl rfl,.inl rfl,.inr rfl,trivial⟩ ⟨.inl rfl,.inl rfl,.inr ⟨_,rfl⟩,trivial⟩))) ?_
  refine hO _ E3 xN fun z2 E2 x8=> ?_
  obtain rfl:vF=E2:=by rw [x8,hn]
  cbv
  cases row
  all_goals
   (try simp only [Bool.false_eq_true,if_false]at hX hW)
   (try simp only [if_true]at hX hW)
   subst hX hW
   (try cbv)
   ((repeat'((first|rw [t1]|rw [t2]|rw [t3]|refine aa hg hP ?_|refine aa hg hN ?_|refine aa hg xc ?_|refine aa hg xd ?_|refine aa hg h9 ?_|refine goX hg _ (Int.le_refl 0) xt rfl ?_|refine goY hg (Int.le_refl 0) xk fun j hj yE=> ?_;subst hj|refine⟨_,xl,?_⟩);cbv)))
   exact CK 7 8 11 hF rfl (.inr zr4) rfl rfl rfl rfl (by decide) rfl xJ xI pF
end Go.Proofs.YtkicjdeddpihaaaGreat
