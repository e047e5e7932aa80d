/- The places of items along: the reference. -/
import Derived.Test.YtckchgoblpgpbaaGreatJ5br
set_option linter.unusedVariables false
set_option linter.unusedSimpArgs false
set_option maxHeartbeats 80000000
namespace Go.Proofs.YtckchgoblpgpbaaGreat
open Go.ChangeShapes Go.WideShapes Go.ChangeAt Go.RowKit Am Go.Proofs.Tryz
set_option maxRecDepth 100000
variable {Q:Exit->List (Nat×AV)->EH->Prop}
theorem Ct{g:Gd}(hg:g= @G0 bp0 prog 3 f148.ntmps)(V:LLA)(rtl keeps:Bool)(n:Int)(s0:aj)(row:Bool)(al ac:aI)(KW w0 w1 h0' h1':Int)(K M A0:LLA)(pM:aC M=true)(pA:aC A0=true)(IN GP AC':Int)(vI vL vZ vS vC vT:LLA)(fl ft fr fb:Int)(zo:Int)(E:LLA)(pE:aC E=true)(ZZ:List Int)(hvZ:vZ=vw ak ZZ)(l:List Int)(L:LLA)(hL:L=vw ak l)(hll:l.length<=1048576)(hlb:∀i∈l,0<=i/\i<(ZZ.length:Int))
  (hQ:∀(z:Int)(E2:LLA),E2=vw ak (l.map (elZ ZZ))->Q (.exit 2) [(120,.t (abl (false))),(119,.i (g .ln L)),(118,.v L),(117,.i (z)),(0,.p 0),(5,.p 3),(6,.p 4),(7,.p 5),(8,.p 6),(9,.v vI),(10,.v vZ),(11,.i (IN)),(12,.i (GP)),(13,.v vL),(14,.v vS),(15,.v vC),(16,.i (AC')),(18,.v vT),(19,.p 9),(20,.p 10),(21,.i (zo)),(22,.v L),(23,.o 12),(24,.i (z))] [.bx 91 5 [.view V,.B rtl,.B keeps,.own 7,.own 8],.gn,.gn,.bx 180 68 (nwL n s0 row al ac KW (.view K)),.bx 122 2 [.J w0,.J w1],.bx 122 2 [.J h0',.J h1'],.bx 127 4 [.J 0,.J 0,.J 0,.N],.rw ⟨157,10,M⟩,.rw ⟨172,6,A0⟩,.bx 34 4 [.J fl,.J ft,.J fr,.J fb],.bx 127 4 [.J 0,.J 0,.J 0,.own 11],.rw ⟨45,5,E⟩,.rw ⟨3,1,E2⟩]):
  g .L (lV (aJ f148) 1) Q [(0,.p 0),(5,.p 3),(6,.p 4),(7,.p 5),(8,.p 6),(9,.v vI),(10,.v vZ),(11,.i (IN)),(12,.i (GP)),(13,.v vL),(14,.v vS),(15,.v vC),(16,.i (AC')),(18,.v vT),(19,.p 9),(20,.p 10),(21,.i (zo)),(22,.v L),(23,.o 12),(24,.i (0))] [.bx 91 5 [.view V,.B rtl,.B keeps,.own 7,.own 8],.gn,.gn,.bx 180 68 (nwL n s0 row al ac KW (.view K)),.bx 122 2 [.J w0,.J w1],.bx 122 2 [.J h0',.J h1'],.bx 127 4 [.J 0,.J 0,.J 0,.N],.rw ⟨157,10,M⟩,.rw ⟨172,6,A0⟩,.bx 34 4 [.J fl,.J ft,.J fr,.J fb],.bx 127 4 [.J 0,.J 0,.J 0,.own 11],.rw ⟨45,5,E⟩,.rw ⟨3,1,[]⟩]:=by
 obtain⟨R,hR⟩:=nmE (l.map (elZ ZZ))
 rw [<-hR]at hQ
 have hm:R.length<=1048576:=by rw [hR,zql];exact hll
 refine aY hg ay (by kernel_rfl) L (fun x=>lc (ak x)) l hL hll (fun z(s:List Int×LLA)=>[(0,.p 0),(5,.p 3),(6,.p 4),(7,.p 5),(8,.p 6),(9,.v vI),(10,.v vZ),(11,.i (IN)),(12,.i (GP)),(13,.v vL),(14,.v vS),(15,.v vC),(16,.i (AC')),(18,.v vT),(19,.p 9),(20,.p 10),(21,.i (zo)),(22,.v L),(23,.o 12),(24,.i (z))]) (fun z(s:List Int×LLA)=>[.bx 91 5 [.view V,.B rtl,.B keeps,.own 7,.own 8],.gn,.gn,.bx 180 68 (nwL n s0 row al ac KW (.view K)),.bx 122 2 [.J w0,.J w1],.bx 122 2 [.J h0',.J h1'],.bx 127 4 [.J 0,.J 0,.J 0,.N],.rw ⟨157,10,M⟩,.rw ⟨172,6,A0⟩,.bx 34 4 [.J fl,.J ft,.J fr,.J fb],.bx 127 4 [.J 0,.J 0,.J 0,.own 11],.rw ⟨45,5,E⟩,.rw ⟨3,1,s.2⟩]) (fun z(s:List Int×LLA)=>s.2=vw ak s.1) (fun(s:List Int×LLA) rest=>s.1++rest.map (elZ ZZ)) (R) ([],[]) (by rw [hR];rfl) rfl (Wk.weak (wkM [some 0,none,none,some 3,some 4,some 5,some 6,some 7,some 8,some 9,some 10,some 11,some 12] ⟨rfl,rfl,rfl,rfl,rfl,rfl,rfl,rfl,rfl,rfl,rfl,rfl,rfl,rfl,rfl,rfl,rfl,rfl,rfl,rfl,trivial⟩ ⟨.inr ⟨_,_,rfl,rfl,rfl,rfl,.inr ⟨zr5,trivial⟩⟩,.inl rfl,.inl rfl,.inr (wqE rfl rfl),.inr (wqE rfl rfl),.inr (wqE rfl rfl),.inr (wqE rfl rfl),.inr (wqE rfl pM),.inr (wqE rfl pA),.inr (wqE rfl rfl),.inr ⟨_,_,rfl,rfl,rfl,rfl,.inr ⟨zr4,trivial⟩⟩,.inr (wqE rfl pE),.inr (wqE rfl rfl),trivial⟩ (by decide) ⟨.inl rfl,.inl rfl,.inr rfl,trivial⟩ ⟨.inl rfl,.inl rfl,.inr ⟨_,rfl⟩,trivial⟩)) (fun z s B hz h0 hi he=> ?_) (fun z s x rest B z0 z1 z2 hx hy h0 hi hc e1 hB=> ?_)
 ·obtain⟨hb,E1⟩:=s
  dsimp only at hi h0
  obtain rfl:hb=R:=by simpa using h0
  have hQ:=hQ z E1 hi
  cbv
  rw [he]
  cbv
  exact hQ
 ·obtain⟨hb,E1⟩:=s
  dsimp only at hi h0
  have hd:=hlb x (zqd hx)
  have hh:=hd.1
  obtain⟨v,hv⟩:=nmE (elZ ZZ x)
  have hk:vZ[x.toNat]? =some [.J v]:=by rw [hvZ,hv];exact bf (kj hh hd.2)
  have ha:=congrArg List.length h0
  rw [zqe]at ha
  have hj:E1.length<=1048576:=by rw [hi,aq];omega
  have h3:(hb++[v])++rest.map (elZ ZZ)=R:=by rw [<-h0,hv];simp
  have aE:E1++[[.J v]]=vw ak (hb++[v]):=by rw [hi,bv];rfl
  obtain⟨E2,hf⟩:∃E2,E2=E1++[[.J v]]:=⟨_,rfl⟩
  rw [<-hf]at aE
  have hl:=pmV aE
  clear ha hv hd hR
  cbv
  rw [hc]
  cbv
  ((repeat'((first|rw [e1]|refine goX hg _ z0 hy rfl ?_|refine goX hg _ hh hk rfl ?_|refine dg hg rfl (by decide) hj ?_;cbv;rw [gd hg,<-hf]);cbv)))
  exact hB ((hb++[v],E2)) _ _ ⟨h3,aE⟩ (Wk.weak (wkM [some 0,none,none,some 3,some 4,some 5,some 6,some 7,some 8,some 9,some 10,some 11,some 14] ⟨rfl,rfl,rfl,rfl,rfl,rfl,rfl,rfl,rfl,rfl,rfl,rfl,rfl,rfl,rfl,rfl,rfl,rfl,rfl,rfl,trivial⟩ ⟨.inr ⟨_,_,rfl,rfl,rfl,rfl,.inr ⟨zr5,trivial⟩⟩,.inl rfl,.inl rfl,.inr (wqE rfl rfl),.inr (wqE rfl rfl),.inr (wqE rfl rfl),.inr (wqE rfl rfl),.inr (wqE rfl pM),.inr (wqE rfl pA),.inr (wqE rfl rfl),.inr ⟨_,_,rfl,rfl,rfl,rfl,.inr ⟨zr4,trivial⟩⟩,.inr (wqE rfl pE),.inr (wqE rfl hl),trivial⟩ (by decide) ⟨.inl rfl,.inl rfl,.inr rfl,trivial⟩ ⟨.inl rfl,.inl rfl,.inr ⟨_,rfl⟩,trivial⟩))
theorem Cs{g:Gd}(hg:g= @G0 bp0 prog 3 f148.ntmps)(V:LLA)(rtl keeps:Bool)(n:Int)(s0:aj)(row:Bool)(al ac:aI)(KW w0 w1 h0' h1':Int)(K M A0:LLA)(pM:aC M=true)(pA:aC A0=true)(IN GP AC':Int)(vI vL vZ vS vC vT:LLA)(fl ft fr fb:Int)(zo:Int)(wd hgh iw ih:aI)(kids:List Int)(hK:K=vw ak kids)(ZZ CC ST PS:List Int)(S1:List ar)(hvZ:vZ=vw ak ZZ)(hvC:vC=vw ak CC)(hvT:vT=vw ak ST)(hvS:vS=vw ar.c S1)(vP:LLA)(hvP:vP=vw ak PS)
  (hzl:ZZ.length=kids.length) (hsl:S1.length=kids.length) (hf:lw s0=⟨fl,ft,fr,fb⟩) (z0':0<=zo) (c:Int) (hcc:CC[zo.toNat]? =some c) (st:Int) (hst:ST[zo.toNat]? =some st) (lb:Int) (l:List Int) (hPl:PS.length=l.length) (L vW:LLA) (hL:L=vw ak l) (hvW:vW=vw ak (l.map (elZ ZZ))) (hll:l.length<=1048576) (done:List aM) (hld:l=ixs done.length l.length) (hle:done.length+l.length<=kids.length)
  (E:LLA) (hE:E=vw aM.c (done++List.replicate (kids.length-done.length) ⟨0,0,0,0,0⟩))
  (hQ:∀(z:Int)(E:LLA)(D:List aM),D=done++rg ⟨s0,row,wd,hgh,iw,ih,al,ac,kids⟩ rtl IN AC' ZZ S1 (elZ ST zo) c lb PS 0 l->E=vw aM.c (D++List.replicate (kids.length-D.length) ⟨0,0,0,0,0⟩)->Q (.exit 4) [(150,.t (abl (false))),(149,.i (g .ln L)),(148,.v L),(147,.i (z)),(0,.p 0),(5,.p 3),(6,.p 4),(7,.p 5),(8,.p 6),(9,.v vI),(10,.v vZ),(11,.i (IN)),(12,.i (GP)),(13,.v vL),(14,.v vS),(15,.v vC),(16,.i (AC')),(18,.v vT),(19,.p 9),(20,.p 10),(21,.i (zo)),(22,.v L),(23,.v vW),(25,.v vP),(26,.i (lb)),(27,.i (z))] [.bx 91 5 [.view V,.B rtl,.B keeps,.own 7,.own 8],.gn,.gn,.bx 180 68 (nwL n s0 row al ac KW (.view K)),.bx 122 2 [.J w0,.J w1],.bx 122 2 [.J h0',.J h1'],.bx 127 4 [.J 0,.J 0,.J 0,.N],.rw ⟨157,10,M⟩,.rw ⟨172,6,A0⟩,.bx 34 4 [.J fl,.J ft,.J fr,.J fb],.bx 127 4 [.J 0,.J 0,.J 0,.own 11],.rw ⟨45,5,E⟩]):
  g .L (lV (aJ f148) 2) Q [(0,.p 0),(5,.p 3),(6,.p 4),(7,.p 5),(8,.p 6),(9,.v vI),(10,.v vZ),(11,.i (IN)),(12,.i (GP)),(13,.v vL),(14,.v vS),(15,.v vC),(16,.i (AC')),(18,.v vT),(19,.p 9),(20,.p 10),(21,.i (zo)),(22,.v L),(23,.v vW),(25,.v vP),(26,.i (lb)),(27,.i (0))] [.bx 91 5 [.view V,.B rtl,.B keeps,.own 7,.own 8],.gn,.gn,.bx 180 68 (nwL n s0 row al ac KW (.view K)),.bx 122 2 [.J w0,.J w1],.bx 122 2 [.J h0',.J h1'],.bx 127 4 [.J 0,.J 0,.J 0,.N],.rw ⟨157,10,M⟩,.rw ⟨172,6,A0⟩,.bx 34 4 [.J fl,.J ft,.J fr,.J fb],.bx 127 4 [.J 0,.J 0,.J 0,.own 11],.rw ⟨45,5,E⟩]:=by
 obtain⟨q,hq⟩:∃q:Pl,q=⟨s0,row,wd,hgh,iw,ih,al,ac,kids⟩:=⟨_,rfl⟩
 rw [<-hq]at hQ
 obtain⟨D1,hr⟩:=nmE (done++rg q rtl IN AC' ZZ S1 (elZ ST zo) c lb PS 0 l)
 have h6:D1.length=done.length+l.length:=by rw [hr,zqe,lO]
 have hQ:=fun z E=>hQ z E D1 hr
 have hv:(done++rg q rtl IN AC' ZZ S1 (elZ ST zo) c lb PS 0 l,ixs 0 done.length++l)=(D1,ixs 0 D1.length):=Prod.ext hr.symm (by show ixs 0 done.length++l=ixs 0 D1.length;rw [h6,jK,Int.zero_add,<-hld])
 have h5:vC[zo.toNat]? =some [.J c]:=by rw [hvC];exact bf hcc
 have xa:vT[zo.toNat]? =some [.J st]:=by rw [hvT];exact bf hst
 have h1:elZ ST zo=st:=by have:=nP hst;rwa [Int.toNat_of_nonneg z0']at this
 rw [h1]at hv
 have xf:=pmV hE
 have hW:∀{i:Nat}{v:Int},PS[i]? =some v->vP[i]? =some [.J v]:=fun h=>by rw [hvP];exact bf h
 have hX:∀{i:Nat}{v:Int},l[i]? =some v->vW[i]? =some [.J (elZ ZZ v)]:=fun h=>by rw [hvW];exact bf (by rw [zqi,h];rfl)
 have hu:=kN s0 rtl
 have hs:=jY s0 rtl
 obtain⟨mb,hO⟩:=nmE (lh s0 rtl);(try rw [<-hO]at hu)
 obtain⟨cb,hM⟩:=nmE (lx s0 rtl);(try rw [<-hM]at hs)
 clear hld hcc hr hst h1
 refine aY hg ay (by kernel_rfl) L (fun x=>lc (ak x)) l hL hll (fun z(s:Int×List aM×LLA)=>[(0,.p 0),(5,.p 3),(6,.p 4),(7,.p 5),(8,.p 6),(9,.v vI),(10,.v vZ),(11,.i (IN)),(12,.i (GP)),(13,.v vL),(14,.v vS),(15,.v vC),(16,.i (AC')),(18,.v vT),(19,.p 9),(20,.p 10),(21,.i (zo)),(22,.v L),(23,.v vW),(25,.v vP),(26,.i (lb)),(27,.i (z))]) (fun z(s:Int×List aM×LLA)=>[.bx 91 5 [.view V,.B rtl,.B keeps,.own 7,.own 8],.gn,.gn,.bx 180 68 (nwL n s0 row al ac KW (.view K)),.bx 122 2 [.J w0,.J w1],.bx 122 2 [.J h0',.J h1'],.bx 127 4 [.J 0,.J 0,.J 0,.N],.rw ⟨157,10,M⟩,.rw ⟨172,6,A0⟩,.bx 34 4 [.J fl,.J ft,.J fr,.J fb],.bx 127 4 [.J 0,.J 0,.J 0,.own 11],.rw ⟨45,5,s.2.2⟩]) (fun z(s:Int×List aM×LLA)=>s.1=z/\s.2.2=vw aM.c (s.2.1++List.replicate (kids.length-s.2.1.length) ⟨0,0,0,0,0⟩)) (fun(s:Int×List aM×LLA) rest=>(s.2.1++rg q rtl IN AC' ZZ S1 st c lb PS s.1 rest,ixs 0 s.2.1.length++rest)) ((D1,ixs 0 D1.length)) (0,done,E) hv ⟨rfl,hE⟩ (Wk.weak (wkM [some 0,none,none,some 3,some 4,some 5,some 6,some 7,some 8,some 9,some 10,some 11] ⟨rfl,rfl,rfl,rfl,rfl,rfl,rfl,rfl,rfl,rfl,rfl,rfl,rfl,rfl,rfl,rfl,rfl,rfl,rfl,rfl,rfl,rfl,trivial⟩ ⟨.inr ⟨_,_,rfl,rfl,rfl,rfl,.inr ⟨zr5,trivial⟩⟩,.inl rfl,.inl rfl,.inr (wqE rfl rfl),.inr (wqE rfl rfl),.inr (wqE rfl rfl),.inr (wqE rfl rfl),.inr (wqE rfl pM),.inr (wqE rfl pA),.inr (wqE rfl rfl),.inr ⟨_,_,rfl,rfl,rfl,rfl,.inr ⟨zr4,trivial⟩⟩,.inr (wqE rfl xf),trivial⟩ (by decide) ⟨.inl rfl,.inl rfl,.inr rfl,trivial⟩ ⟨.inl rfl,.inl rfl,.inr ⟨_,rfl⟩,trivial⟩)) (fun z s B hz h0 hi he=> ?_) (fun z s x rest B z0 z1 z2 hx hy h0 hi hc e1 hB=> ?_)
 ·obtain⟨j,D,E1⟩:=s
  obtain⟨i1,i2⟩:=hi
  obtain⟨hj,hk⟩:=Prod.mk.inj h0
  dsimp only at i1 i2
  obtain rfl:D=D1:=by simpa [rg]using hj
  have hQ:=hQ z E1 i2
  cbv
  rw [he]
  cbv
  exact hQ
 ·obtain⟨j,D,E1⟩:=s
  obtain⟨i1,i2⟩:=hi
  obtain⟨hj,hk⟩:=Prod.mk.inj h0
  dsimp only at i1 i2 hj hk hy
  subst i1
  have hl:D.length<D1.length:=by have:=congrArg List.length hj;simp [rg]at this;omega
  have h2:x=(D.length:Int):=by
   have e:=congrArg (fun l=>l[D.length]?) hk
   simp only [zqg (show(ixs 0 D.length).length<=D.length by rw [bX];exact Nat.le_refl _),bX,Nat.sub_self,zqw]at e
   rw [vV _ _ _ hl]at e
   simpa using e
  have hh:0<=x:=by omega
  have hU:x.toNat=D.length:=by omega
  have h8:D.length<S1.length:=by omega
  obtain⟨sd,hS⟩:∃sd,S1[x.toNat]? =some sd:=⟨_,zqc (by omega)⟩
  obtain⟨kd,hN⟩:∃kd,kids[x.toNat]? =some kd:=⟨_,zqc (by omega)⟩
  obtain⟨zz,h4⟩:∃zz,ZZ[x.toNat]? =some zz:=⟨_,zqc (by omega)⟩
  have xc:j.toNat<l.length:=(List.getElem?_eq_some_iff.1 hx).1
  obtain⟨pj,hd⟩:∃v,PS[j.toNat]? =some v:=⟨_,zqc (by omega)⟩
  have hZ:elZ PS j=pj:=by have:=nP hd;rwa [Int.toNat_of_nonneg z0]at this
  have h7:=hW hd
  have e3:elZ ZZ x=zz:=by have:=nP h4;rwa [Int.toNat_of_nonneg hh]at this
  have hC:=hX hx
  rw [e3]at hC
  have hV:K[x.toNat]? =some [.J kd]:=by rw [hK];exact bf hN
  have h9:vS[x.toNat]? =some (lc (ar.c sd)):=by rw [hvS];exact bf hS
  have hR:List.replicate (kids.length-D.length) (⟨0,0,0,0,0⟩:aM)=⟨0,0,0,0,0⟩::List.replicate (kids.length-(D.length+1)) ⟨0,0,0,0,0⟩:=by
   rw [show kids.length-D.length=(kids.length-(D.length+1))+1 by omega,List.replicate_succ]
  have xe:x<aX E1:=by rw [i2,aQ];simp;omega
  have hm:E1[x.toNat]? =some (lc (aM.c ⟨0,0,0,0,0⟩)):=by rw [i2];exact bf (by rw [zqg (by omega),hU,Nat.sub_self,hR];rfl)
  have ha:∀v,E1.set x.toNat (lc (aM.c v))=vw aM.c ((D++[v])++List.replicate (kids.length-(D++[v]).length) ⟨0,0,0,0,0⟩):=fun v=>by
   rw [i2,hU,mB,List.set_append_right _ _ (Nat.le_refl _),Nat.sub_self,hR,List.set_cons_zero,zqe,zqm,zqC];rfl
  have e2:elZ kids x=kd:=by have:=nP hN;rwa [Int.toNat_of_nonneg hh]at this
  have ht:=kJ IN pj zz mb
  obtain⟨a1,hI⟩:=nmE (De IN pj zz mb);(try rw [<-hI]at ht)
  have cP:=m5 sd c lb
  obtain⟨pa,hP⟩:=nmE (Ed sd c lb);(try rw [<-hP]at cP)
  obtain⟨sp,hT⟩:=nmE (wrap64 (st+pa))
  have hp:=kJ AC' sp sd.size cb
  obtain⟨b1,hJ⟩:=nmE (De AC' sp sd.size cb);(try rw [<-hJ]at hp)
  obtain⟨X1,hD⟩:=nmE (wrap64 (b1+fl))
  obtain⟨X2,hF⟩:=nmE (wrap64 (a1+ft))
  obtain⟨X3,hG⟩:=nmE (wrap64 (a1+fl))
  obtain⟨X4,hH⟩:=nmE (wrap64 (b1+ft))
  have ho:Er q rtl IN AC' ZZ S1 st c lb pj x=if row then⟨kd,X3,X4,zz,sd.size⟩else⟨kd,X1,X2,sd.size,zz⟩:=by
   rw [hD,hF,hG,hH,hJ,hT,hP,hI,hO,hM,hq]
   unfold Er
   dsimp only
   rw [vt hh hS,e2,e3,hf]
  obtain⟨fm,hb⟩:=nmE (Er q rtl IN AC' ZZ S1 st c lb pj x)
  rw [<-hb]at ho
  have h3:((D++[fm])++rg q rtl IN AC' ZZ S1 st c lb PS (j+1) rest,ixs 0 (D++[fm]).length++rest)=(D1,ixs 0 D1.length):=Prod.ext (by rw [<-hj,hb,<-hZ];simp [rg]) (by
   show ixs 0 (D++[fm]).length++rest=ixs 0 D1.length
   rw [<-hk,zqe,zqm,nB,Int.zero_add,<-h2];simp)
  obtain⟨E2,hw⟩:=nmE (E1.set x.toNat (lc (aM.c fm)))
  have ha:=ha fm
  rw [<-hw]at ha
  have xg:=pmV ha
  have t1:g .w .add .i64 st pa=sp:=by rw [aN hg,hT]
  have t2:g .w .add .i64 fl b1=X1:=by rw [aN hg,hD,Int.add_comm]
  have t3:g .w .add .i64 ft a1=X2:=by rw [aN hg,hF,Int.add_comm]
  have t4:g .w .add .i64 fl a1=X3:=by rw [aN hg,hG,Int.add_comm]
  have t5:g .w .add .i64 ft b1=X4:=by rw [aN hg,hH,Int.add_comm]
  obtain⟨y0,y1,y2,y3,y4,y5,y6⟩:=sd
  dsimp only at ho hp
  clear h2 hl hU h8 hk hb hD hF hG hH hJ hT hP hI hO hM hq hf e2 e3 hS hN h4 hR i2 hvZ hvC hvT hvS hvP hK hZ hv hd xc hvW hW hX hPl
  have hA:vS[x.toNat]? =some [.J y0,.J y1,.J y2,.B y3,.B y4,.J y5,.J y6]:=h9
  have hn:∃e,E1[x.toNat]? =some e/\e.length=5:=⟨_,hm,rfl⟩
  clear hm
  cases row
  all_goals
   (try simp only [Bool.false_eq_true,if_false]at ho)
   (try simp only [if_true]at ho)
   subst ho
   cbv
   rw [hc]
   cbv
   ((repeat'((first|rw [t1]|rw [t2]|rw [t3]|rw [t4]|rw [t5]|refine aa hg hu ?_|refine aa hg hs ?_|refine aa hg ht ?_|refine aa hg hp ?_|refine aa hg cP ?_|refine goX hg _ z0 hy rfl ?_|refine goX hg _ hh hA rfl ?_|refine goX hg _ z0 h7 rfl ?_|refine goX hg _ z0 hC rfl ?_|refine goX hg _ hh hV rfl ?_|refine goX hg _ z0' h5 rfl ?_|refine goX hg _ z0' xa rfl ?_);cbv)))
   refine goY hg hh xe fun j2 hY xd=> ?_
   cbv
   obtain⟨e,he,xb⟩:=hn
   ((repeat'(rw [t1];cbv)))
   refine goN hg ⟨_,by rw [hY];exact he,xb⟩ ?_
   cbv
   rw [mP hg,hY]
   dsimp only [AT.cells]
   first
    |rw [show E1.set x.toNat [.imm (.int .i64 kd),.imm (.int .i64 X3),.imm (.int .i64 X4),.imm (.int .i64 zz),.imm (.int .i64 y0)]=E2 from hw.symm]
    |rw [show E1.set x.toNat [.imm (.int .i64 kd),.imm (.int .i64 X1),.imm (.int .i64 X2),.imm (.int .i64 y0),.imm (.int .i64 zz)]=E2 from hw.symm]
   ((repeat'(rw [e1];cbv)))
   exact hB ((j+1,_,E2)) _ _ ⟨h3,⟨rfl,ha⟩⟩ (Wk.weak (wkM [some 0,none,none,some 3,some 4,some 5,some 6,some 7,some 8,some 9,some 10,some 11] ⟨rfl,rfl,rfl,rfl,rfl,rfl,rfl,rfl,rfl,rfl,rfl,rfl,rfl,rfl,rfl,rfl,rfl,rfl,rfl,rfl,rfl,rfl,trivial⟩ ⟨.inr ⟨_,_,rfl,rfl,rfl,rfl,.inr ⟨zr5,trivial⟩⟩,.inl rfl,.inl rfl,.inr (wqE rfl rfl),.inr (wqE rfl rfl),.inr (wqE rfl rfl),.inr (wqE rfl rfl),.inr (wqE rfl pM),.inr (wqE rfl pA),.inr (wqE rfl rfl),.inr ⟨_,_,rfl,rfl,rfl,rfl,.inr ⟨zr4,trivial⟩⟩,.inr (wqE rfl xg),trivial⟩ (by decide) ⟨.inl rfl,.inl rfl,.inr rfl,trivial⟩ ⟨.inl rfl,.inl rfl,.inr ⟨_,rfl⟩,trivial⟩))
theorem oT(xs:List ag)(ss:List Int)(gap inner js:Int)(hl:xs.length<=1048576)(hs:ss.length<=1048576):dc prog 276 [.c (.view (vw ag.c xs)),.c (.view (vw ak ss)),ai gap,ai inner,ai js] fun res xq=>∃e:Int,res= .tup [.c (.own 0),ai e]/\xq=[⟨3,1,vw ak (alg xs ss gap inner js)⟩]:=by
 have cK:=vh xs ss gap inner hl hs
 have cO:=gp xs ss gap hl hs
 have cF:PC0 303 [.c (.view (vw ag.c xs)),.c (.view (vw ak ss)),ai gap,ai inner] (.i (wrap64 (inner-wrap64 (hP xs ss gap)))):=by
  obtain⟨V,hV⟩:=nmE (vw ag.c xs);(try rw [<-hV]at cO);(try rw [<-hV]at⊢)
  obtain⟨W,hW⟩:=nmE (vw ak ss);(try rw [<-hW]at cO);(try rw [<-hW]at⊢)
  obtain⟨O,hO⟩:=nmE (wrap64 (hP xs ss gap));(try rw [<-hO]at cO);(try rw [<-hO]at⊢)
  obtain⟨R,hR⟩:=nmE (wrap64 (inner-O))
  rw [<-hR]
  refine ae (aJ f303) ay func303 fun g F hg hF=> ?_
  have e:g .w .sub .i64 inner O=R:=by rw [bZ hg,hR]
  cbv
  (repeat'((first|rw [e]|refine ad hg cO ?_);cbv))
  exact aV hF rfl
 have cS:=bD (wrap64 (inner-wrap64 (hP xs ss gap)))
 have cA:=rL xs hl
 have cE:=eb (alF xs ss gap inner) (auN xs)
 have cL:=m8 (alF xs ss gap inner) (xs.length:Int) js
 have cB:=fun(h:(xs.length:Int)<=12)=>jW (alF xs ss gap inner) (xs.length:Int) js (by omega) h
 change PC0 _ _ (.i (alF xs ss gap inner))at cS
 have hd:al5 xs ss gap inner=false->alg xs ss gap inner js=[]:=fun h=>by rw [alg,if_pos h]
 have hb:al5 xs ss gap inner=true->alg xs ss gap inner js=wz (alE xs ss gap inner) (alS xs (alF xs ss gap inner) js) gap (xs.length:Int) 0 (al0 xs (alF xs ss gap inner) js) 0 (xs.zip ss):=fun h=>by rw [alg,h];rfl
 have xa:=yD xs
 have xl:al5 xs ss gap inner=true->(xs.length:Int)<=12/\ss.length=xs.length:=fun h=>by
  simp only [al5,ep,zqs,zqp]at h;exact⟨h.2.1.2,h.2.2.1⟩
 obtain⟨AL,xO⟩:=nmE (alg xs ss gap inner js)
 rw [<-xO]at hd hb⊢
 have hJ:alE xs ss gap inner=if 0<auN xs/\0<alF xs ss gap inner then evn (alF xs ss gap inner) (auN xs)else []:=rfl
 have hL:∀i,alS xs (alF xs ss gap inner) js i=if auN xs=0 then btw (alF xs ss gap inner) (xs.length:Int) js i else 0:=fun _=>rfl
 have hu:al0 xs (alF xs ss gap inner) js=if auN xs=0 then led (alF xs ss gap inner) (xs.length:Int) js else 0:=rfl
 have hh:=fun i(h0:0<=i)(h1:i<(xs.length:Int))=>C6 (alF xs ss gap inner) (xs.length:Int) js h0 h1
 obtain⟨D,hD⟩:=nmE (wrap64 (inner-wrap64 (hP xs ss gap)));(try rw [<-hD]at cS);(try rw [<-hD]at cF)
 obtain⟨EX,hG⟩:=nmE (alE xs ss gap inner);(try rw [<-hG]at hJ);(try rw [<-hG]at hb)
 obtain⟨SP,xU⟩:=nmE (alS xs (alF xs ss gap inner) js)
 obtain⟨A0,xN⟩:=nmE (al0 xs (alF xs ss gap inner) js)
 rw [<-xU]at hL hb
 rw [<-xN]at hu hb
 obtain⟨LD,hS⟩:=nmE (led (alF xs ss gap inner) (xs.length:Int) js);(try rw [<-hS]at cL);(try rw [<-hS]at hu)
 obtain⟨SC,xT⟩:=nmE (spc (alF xs ss gap inner) (xs.length:Int) js)
 rw [<-xT]at cB hh
 obtain⟨BW,xP⟩:=nmE (btw (alF xs ss gap inner) (xs.length:Int) js)
 rw [<-xP]at hL hh
 obtain⟨fr,hK⟩:=nmE (alF xs ss gap inner);(try rw [<-hK]at cE);(try rw [<-hK]at cL);(try rw [<-hK]at cB);(try rw [<-hK]at hJ);(try rw [<-hK]at hu);(try rw [<-hK]at cS)
 obtain⟨au,hv⟩:=nmE (auN xs);(try rw [<-hv]at cA);(try rw [<-hv]at cE);(try rw [<-hv]at hJ);(try rw [<-hv]at hL);(try rw [<-hv]at hu);(try rw [<-hv]at xa)
 have xG:(xs.length:Int)<=1048576:=by omega
 have xF:0<=(xs.length:Int):=by omega
 obtain⟨n,hn⟩:=nmE ((xs.length:Int));(try rw [<-hn]at cL);(try rw [<-hn]at cB);(try rw [<-hn]at hb);(try rw [<-hn]at xl);(try rw [<-hn]at hh);(try rw [<-hn]at xG);(try rw [<-hn]at xF);(try rw [<-hn]at xa)
 obtain⟨C,hC⟩:=nmE (al5 xs ss gap inner);(try rw [<-hC]at cK);(try rw [<-hC]at xl);(try rw [<-hC]at hd);(try rw [<-hC]at hb)
 have xc:(xs.zip ss).length<=1048576:=by rw [zqB];omega
 have xI:= @DJ _ _ xs ss
 have xX:=Gu (c:=fun x=>lc (ag.c x)) (xs:=xs) (ys:=ss)
 have hE:ss.length=xs.length->auN ((xs.zip ss).map (·.1))=auN xs:=fun h=>by rw [show(xs.zip ss).map (fun x=>x.1)=xs from by simpa using Gu (c:=fun x=>x) h.symm]
 rw [<-hv]at hE
 obtain⟨zs,h7⟩:=nmE (xs.zip ss);(try rw [<-h7]at hb);(try rw [<-h7]at xc);(try rw [<-h7]at xI)
 obtain⟨V,hV⟩:=nmE (vw ag.c xs)
 have ya:=lmV hV
 have iV:=imV hV
 have kV:=kmV (k:=9) hV fun _=>rfl
 have dV:=dmV hV
 obtain⟨W,hW⟩:=nmE (vw ak ss)
 have yb:=lmV hW
 have iW:=imV hW
 have kW:=kmV (k:=1) hW fun _=>rfl
 have dW:=dmV hW
 rw [<-hV]at cK cF cA
 rw [<-hW]at cK cF
 rw [<-hV,<-hW]
 have xV:aX V=n:=by rw [hV,aQ,hn]
 refine ae (aJ f276) ay func276 fun g F hg hF=> ?_
 cases hC2:C
 ·rw [hC2]at cK
  replace hd:=hd hC2
  cbv
  (repeat'(refine ad hg cK ?_;cbv))
  exact Cx hF (.tup [.c (.own 0),ai 0]) [⟨3,1,[]⟩] _ (wkG [some 0] ⟨zr2,trivial⟩ ⟨wqE rfl rfl,trivial⟩ (by decide) aD) ⟨0,rfl,by rw [hd];rfl⟩
 rw [hC2]at cK
 replace hb:=hb hC2
 obtain⟨xk,xH⟩:=xl hC2
 replace cB:=cB xk
 replace hE:=hE xH
 replace hV:V=zs.map (fun t=>lc (ag.c t.1)):=by rw [h7,xX xH.symm,hV];rfl
 have t4:g .ln V=n:=by rw [bF hg,xV]
 rw [<-h7]at hE
 have t1:g .q .gtr (au) (0)=decide ((0)<(au)):=cu hg _ _
 have t2:g .q .gtr (fr) (0)=decide ((0)<(fr)):=cu hg _ _
 have t3:g .q .eql (au) (0)=decide ((au)=(0)):=by rw [bj hg];exact zqn _ _
 have hS:au=0->A0=LD:=fun h=>by rw [hu,if_pos h]
 have ho:¬au=0->A0=0:=fun h=>by rw [hu,if_neg h]
 have hG:∀k:Int,0<=k->k<au->0<au->0<fr->(vw ak (evn fr au))[k.toNat]? =some [.J (elZ EX k)]:=fun k k0 k1 h1 h2=>by
  rw [hJ,if_pos ⟨h1,h2⟩]
  exact bf (kj k0 (by rw [gP,nN (by omega) (by omega)];exact k1))
 have xv:¬(0<au/\0<fr)->∀k:Int,elZ EX k=0:=fun h k=>by rw [hJ,if_neg h];exact Bf k
 have hT:¬au=0->∀i:Int,SP i=0:=fun h i=>by rw [hL,if_neg h]
 have ht:au=0->∀i:Int,0<=i->i+1<n->(vw ak SC)[i.toNat]? =some [.J (SP i)]:=fun h i i0 i1=>by
  have:=hh i i0 (by omega)
  rw [if_pos i1]at this
  rw [hL,if_pos h]
  exact bf this
 obtain⟨YE,hU⟩:=nmE (vw ak (evn fr au));(try rw [<-hU]at cE);(try rw [<-hU]at hG)
 obtain⟨YS,hX⟩:=nmE (vw ak SC);(try rw [<-hX]at cB);(try rw [<-hX]at ht)
 have yc:=kmV (k:=1) hU fun _=>rfl
 have xZ:=dmV hU
 have yd:=kmV (k:=1) hX fun _=>rfl
 have x9:=dmV hX
 clear hU hX hJ hL hu hh
 cbv
 (repeat'((first|refine ad hg cK ?_|refine ad hg cF ?_|refine ad hg cS ?_|refine ad hg cA ?_);cbv))
 refine mkI hg (by decide) xa.1 (by omega) ?_
 cbv
 generalize hH:g .rp au _=GZ
 rw [t4]
 refine mkI hg (by decide) xF xG ?_
 cbv
 generalize hI:g .rp n _=SZ
 replace hH:GZ=vw ak (List.replicate au.toNat 0):=by rw [<-hH,zf hg];exact pI ak _ 0
 replace hI:SZ=vw ak (List.replicate n.toNat 0):=by rw [<-hI,zf hg];exact pI ak _ 0
 have xy:∀k:Int,0<=k->k<au->GZ[k.toNat]? =some [.J 0]:=fun k k0 k1=>by rw [hH];exact bf (c:=ak) (x:=0) (by rw [List.getElem?_replicate,if_pos (by omega)])
 have xD:∀k:Int,0<=k->k<n->SZ[k.toNat]? =some [.J 0]:=fun k k0 k1=>by rw [hI];exact bf (c:=ak) (x:=0) (by rw [List.getElem?_replicate,if_pos (by omega)])
 have xo:=kmV (k:=1) hH fun _=>rfl
 have xe:=dmV hH
 have xK:=kmV (k:=1) hI fun _=>rfl
 have xr:=dmV hI
 clear hH hI
 have xY:∃(GV SV:LLA),(∀k:Int,0<=k->k<au->GV[k.toNat]? =some [.J (elZ EX k)])/\(∀i:Int,0<=i->i+1<n->SV[i.toNat]? =some [.J (SP i)])/\
   ((au=0/\GV=GZ/\SV=YS/\A0=LD)\/(0<au/\¬0<fr/\GV=GZ/\SV=SZ/\A0=0)\/(0<au/\0<fr/\GV=YE/\SV=SZ/\A0=0)):=by
  have h1:¬(0<au/\0<fr)->∀k:Int,0<=k->k<au->GZ[k.toNat]? =some [.J (elZ EX k)]:=fun h k k0 k1=>by rw [xv h];exact xy k k0 k1
  have h2:¬au=0->∀i:Int,0<=i->i+1<n->SZ[i.toNat]? =some [.J (SP i)]:=fun h i i0 i1=>by rw [hT h];exact xD i i0 (by omega)
  by_cases ha:au=0
  ·exact⟨GZ,YS,h1 (by omega),ht ha,.inl ⟨ha,rfl,rfl,hS ha⟩⟩
  ·have hp:0<au:=by have:=xa.1;omega
   by_cases hf:0<fr
   ·exact⟨YE,SZ,fun k k0 k1=>hG k k0 k1 hp hf,h2 ha,.inr (.inr ⟨hp,hf,rfl,rfl,ho ha⟩)⟩
   ·exact⟨GZ,SZ,h1 (by omega),h2 ha,.inr (.inl ⟨hp,hf,rfl,rfl,ho ha⟩)⟩
 obtain⟨GV,SV,xg,xC,hY⟩:=xY
 clear hS ho hG xv hT ht xy xD
 rcases hY with⟨ha,hg1,hs1,hA⟩|⟨ha,hf,hg1,hs1,hA⟩|⟨ha,hf,hg1,hs1,hA⟩
 case' inl=>
  rw [zqt (show¬0<au by omega)]at t1
  rw [zqu ha]at t3
  rw [<-hA]at cL
  subst hg1 hs1
  have xd:=xo
  have h8:=xe
  (repeat'((first|rw [t1]|rw [t3]|rw [t4]|refine ad hg cL ?_|refine ad hg cB ?_);cbv))
  refine aY hg ay (by kernel_rfl) V (fun t=>lc (ag.c t.1)) zs hV xc (fun z(s:Int×Int×List Int×LLA)=>[(0,.v V),(1,.v W),(2,.i (gap)),(12,.o 0),(15,.v GV),(16,.i (s.1)),(17,.v SV),(18,.i (s.2.1)),(19,.i (z))]) (fun z(s:Int×Int×List Int×LLA)=>[.rw ⟨3,1,s.2.2.2⟩]) (fun z(s:Int×Int×List Int×LLA)=>s.2.2.2=vw ak s.2.2.1/\(s.2.2.1.length:Int)=z/\0<=s.2.1) (fun(s:Int×Int×List Int×LLA) rest=>(s.2.2.1++wz EX SP gap n (s.2.2.1.length:Int) s.1 s.2.1 rest,s.2.1+auN (rest.map (fun x=>x.1)))) ((AL,au)) (A0,0,[],[]) (by rw [hb,<-hE];simp) ⟨rfl,rfl,Int.le_refl 0⟩ (bH (sl1 1 GV) (jh rfl xd h8) (Wk.weak (wkG [some 0] zr9 ⟨wqE rfl rfl,trivial⟩ (by decide) aD))) (fun z s B hz h0 hi he=> ?_) (fun z s x rest B z0 z1 z2 hx hy h0 hi hc e1 hB=> ?_)
 case' inr.inl=>
  rw [zqu ha]at t1
  rw [zqt hf]at t2
  rw [zqt (show¬au=0 by omega)]at t3
  subst hg1 hs1
  have xd:=xo
  have h8:=xe
  have xp:=xK
  have xf:=xr
  (repeat'((first|rw [t1]|rw [t2]|rw [t3]);cbv))
  refine aY hg ay (by kernel_rfl) V (fun t=>lc (ag.c t.1)) zs hV xc (fun z(s:Int×Int×List Int×LLA)=>[(0,.v V),(1,.v W),(2,.i (gap)),(12,.o 0),(15,.v GV),(16,.i (s.1)),(17,.v SV),(18,.i (s.2.1)),(19,.i (z))]) (fun z(s:Int×Int×List Int×LLA)=>[.rw ⟨3,1,s.2.2.2⟩]) (fun z(s:Int×Int×List Int×LLA)=>s.2.2.2=vw ak s.2.2.1/\(s.2.2.1.length:Int)=z/\0<=s.2.1) (fun(s:Int×Int×List Int×LLA) rest=>(s.2.2.1++wz EX SP gap n (s.2.2.1.length:Int) s.1 s.2.1 rest,s.2.1+auN (rest.map (fun x=>x.1)))) ((AL,au)) (A0,0,[],[]) (by rw [hb,<-hE];simp) ⟨rfl,rfl,Int.le_refl 0⟩ (bH (sl2 1 2 GV SV) (D4 rfl xd h8 rfl xp xf) (Wk.weak (wkG [some 0] ⟨rfl,rfl,rfl,rfl,rfl,by rw [hA];rfl,rfl,rfl,rfl,trivial⟩ ⟨wqE rfl rfl,trivial⟩ (by decide) aD))) (fun z s B hz h0 hi he=> ?_) (fun z s x rest B z0 z1 z2 hx hy h0 hi hc e1 hB=> ?_)
 case' inr.inr=>
  rw [zqu ha]at t1
  rw [zqu hf]at t2
  rw [zqt (show¬au=0 by omega)]at t3
  subst hg1 hs1
  have xd:=xo
  have h8:=xe
  have xp:=xK
  have xf:=xr
  (repeat'((first|rw [t1]|rw [t2]|rw [t3]|refine ad hg cE ?_);cbv))
  refine aY hg ay (by kernel_rfl) V (fun t=>lc (ag.c t.1)) zs hV xc (fun z(s:Int×Int×List Int×LLA)=>[(0,.v V),(1,.v W),(2,.i (gap)),(12,.o 0),(15,.v GV),(16,.i (s.1)),(17,.v SV),(18,.i (s.2.1)),(19,.i (z))]) (fun z(s:Int×Int×List Int×LLA)=>[.rw ⟨3,1,s.2.2.2⟩]) (fun z(s:Int×Int×List Int×LLA)=>s.2.2.2=vw ak s.2.2.1/\(s.2.2.1.length:Int)=z/\0<=s.2.1) (fun(s:Int×Int×List Int×LLA) rest=>(s.2.2.1++wz EX SP gap n (s.2.2.1.length:Int) s.1 s.2.1 rest,s.2.1+auN (rest.map (fun x=>x.1)))) ((AL,au)) (A0,0,[],[]) (by rw [hb,<-hE];simp) ⟨rfl,rfl,Int.le_refl 0⟩ (bH (sl1 2 SV) (jh rfl xp xf) (Wk.weak (wkG [some 0] ⟨rfl,rfl,rfl,rfl,rfl,by rw [hA];rfl,rfl,rfl,rfl,trivial⟩ ⟨wqE rfl rfl,trivial⟩ (by decide) aD))) (fun z s B hz h0 hi he=> ?_) (fun z s x rest B z0 z1 z2 hx hy h0 hi hc e1 hB=> ?_)
 all_goals try
  have:=he
  obtain⟨a,k,hm,E⟩:=s
  obtain⟨i1,i2,i3⟩:=hi
  dsimp only at i1 i2 i3 h0
  have pE:=pmV i1
  obtain rfl:hm=AL:=by simpa [wz]using congrArg Prod.fst h0
  cbv;rw [he];cbv
  exact Cx hF (.tup [.c (.own 0),ai a]) [⟨3,1,E⟩] _ (wkG [some 0] ⟨zr2,trivial⟩ ⟨wqE rfl pE,trivial⟩ (by decide) aD) ⟨a,rfl,by rw [i1]⟩
 all_goals
  obtain⟨a,k,hm,E⟩:=s
  obtain⟨⟨x0,x1,x2,x3,x4,x5,x6,x7,x8⟩,sz⟩:=x
  obtain⟨i1,i2,i3⟩:=hi
  dsimp only at i1 i2 i3 h0 hy
  have hj:=congrArg Prod.snd h0
  have hk:=congrArg Prod.fst h0
  simp only [zqA,auN]at hj
  clear h0
  have h4:=(yD (rest.map (fun x=>x.1))).1
  have xW:W[z.toNat]? =some [.J sz]:=by rw [hW];exact bf (xI hx)
  have h6:x7=true->GV[k.toNat]? =some [.J (elZ EX k)]:=fun h=>xg k i3 (by rw [h]at hj;simp only [if_true]at hj;split at hj<;>omega)
  have xi:auK k x7=if x7=true then k+1 else k:=rfl
  have hw:x8=true->GV[(auK k x7).toNat]? =some [.J (elZ EX (auK k x7))]:=fun h=>xg _ (by rw [xi];split<;>omega) (by rw [h]at hj;rw [xi];simp only [if_true]at hj;split at hj<;>split<;>simp_all<;>omega)
  have xn:z+1<n->SV[z.toNat]? =some [.J (SP z)]:=fun h=>xC z z0 h
  have xQ:E.length<=1048576:=by rw [i1,aq];omega
  have hN:x7=true->g .w .add .i64 k 1=auK k x7:=fun h=>by rw [h,aN hg];exact wr1 (by omega) (by omega)
  have hM:x7=false->auK k x7=k:=fun h=>by rw [h];rfl
  have xb:0<=auK k x7/\auK k x7<=k+1/\0<=auK (auK k x7) x8:=by unfold auK;split<;>split<;>omega
  have hr:x8=true->g .w .add .i64 (auK k x7) 1=auK (auK k x7) x8:=fun h=>by rw [h,aN hg];exact wr1 (by omega) (by omega)
  have hq:x8=false->auK (auK k x7) x8=auK k x7:=fun h=>by rw [h];rfl
  obtain⟨P1,h9⟩:=nmE (GU EX a k ⟨x0,x1,x2,x3,x4,x5,x6,x7,x8⟩)
  obtain⟨Q,hQ⟩:=nmE (wrap64 (P1+wrap64 (wrap64 (sz+x6)+auT EX (auK k x7) x8)))
  have xE:hm++wz EX SP gap n (hm.length:Int) a k ((⟨x0,x1,x2,x3,x4,x5,x6,x7,x8⟩,sz)::rest)=(hm++[P1])++wz EX SP gap n (z+1) (if z+1<n then wrap64 (wrap64 (Q+gap)+SP z)else Q) (auK (auK k x7) x8) rest:=by
   rw [i2,hQ,h9,zqC];rfl
  rw [xE]at hk
  have nl:((hm++[P1]).length:Int)=z+1:=by simp;omega
  have xz:x7=true->g .w .add .i64 (wrap64 (a+x5)) (elZ EX k)=P1:=fun h=>by rw [aN hg,h9,h,mQ,Int.add_assoc,<-sx];rfl
  have xR:x7=false->P1=wrap64 (a+x5):=fun h=>by rw [h9,h];show wrap64 (a+wrap64 (x5+0))=_;rw [Int.add_zero,sx]
  have xA:∀e,wrap64 (P1+wrap64 (wrap64 (sz+x6)+e))=wrap64 (wrap64 (wrap64 (P1+sz)+x6)+e):=fun e=>by
   simp only [mQ,sx];rw [show P1+(sz+x6+e)=P1+sz+x6+e by omega]
  rw [xA]at hQ
  have xh:x8=true->g .w .add .i64 (wrap64 (wrap64 (P1+sz)+x6)) (elZ EX (auK k x7))=Q:=fun h=>by rw [aN hg,hQ,h];rfl
  have xS:x8=false->Q=wrap64 (wrap64 (P1+sz)+x6):=fun h=>by rw [hQ,h];show wrap64 (wrap64 (wrap64 (P1+sz)+x6)+0)=_;rw [Int.add_zero,vb]
  have eA:g .w .add .i64 a x5=wrap64 (a+x5):=aN hg _ _
  have eB:g .w .add .i64 P1 sz=wrap64 (P1+sz):=aN hg _ _
  have eC:g .w .add .i64 (wrap64 (P1+sz)) x6=wrap64 (wrap64 (P1+sz)+x6):=aN hg _ _
  have xM:g .w .add .i64 Q gap=wrap64 (Q+gap):=aN hg _ _
  have xt:g .w .add .i64 (wrap64 (Q+gap)) (SP z)=wrap64 (wrap64 (Q+gap)+SP z):=aN hg _ _
  have t5:g .q .lss (z+1) (g .ln V)=decide (z+1<n):=by rw [bh hg,t4]
  have xm:auK (auK k x7) x8+auN (rest.map (fun x=>x.1))=au:=by
   rw [<-hj];unfold auK;split<;>split<;>omega
  obtain⟨k1,hZ⟩:=nmE (auK k x7)
  rw [<-hZ]at hw hN hM xb hr hq xh xm hk
  obtain⟨k2,h3⟩:=nmE (auK k1 x8)
  rw [<-h3]at hr hq xb xm hk
  obtain⟨G1,xw⟩:=nmE (elZ EX k)
  obtain⟨G2,xx⟩:=nmE (elZ EX k1)
  obtain⟨S1,xB⟩:=nmE (SP z)
  rw [<-xw]at h6 xz
  rw [<-xx]at hw xh
  rw [<-xB]at xn xt hk
  obtain⟨z3,xJ⟩:=nmE (z+1)
  rw [<-xJ]at e1 t5 nl hk xn
  have aE:E++[[.J P1]]=vw ak (hm++[P1]):=by rw [i1,bv];rfl
  have xL:aC (E++[[.J P1]])=true:=by rw [aE];exact aF _ _
  obtain⟨E2,xu⟩:∃E2,E2=E++[[.J P1]]:=⟨_,rfl⟩
  rw [<-xu]at aE xL
  have xj:0<=k1:=xb.1
  clear xi hj h4 hQ xA h9 xE hZ h3 xw xx xB xg xC
  generalize wrap64 (a+x5)=T1 at *
  generalize wrap64 (wrap64 (P1+sz)+x6)=T3 at *
  generalize wrap64 (P1+sz)=T2 at *
  generalize wrap64 (wrap64 (Q+gap)+S1)=Q3 at *
  generalize wrap64 (Q+gap)=Q2 at *
  cases x7<;>cases x8
  all_goals
   (try obtain rfl:=xR rfl)
   (try obtain rfl:=xS rfl)
   (try obtain rfl:=hM rfl)
   (try obtain rfl:=hq rfl)
   by_cases h5:z3<n
   all_goals
    first|rw [zqu h5]at t5|rw [zqt h5]at t5
    first|rw [if_pos h5]at hk|rw [if_neg h5]at hk
    cbv
    rw [hc]
    cbv
    (repeat'((first|rw [eA]|rw [eB]|rw [eC]|rw [xM]|rw [xt]|rw [e1]|rw [t5]|refine goX hg _ (by omega) hy rfl ?_|refine goX hg _ (by omega) xW rfl ?_|refine goX hg _ i3 (h6 rfl) rfl ?_|refine goX hg _ xj (hw rfl) rfl ?_|refine goX hg _ z0 (xn h5) rfl ?_|rw [xz rfl]|rw [xh rfl]|rw [hN rfl]|rw [hr rfl]|refine dg hg rfl (by decide) xQ ?_;cbv;rw [gd hg,<-xu]);cbv))
    subst xJ
    exact hB ((_,k2,hm++[P1],E2)) _ _ ⟨(by dsimp only;rw [nl];exact Prod.ext hk xm),⟨aE,nl,xb.2.2⟩⟩ (Wk.weak (wkG [some 2] zr9 ⟨wqE rfl xL,trivial⟩ (by decide) aD))
theorem mZ(xs:List ag)(ss:List Int)(gap inner js:Int)(hl:xs.length<=1048576)(hs:ss.length<=1048576):dc prog 218 [.c (.view (vw ag.c xs)),.c (.view (vw ak ss)),ai gap,ai inner,ai js] fun res ha=>res= .o 0/\ha=[⟨3,1,vw ak (alg xs ss gap inner js)⟩]:=by
 have cP:=oT xs ss gap inner js hl hs
 obtain⟨V,hV⟩:=nmE (vw ag.c xs);(try rw [<-hV]at cP);(try rw [<-hV]at⊢)
 obtain⟨W,hW⟩:=nmE (vw ak ss);(try rw [<-hW]at cP);(try rw [<-hW]at⊢)
 obtain⟨E,hE⟩:=nmE (vw ak (alg xs ss gap inner js));(try rw [<-hE]at cP);(try rw [<-hE]at⊢)
 have pE:=pmV hE
 refine ae (aJ f218) ay func218 fun g F hg hF=> ?_
 cbv
 refine uS hg (fE cP rfl fun res ha hq=> ?_)
 obtain⟨e,rfl,rfl⟩:=hq
 refine⟨[.rw ⟨3,1,E⟩],by simp only [zqA,List.map_nil];rw [show AB.shift _ ⟨3,1,E⟩=(⟨3,1,E⟩:AB)from congrArg (AB.mk _ _) (iE pE)];rfl,?_⟩
 cbv
 exact bR hF rfl pE
end Go.Proofs.YtckchgoblpgpbaaGreat
