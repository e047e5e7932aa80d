/- The places of items along: the reference. -/
import Derived.Test.YtdnnffbbhijmkaaGreatQbq
set_option linter.unusedVariables false
set_option linter.unusedSimpArgs false
set_option maxHeartbeats 80000000
namespace Go.Proofs.YtdnnffbbhijmkaaGreat
open Go.ChangeShapes Go.WideShapes Go.ChangeAt Go.RowKit Am Go.Proofs.Tryz
set_option maxRecDepth 100000
theorem BZ{g:Gd}(hg:g= @G0 bp0 prog 3 f259.ntmps){Q:Exit→List (Nat×AV)→EH→Prop}(V:LLA)(rtl keeps:Bool)(n:Int)(s0:ar)(row:Bool)(al ac:aw)(KW w0 w1 h0' h1':Int)(K M A0:LLA)(pM:aj M=true)(pA:aj A0=true)(IN GP AC':Int)(vI vL vZ vS vC vT:LLA)(fl ft fr fb:Int)(zo:Int)(E:LLA)(pE:aj E=true)(ZZ:List Int)(hvZ:vZ=vw ao ZZ)(l:List Int)(L:LLA)(hL:L=vw ao l)(hll:l.length≤1048576)(hlb:∀i∈l,0≤i∧i<(ZZ.length:Int))
  (hQ:∀(z:Int)(E2:LLA),E2=vw ao (l.map (elZ ZZ))→Q (.exit 2) [(120,.t (abl (false))),(119,.i (g .ln L)),(118,.v L),(117,.i (z)),(0,.p 0),(5,.p 3),(6,.p 4),(7,.p 5),(8,.p 6),(9,.v vI),(10,.v vZ),(11,.i (IN)),(12,.i (GP)),(13,.v vL),(14,.v vS),(15,.v vC),(16,.i (AC')),(18,.v vT),(19,.p 9),(20,.p 10),(21,.i (zo)),(22,.v L),(23,.o 12),(24,.i (z))] [.bx 79 5 [.view V,.B rtl,.B keeps,.own 7,.own 8],.gn,.gn,.bx 89 68 (nwL n s0 row al ac KW (.view K)),.bx 28 2 [.J w0,.J w1],.bx 28 2 [.J h0',.J h1'],.bx 64 4 [.J 0,.J 0,.J 0,.N],.rw ⟨199,10,M⟩,.rw ⟨206,6,A0⟩,.bx 85 4 [.J fl,.J ft,.J fr,.J fb],.bx 64 4 [.J 0,.J 0,.J 0,.own 11],.rw ⟨45,5,E⟩,.rw ⟨3,1,E2⟩]):
  g .L (lO (aK f259) 1) Q [(0,.p 0),(5,.p 3),(6,.p 4),(7,.p 5),(8,.p 6),(9,.v vI),(10,.v vZ),(11,.i (IN)),(12,.i (GP)),(13,.v vL),(14,.v vS),(15,.v vC),(16,.i (AC')),(18,.v vT),(19,.p 9),(20,.p 10),(21,.i (zo)),(22,.v L),(23,.o 12),(24,.i (0))] [.bx 79 5 [.view V,.B rtl,.B keeps,.own 7,.own 8],.gn,.gn,.bx 89 68 (nwL n s0 row al ac KW (.view K)),.bx 28 2 [.J w0,.J w1],.bx 28 2 [.J h0',.J h1'],.bx 64 4 [.J 0,.J 0,.J 0,.N],.rw ⟨199,10,M⟩,.rw ⟨206,6,A0⟩,.bx 85 4 [.J fl,.J ft,.J fr,.J fb],.bx 64 4 [.J 0,.J 0,.J 0,.own 11],.rw ⟨45,5,E⟩,.rw ⟨3,1,[]⟩]:=by
 obtain⟨R,hR⟩:=nmE (l.map (elZ ZZ))
 rw [←hR]at hQ
 have hRl:R.length≤1048576:=by rw [hR,zql];exact hll
 refine aY hg aD (by kernel_rfl) L (fun x=>lc (ao x)) l hL hll (fun z(s:List Int×LLA)=>[(0,.p 0),(5,.p 3),(6,.p 4),(7,.p 5),(8,.p 6),(9,.v vI),(10,.v vZ),(11,.i (IN)),(12,.i (GP)),(13,.v vL),(14,.v vS),(15,.v vC),(16,.i (AC')),(18,.v vT),(19,.p 9),(20,.p 10),(21,.i (zo)),(22,.v L),(23,.o 12),(24,.i (z))]) (fun z(s:List Int×LLA)=>[.bx 79 5 [.view V,.B rtl,.B keeps,.own 7,.own 8],.gn,.gn,.bx 89 68 (nwL n s0 row al ac KW (.view K)),.bx 28 2 [.J w0,.J w1],.bx 28 2 [.J h0',.J h1'],.bx 64 4 [.J 0,.J 0,.J 0,.N],.rw ⟨199,10,M⟩,.rw ⟨206,6,A0⟩,.bx 85 4 [.J fl,.J ft,.J fr,.J fb],.bx 64 4 [.J 0,.J 0,.J 0,.own 11],.rw ⟨45,5,E⟩,.rw ⟨3,1,s.2⟩]) (fun z(s:List Int×LLA)=>s.2=vw ao s.1) (fun(s:List Int×LLA) rest=>s.1++rest.map (elZ ZZ)) (R) ([],[]) (by rw [hR];rfl) rfl (Wk.weak (wkM [some 0,none,none,some 3,some 4,some 5,some 6,some 7,some 8,some 9,some 10,some 11,some 12] ⟨rfl,rfl,rfl,rfl,rfl,rfl,rfl,rfl,rfl,rfl,rfl,rfl,rfl,rfl,rfl,rfl,rfl,rfl,rfl,rfl,trivial⟩ ⟨.inr ⟨_,_,rfl,rfl,rfl,rfl,.inr ⟨⟨rfl,rfl,rfl,rfl,rfl,trivial⟩,trivial⟩⟩,.inl rfl,.inl rfl,.inr (wqE rfl rfl),.inr (wqE rfl rfl),.inr (wqE rfl rfl),.inr (wqE rfl rfl),.inr (wqE rfl pM),.inr (wqE rfl pA),.inr (wqE rfl rfl),.inr ⟨_,_,rfl,rfl,rfl,rfl,.inr ⟨⟨rfl,rfl,rfl,rfl,trivial⟩,trivial⟩⟩,.inr (wqE rfl pE),.inr (wqE rfl rfl),trivial⟩ (by decide) ⟨.inl rfl,.inl rfl,.inr rfl,trivial⟩ ⟨.inl rfl,.inl rfl,.inr ⟨_,rfl⟩,trivial⟩)) (fun z s B hz h0 hi he=> ?_) (fun z s x rest B z0 z1 z2 hx hy h0 hi hc e1 hB=> ?_)
 ·obtain⟨out,E1⟩:=s
  dsimp only at hi h0
  obtain rfl:out=R:=by simpa using h0
  have hQ:=hQ z E1 hi
  cbv
  rw [he]
  cbv
  exact hQ
 ·obtain⟨out,E1⟩:=s
  dsimp only at hi h0
  have hxm:=hlb x (zqd hx)
  have hx0:=hxm.1
  obtain⟨v,hv⟩:=nmE (elZ ZZ x)
  have hZx:vZ[x.toNat]? =some [.J v]:=by rw [hvZ,hv];exact bh (jZ hx0 hxm.2)
  have hlen:=congrArg List.length h0
  rw [zqe]at hlen
  have hEl:E1.length≤1048576:=by rw [hi,af];omega
  have h3:(out++[v])++rest.map (elZ ZZ)=R:=by rw [←h0,hv];simp
  have aE:E1++[[.J v]]=vw ao (out++[v]):=by rw [hi,bA];rfl
  obtain⟨E2,hE2⟩:∃E2,E2=E1++[[.J v]]:=⟨_,rfl⟩
  rw [←hE2]at aE
  have pE2:aj E2=true:=by rw [aE];exact ag _ _
  clear hlen hv hxm hR
  cbv
  rw [hc]
  cbv
  ((repeat'((first|rw [e1]|refine goX hg _ z0 hy rfl ?_|refine goX hg _ hx0 hZx rfl ?_|refine dl hg rfl (by decide) hEl ?_;cbv;rw [gG hg,←hE2]);cbv)))
  exact hB ((out++[v],E2)) _ _ ⟨h3,aE⟩ (Wk.weak (wkM [some 0,none,none,some 3,some 4,some 5,some 6,some 7,some 8,some 9,some 10,some 11,some 14] ⟨rfl,rfl,rfl,rfl,rfl,rfl,rfl,rfl,rfl,rfl,rfl,rfl,rfl,rfl,rfl,rfl,rfl,rfl,rfl,rfl,trivial⟩ ⟨.inr ⟨_,_,rfl,rfl,rfl,rfl,.inr ⟨⟨rfl,rfl,rfl,rfl,rfl,trivial⟩,trivial⟩⟩,.inl rfl,.inl rfl,.inr (wqE rfl rfl),.inr (wqE rfl rfl),.inr (wqE rfl rfl),.inr (wqE rfl rfl),.inr (wqE rfl pM),.inr (wqE rfl pA),.inr (wqE rfl rfl),.inr ⟨_,_,rfl,rfl,rfl,rfl,.inr ⟨⟨rfl,rfl,rfl,rfl,trivial⟩,trivial⟩⟩,.inr (wqE rfl pE),.inr (wqE rfl pE2),trivial⟩ (by decide) ⟨.inl rfl,.inl rfl,.inr rfl,trivial⟩ ⟨.inl rfl,.inl rfl,.inr ⟨_,rfl⟩,trivial⟩))
theorem BX{g:Gd}(hg:g= @G0 bp0 prog 3 f259.ntmps){Q:Exit→List (Nat×AV)→EH→Prop}(V:LLA)(rtl keeps:Bool)(n:Int)(s0:ar)(row:Bool)(al ac:aw)(KW w0 w1 h0' h1':Int)(K M A0:LLA)(pM:aj M=true)(pA:aj A0=true)(IN GP AC':Int)(vI vL vZ vS vC vT:LLA)(fl ft fr fb:Int)(zo:Int)(wd hgh iw ih:aw)(kids:List Int)(hK:K=vw ao kids)(ZZ CC ST PS:List Int)(S1:List av)(hvZ:vZ=vw ao ZZ)(hvC:vC=vw ao CC)(hvT:vT=vw ao ST)(hvS:vS=vw av.c S1)(vP:LLA)(hvP:vP=vw ao PS)
  (hzl:ZZ.length=kids.length) (hsl:S1.length=kids.length) (hf:nL s0=⟨fl,ft,fr,fb⟩) (z0':0≤zo) (c:Int) (hcc:CC[zo.toNat]? =some c) (st:Int) (hst:ST[zo.toNat]? =some st) (lb:Int) (l:List Int) (hPl:PS.length=l.length) (L vW:LLA) (hL:L=vw ao l) (hvW:vW=vw ao (l.map (elZ ZZ))) (hll:l.length≤1048576) (done:List aV) (hld:l=ixs done.length l.length) (hle:done.length+l.length≤kids.length)
  (E:LLA) (hE:E=vw aV.c (done++List.replicate (kids.length-done.length) ⟨0,0,0,0,0⟩))
  (hQ:∀(z:Int)(E:LLA)(D:List aV),D=done++qY ⟨s0,row,wd,hgh,iw,ih,al,ac,kids⟩ rtl IN AC' ZZ S1 (elZ ST zo) c lb PS 0 l→E=vw aV.c (D++List.replicate (kids.length-D.length) ⟨0,0,0,0,0⟩)→Q (.exit 4) [(150,.t (abl (false))),(149,.i (g .ln L)),(148,.v L),(147,.i (z)),(0,.p 0),(5,.p 3),(6,.p 4),(7,.p 5),(8,.p 6),(9,.v vI),(10,.v vZ),(11,.i (IN)),(12,.i (GP)),(13,.v vL),(14,.v vS),(15,.v vC),(16,.i (AC')),(18,.v vT),(19,.p 9),(20,.p 10),(21,.i (zo)),(22,.v L),(23,.v vW),(25,.v vP),(26,.i (lb)),(27,.i (z))] [.bx 79 5 [.view V,.B rtl,.B keeps,.own 7,.own 8],.gn,.gn,.bx 89 68 (nwL n s0 row al ac KW (.view K)),.bx 28 2 [.J w0,.J w1],.bx 28 2 [.J h0',.J h1'],.bx 64 4 [.J 0,.J 0,.J 0,.N],.rw ⟨199,10,M⟩,.rw ⟨206,6,A0⟩,.bx 85 4 [.J fl,.J ft,.J fr,.J fb],.bx 64 4 [.J 0,.J 0,.J 0,.own 11],.rw ⟨45,5,E⟩]):
  g .L (lO (aK f259) 2) Q [(0,.p 0),(5,.p 3),(6,.p 4),(7,.p 5),(8,.p 6),(9,.v vI),(10,.v vZ),(11,.i (IN)),(12,.i (GP)),(13,.v vL),(14,.v vS),(15,.v vC),(16,.i (AC')),(18,.v vT),(19,.p 9),(20,.p 10),(21,.i (zo)),(22,.v L),(23,.v vW),(25,.v vP),(26,.i (lb)),(27,.i (0))] [.bx 79 5 [.view V,.B rtl,.B keeps,.own 7,.own 8],.gn,.gn,.bx 89 68 (nwL n s0 row al ac KW (.view K)),.bx 28 2 [.J w0,.J w1],.bx 28 2 [.J h0',.J h1'],.bx 64 4 [.J 0,.J 0,.J 0,.N],.rw ⟨199,10,M⟩,.rw ⟨206,6,A0⟩,.bx 85 4 [.J fl,.J ft,.J fr,.J fb],.bx 64 4 [.J 0,.J 0,.J 0,.own 11],.rw ⟨45,5,E⟩]:=by
 obtain⟨q,hq⟩:∃q:Pl,q=⟨s0,row,wd,hgh,iw,ih,al,ac,kids⟩:=⟨_,rfl⟩
 rw [←hq]at hQ
 obtain⟨D1,hD1⟩:=nmE (done++qY q rtl IN AC' ZZ S1 (elZ ST zo) c lb PS 0 l)
 have hDl:D1.length=done.length+l.length:=by rw [hD1,zqe,lK]
 have hQ:=fun z E=>hQ z E D1 hD1
 have h00:(done++qY q rtl IN AC' ZZ S1 (elZ ST zo) c lb PS 0 l,ixs 0 done.length++l)=(D1,ixs 0 D1.length):=Prod.ext hD1.symm (by show ixs 0 done.length++l=ixs 0 D1.length;rw [hDl,jx,Int.zero_add,←hld])
 have hCz:vC[zo.toNat]? =some [.J c]:=by rw [hvC];exact bh hcc
 have hTz:vT[zo.toNat]? =some [.J st]:=by rw [hvT];exact bh hst
 have hse:elZ ST zo=st:=by have:=nP hst;rwa [Int.toNat_of_nonneg z0']at this
 rw [hse]at h00
 have pE0:aj E=true:=by rw [hE];exact ag _ _
 have hPx:∀{i:Nat}{v:Int},PS[i]? =some v→vP[i]? =some [.J v]:=fun h=>by rw [hvP];exact bh h
 have hWx:∀{i:Nat}{v:Int},l[i]? =some v→vW[i]? =some [.J (elZ ZZ v)]:=fun h=>by rw [hvW];exact bh (by rw [zqi,h];rfl)
 have cMB:=kx s0 rtl
 have cCB:=jO s0 rtl
 obtain⟨mb,hmb⟩:=nmE (kO s0 rtl);(try rw [←hmb]at cMB)
 obtain⟨cb,hcb⟩:=nmE (ll s0 rtl);(try rw [←hcb]at cCB)
 clear hld hcc hD1 hst hse
 refine aY hg aD (by kernel_rfl) L (fun x=>lc (ao x)) l hL hll (fun z(s:Int×List aV×LLA)=>[(0,.p 0),(5,.p 3),(6,.p 4),(7,.p 5),(8,.p 6),(9,.v vI),(10,.v vZ),(11,.i (IN)),(12,.i (GP)),(13,.v vL),(14,.v vS),(15,.v vC),(16,.i (AC')),(18,.v vT),(19,.p 9),(20,.p 10),(21,.i (zo)),(22,.v L),(23,.v vW),(25,.v vP),(26,.i (lb)),(27,.i (z))]) (fun z(s:Int×List aV×LLA)=>[.bx 79 5 [.view V,.B rtl,.B keeps,.own 7,.own 8],.gn,.gn,.bx 89 68 (nwL n s0 row al ac KW (.view K)),.bx 28 2 [.J w0,.J w1],.bx 28 2 [.J h0',.J h1'],.bx 64 4 [.J 0,.J 0,.J 0,.N],.rw ⟨199,10,M⟩,.rw ⟨206,6,A0⟩,.bx 85 4 [.J fl,.J ft,.J fr,.J fb],.bx 64 4 [.J 0,.J 0,.J 0,.own 11],.rw ⟨45,5,s.2.2⟩]) (fun z(s:Int×List aV×LLA)=>s.1=z∧s.2.2=vw aV.c (s.2.1++List.replicate (kids.length-s.2.1.length) ⟨0,0,0,0,0⟩)) (fun(s:Int×List aV×LLA) rest=>(s.2.1++qY q rtl IN AC' ZZ S1 st c lb PS s.1 rest,ixs 0 s.2.1.length++rest)) ((D1,ixs 0 D1.length)) (0,done,E) h00 ⟨rfl,hE⟩ (Wk.weak (wkM [some 0,none,none,some 3,some 4,some 5,some 6,some 7,some 8,some 9,some 10,some 11] ⟨rfl,rfl,rfl,rfl,rfl,rfl,rfl,rfl,rfl,rfl,rfl,rfl,rfl,rfl,rfl,rfl,rfl,rfl,rfl,rfl,rfl,rfl,trivial⟩ ⟨.inr ⟨_,_,rfl,rfl,rfl,rfl,.inr ⟨⟨rfl,rfl,rfl,rfl,rfl,trivial⟩,trivial⟩⟩,.inl rfl,.inl rfl,.inr (wqE rfl rfl),.inr (wqE rfl rfl),.inr (wqE rfl rfl),.inr (wqE rfl rfl),.inr (wqE rfl pM),.inr (wqE rfl pA),.inr (wqE rfl rfl),.inr ⟨_,_,rfl,rfl,rfl,rfl,.inr ⟨⟨rfl,rfl,rfl,rfl,trivial⟩,trivial⟩⟩,.inr (wqE rfl pE0),trivial⟩ (by decide) ⟨.inl rfl,.inl rfl,.inr rfl,trivial⟩ ⟨.inl rfl,.inl rfl,.inr ⟨_,rfl⟩,trivial⟩)) (fun z s B hz h0 hi he=> ?_) (fun z s x rest B z0 z1 z2 hx hy h0 hi hc e1 hB=> ?_)
 ·obtain⟨j,D,E1⟩:=s
  obtain⟨i1,i2⟩:=hi
  obtain⟨h01,h02⟩:=Prod.mk.inj h0
  dsimp only at i1 i2
  obtain rfl:D=D1:=by simpa [qY]using h01
  have hQ:=hQ z E1 i2
  cbv
  rw [he]
  cbv
  exact hQ
 ·obtain⟨j,D,E1⟩:=s
  obtain⟨i1,i2⟩:=hi
  obtain⟨h01,h02⟩:=Prod.mk.inj h0
  dsimp only at i1 i2 h01 h02 hy
  subst i1
  have hDl2:D.length<D1.length:=by have:=congrArg List.length h01;simp [qY]at this;omega
  have hxD:x=(D.length:Int):=by
   have e:=congrArg (fun l=>l[D.length]?) h02
   simp only [zqg (show(ixs 0 D.length).length≤D.length by rw [bW];exact Nat.le_refl _),bW,Nat.sub_self,zqw]at e
   rw [vH _ _ _ hDl2]at e
   simpa using e
  have hx0:0≤x:=by omega
  have hxt:x.toNat=D.length:=by omega
  have hSl:D.length<S1.length:=by omega
  obtain⟨sd,hsd⟩:∃sd,S1[x.toNat]? =some sd:=⟨_,zqc (by omega)⟩
  obtain⟨kd,hkd⟩:∃kd,kids[x.toNat]? =some kd:=⟨_,zqc (by omega)⟩
  obtain⟨zz,hzz⟩:∃zz,ZZ[x.toNat]? =some zz:=⟨_,zqc (by omega)⟩
  have hjl:j.toNat<l.length:=(List.getElem?_eq_some_iff.1 hx).1
  obtain⟨pj,hpjd⟩:∃v,PS[j.toNat]? =some v:=⟨_,zqc (by omega)⟩
  have hpj:elZ PS j=pj:=by have:=nP hpjd;rwa [Int.toNat_of_nonneg z0]at this
  have hPj:=hPx hpjd
  have e3:elZ ZZ x=zz:=by have:=nP hzz;rwa [Int.toNat_of_nonneg hx0]at this
  have hWj:=hWx hx
  rw [e3]at hWj
  have hKx:K[x.toNat]? =some [.J kd]:=by rw [hK];exact bh hkd
  have hSx:vS[x.toNat]? =some (lc (av.c sd)):=by rw [hvS];exact bh hsd
  have hrp:List.replicate (kids.length-D.length) (⟨0,0,0,0,0⟩:aV)=⟨0,0,0,0,0⟩::List.replicate (kids.length-(D.length+1)) ⟨0,0,0,0,0⟩:=by
   rw [show kids.length-D.length=(kids.length-(D.length+1))+1 by omega,List.replicate_succ]
  have hxE:x<bg E1:=by rw [i2,aN];simp;omega
  have hE1x:E1[x.toNat]? =some (lc (aV.c ⟨0,0,0,0,0⟩)):=by rw [i2];exact bh (by rw [zqg (by omega),hxt,Nat.sub_self,hrp];rfl)
  have hset:∀v,E1.set x.toNat (lc (aV.c v))=vw aV.c ((D++[v])++List.replicate (kids.length-(D++[v]).length) ⟨0,0,0,0,0⟩):=fun v=>by
   rw [i2,hxt,mi,List.set_append_right _ _ (Nat.le_refl _),Nat.sub_self,hrp,List.set_cons_zero,zqe,zqm,zqC];rfl
  have e2:elZ kids x=kd:=by have:=nP hkd;rwa [Int.toNat_of_nonneg hx0]at this
  have cM1:=kv IN pj zz mb
  obtain⟨a1,ha1⟩:=nmE (CT IN pj zz mb);(try rw [←ha1]at cM1)
  have cP:=mX sd c lb
  obtain⟨pa,hpa⟩:=nmE (DN sd c lb);(try rw [←hpa]at cP)
  obtain⟨sp,hsp⟩:=nmE (wrap64 (st+pa))
  have cM2:=kv AC' sp sd.size cb
  obtain⟨b1,hb1⟩:=nmE (CT AC' sp sd.size cb);(try rw [←hb1]at cM2)
  obtain⟨X1,hX1⟩:=nmE (wrap64 (b1+fl))
  obtain⟨X2,hX2⟩:=nmE (wrap64 (a1+ft))
  obtain⟨X3,hX3⟩:=nmE (wrap64 (a1+fl))
  obtain⟨X4,hX4⟩:=nmE (wrap64 (b1+ft))
  have hfm:D3 q rtl IN AC' ZZ S1 st c lb pj x=if row then⟨kd,X3,X4,zz,sd.size⟩else⟨kd,X1,X2,sd.size,zz⟩:=by
   rw [hX1,hX2,hX3,hX4,hb1,hsp,hpa,ha1,hmb,hcb,hq]
   unfold D3
   dsimp only
   rw [vk hx0 hsd,e2,e3,hf]
  obtain⟨fm,hfm2⟩:=nmE (D3 q rtl IN AC' ZZ S1 st c lb pj x)
  rw [←hfm2]at hfm
  have h3:((D++[fm])++qY q rtl IN AC' ZZ S1 st c lb PS (j+1) rest,ixs 0 (D++[fm]).length++rest)=(D1,ixs 0 D1.length):=Prod.ext (by rw [←h01,hfm2,←hpj];simp [qY]) (by
   show ixs 0 (D++[fm]).length++rest=ixs 0 D1.length
   rw [←h02,zqe,zqm,nz,Int.zero_add,←hxD];simp)
  obtain⟨E2,hE2⟩:=nmE (E1.set x.toNat (lc (aV.c fm)))
  have hset:=hset fm
  rw [←hE2]at hset
  have pE2:aj E2=true:=by rw [hset];exact ag _ _
  have t1:g .w .add .i64 st pa=sp:=by rw [aM hg,hsp]
  have t2:g .w .add .i64 fl b1=X1:=by rw [aM hg,hX1,Int.add_comm]
  have t3:g .w .add .i64 ft a1=X2:=by rw [aM hg,hX2,Int.add_comm]
  have t4:g .w .add .i64 fl a1=X3:=by rw [aM hg,hX3,Int.add_comm]
  have t5:g .w .add .i64 ft b1=X4:=by rw [aM hg,hX4,Int.add_comm]
  obtain⟨y0,y1,y2,y3,y4,y5,y6⟩:=sd
  dsimp only at hfm cM2
  clear hxD hDl2 hxt hSl h02 hfm2 hX1 hX2 hX3 hX4 hb1 hsp hpa ha1 hmb hcb hq hf e2 e3 hsd hkd hzz hrp i2 hvZ hvC hvT hvS hvP hK hpj h00 hpjd hjl hvW hPx hWx hPl
  have hSx2:vS[x.toNat]? =some [.J y0,.J y1,.J y2,.B y3,.B y4,.J y5,.J y6]:=hSx
  have hcell:∃e,E1[x.toNat]? =some e∧e.length=5:=⟨_,hE1x,rfl⟩
  clear hE1x
  cases row
  all_goals
   (try simp only [Bool.false_eq_true,if_false]at hfm)
   (try simp only [if_true]at hfm)
   subst hfm
   cbv
   rw [hc]
   cbv
   ((repeat'((first|rw [t1]|rw [t2]|rw [t3]|rw [t4]|rw [t5]|refine ad hg cMB ?_|refine aa hg cMB ?_|refine ad hg cCB ?_|refine aa hg cCB ?_|refine ad hg cM1 ?_|refine aa hg cM1 ?_|refine ad hg cM2 ?_|refine aa hg cM2 ?_|refine ad hg cP ?_|refine aa hg cP ?_|refine goX hg _ z0 hy rfl ?_|refine goX hg _ hx0 hSx2 rfl ?_|refine goX hg _ z0 hPj rfl ?_|refine goX hg _ z0 hWj rfl ?_|refine goX hg _ hx0 hKx rfl ?_|refine goX hg _ z0' hCz rfl ?_|refine goX hg _ z0' hTz rfl ?_);cbv)))
   refine goY hg hx0 hxE fun j2 hj2 hjl2=> ?_
   cbv
   obtain⟨e,he,hel⟩:=hcell
   ((repeat'((first|rw [t1]|rw [t2]|rw [t3]|rw [t4]|rw [t5]|refine goX hg _ z0 hy rfl ?_|refine goX hg _ z0 hWj rfl ?_|refine goX hg _ hx0 hKx rfl ?_);cbv)))
   refine goN hg ⟨_,by rw [hj2];exact he,hel⟩ ?_
   cbv
   rw [mH hg,hj2]
   dsimp only [AT.cells]
   first
    |rw [show E1.set x.toNat [.imm (.int .i64 kd),.imm (.int .i64 X3),.imm (.int .i64 X4),.imm (.int .i64 zz),.imm (.int .i64 y0)]=E2 from hE2.symm]
    |rw [show E1.set x.toNat [.imm (.int .i64 kd),.imm (.int .i64 X1),.imm (.int .i64 X2),.imm (.int .i64 y0),.imm (.int .i64 zz)]=E2 from hE2.symm]
   ((repeat'(rw [e1];cbv)))
   exact hB ((j+1,_,E2)) _ _ ⟨h3,⟨rfl,hset⟩⟩ (Wk.weak (wkM [some 0,none,none,some 3,some 4,some 5,some 6,some 7,some 8,some 9,some 10,some 11] ⟨rfl,rfl,rfl,rfl,rfl,rfl,rfl,rfl,rfl,rfl,rfl,rfl,rfl,rfl,rfl,rfl,rfl,rfl,rfl,rfl,rfl,rfl,trivial⟩ ⟨.inr ⟨_,_,rfl,rfl,rfl,rfl,.inr ⟨⟨rfl,rfl,rfl,rfl,rfl,trivial⟩,trivial⟩⟩,.inl rfl,.inl rfl,.inr (wqE rfl rfl),.inr (wqE rfl rfl),.inr (wqE rfl rfl),.inr (wqE rfl rfl),.inr (wqE rfl pM),.inr (wqE rfl pA),.inr (wqE rfl rfl),.inr ⟨_,_,rfl,rfl,rfl,rfl,.inr ⟨⟨rfl,rfl,rfl,rfl,trivial⟩,trivial⟩⟩,.inr (wqE rfl pE2),trivial⟩ (by decide) ⟨.inl rfl,.inl rfl,.inr rfl,trivial⟩ ⟨.inl rfl,.inl rfl,.inr ⟨_,rfl⟩,trivial⟩))
theorem oT(xs:List ah)(ss:List Int)(gap inner js:Int)(hl:xs.length≤1048576)(hs:ss.length≤1048576):cY prog 355 [.c (.view (vw ah.c xs)),.c (.view (vw ao ss)),ai gap,ai inner,ai js] fun res rows=>∃e:Int,res= .tup [.c (.own 0),ai e]∧rows=[⟨3,1,vw ao (alg xs ss gap inner js)⟩]:=by
 have cK:=u9 xs ss gap inner hl hs
 have cO:=fV xs ss gap hl hs
 have cF:PC0 368 [.c (.view (vw ah.c xs)),.c (.view (vw ao ss)),ai gap,ai inner] (.i (wrap64 (inner-wrap64 (ic xs ss gap)))):=by
  obtain⟨V,hV⟩:=nmE (vw ah.c xs);(try rw [←hV]at cO);(try rw [←hV]at⊢)
  obtain⟨W,hW⟩:=nmE (vw ao ss);(try rw [←hW]at cO);(try rw [←hW]at⊢)
  obtain⟨O,hO⟩:=nmE (wrap64 (ic xs ss gap));(try rw [←hO]at cO);(try rw [←hO]at⊢)
  obtain⟨R,hR⟩:=nmE (wrap64 (inner-O))
  rw [←hR]
  refine ae (aK f368) aD func368 fun g F hg hF=> ?_
  have e:g .w .sub .i64 inner O=R:=by rw [dd hg,hR]
  cbv
  (repeat'((first|rw [e]|refine ad hg cO ?_|refine aa hg cO ?_);cbv))
  exact ba hF rfl
 have cS:=bQ (wrap64 (inner-wrap64 (ic xs ss gap)))
 have cA:=rB xs hl
 have cE:=dN (alF xs ss gap inner) (auN xs)
 have cL:=mZ (alF xs ss gap inner) (xs.length:Int) js
 have cB:=fun(h:(xs.length:Int)≤12)=>jM (alF xs ss gap inner) (xs.length:Int) js (by omega) h
 change PC0 _ _ (.i (alF xs ss gap inner))at cS
 have halg:al5 xs ss gap inner=false→alg xs ss gap inner js=[]:=fun h=>by rw [alg,if_pos h]
 have halg2:al5 xs ss gap inner=true→alg xs ss gap inner js=wi (alE xs ss gap inner) (alS xs (alF xs ss gap inner) js) gap (xs.length:Int) 0 (al0 xs (alF xs ss gap inner) js) 0 (xs.zip ss):=fun h=>by rw [alg,h];rfl
 have hab:=yh xs
 have hok:al5 xs ss gap inner=true→(xs.length:Int)≤12∧ss.length=xs.length:=fun h=>by
  simp only [al5,dT,zqs,zqp]at h;exact⟨h.2.1.2,h.2.2.1⟩
 obtain⟨AL,hAL⟩:=nmE (alg xs ss gap inner js)
 rw [←hAL]at halg halg2⊢
 have hex:alE xs ss gap inner=if 0<auN xs∧0<alF xs ss gap inner then evn (alF xs ss gap inner) (auN xs)else []:=rfl
 have hsp:∀i,alS xs (alF xs ss gap inner) js i=if auN xs=0 then btw (alF xs ss gap inner) (xs.length:Int) js i else 0:=fun _=>rfl
 have ha0:al0 xs (alF xs ss gap inner) js=if auN xs=0 then led (alF xs ss gap inner) (xs.length:Int) js else 0:=rfl
 have hspc:=fun i(h0:0≤i)(h1:i<(xs.length:Int))=>CJ (alF xs ss gap inner) (xs.length:Int) js h0 h1
 obtain⟨D,hD⟩:=nmE (wrap64 (inner-wrap64 (ic xs ss gap)));(try rw [←hD]at cS);(try rw [←hD]at cF)
 obtain⟨EX,hEX⟩:=nmE (alE xs ss gap inner);(try rw [←hEX]at hex);(try rw [←hEX]at halg2)
 obtain⟨SP,hSP⟩:=nmE (alS xs (alF xs ss gap inner) js)
 obtain⟨A0,hA0⟩:=nmE (al0 xs (alF xs ss gap inner) js)
 rw [←hSP]at hsp halg2
 rw [←hA0]at ha0 halg2
 obtain⟨LD,hLD⟩:=nmE (led (alF xs ss gap inner) (xs.length:Int) js);(try rw [←hLD]at cL);(try rw [←hLD]at ha0)
 obtain⟨SC,hSC⟩:=nmE (spc (alF xs ss gap inner) (xs.length:Int) js)
 rw [←hSC]at cB hspc
 obtain⟨BW,hBW⟩:=nmE (btw (alF xs ss gap inner) (xs.length:Int) js)
 rw [←hBW]at hsp hspc
 obtain⟨fr,hfr⟩:=nmE (alF xs ss gap inner);(try rw [←hfr]at cE);(try rw [←hfr]at cL);(try rw [←hfr]at cB);(try rw [←hfr]at hex);(try rw [←hfr]at ha0);(try rw [←hfr]at cS)
 obtain⟨au,hau⟩:=nmE (auN xs);(try rw [←hau]at cA);(try rw [←hau]at cE);(try rw [←hau]at hex);(try rw [←hau]at hsp);(try rw [←hau]at ha0);(try rw [←hau]at hab)
 have hlx:(xs.length:Int)≤1048576:=by omega
 have hln:0≤(xs.length:Int):=by omega
 obtain⟨n,hn⟩:=nmE ((xs.length:Int));(try rw [←hn]at cL);(try rw [←hn]at cB);(try rw [←hn]at halg2);(try rw [←hn]at hok);(try rw [←hn]at hspc);(try rw [←hn]at hlx);(try rw [←hn]at hln);(try rw [←hn]at hab)
 obtain⟨C,hC⟩:=nmE (al5 xs ss gap inner);(try rw [←hC]at cK);(try rw [←hC]at hok);(try rw [←hC]at halg);(try rw [←hC]at halg2)
 have hzl:(xs.zip ss).length≤1048576:=by rw [zqB];omega
 have hz2:= @Dk _ _ xs ss
 have hzv:=FQ (c:=fun x=>lc (ah.c x)) (xs:=xs) (ys:=ss)
 have hzn:ss.length=xs.length→auN ((xs.zip ss).map (·.1))=auN xs:=fun h=>by rw [show(xs.zip ss).map (fun x=>x.1)=xs from by simpa using FQ (c:=fun x=>x) h.symm]
 rw [←hau]at hzn
 obtain⟨zs,hzs⟩:=nmE (xs.zip ss);(try rw [←hzs]at halg2);(try rw [←hzs]at hzl);(try rw [←hzs]at hz2)
 obtain⟨V,hV⟩:=nmE (vw ah.c xs)
 have hVl:V.length=xs.length:=by rw [hV,af]
 have iV:bR V=true:=by rw [hV];exact aG _ _
 have kV:∀y∈V,y.length=9:=by rw [hV];exact bC (c:=ah.c) (k:=9) fun _=>rfl
 have dV:∀y∈V,y.all dat=true:=by rw [hV];exact az
 obtain⟨W,hW⟩:=nmE (vw ao ss)
 have hWl:W.length=ss.length:=by rw [hW,af]
 have iW:bR W=true:=by rw [hW];exact aG _ _
 have kW:∀y∈W,y.length=1:=by rw [hW];exact bC (c:=ao) (k:=1) fun _=>rfl
 have dW:∀y∈W,y.all dat=true:=by rw [hW];exact az
 rw [←hV]at cK cF cA
 rw [←hW]at cK cF
 rw [←hV,←hW]
 have hVx:bg V=n:=by rw [hV,aN,hn]
 refine ae (aK f355) aD func355 fun g F hg hF=> ?_
 cases hC2:C
 ·rw [hC2]at cK
  replace halg:=halg hC2
  cbv
  (repeat'((first|refine ad hg cK ?_|refine aa hg cK ?_);cbv))
  exact B7 hF (.tup [.c (.own 0),ai 0]) [⟨3,1,[]⟩] _ (wkG [some 0] ⟨⟨rfl,rfl,trivial⟩,trivial⟩ ⟨wqE rfl rfl,trivial⟩ (by decide) aI) ⟨0,rfl,by rw [halg];rfl⟩
 rw [hC2]at cK
 replace halg2:=halg2 hC2
 obtain⟨hn12,hqe⟩:=hok hC2
 replace cB:=cB hn12
 replace hzn:=hzn hqe
 replace hV:V=zs.map (fun t=>lc (ah.c t.1)):=by rw [hzs,hzv hqe.symm,hV];rfl
 have t4:g .ln V=n:=by rw [bD hg,hVx]
 rw [←hzs]at hzn
 have t1:g .q .gtr (au) (0)=decide ((0)<(au)):=cj hg _ _
 have t2:g .q .gtr (fr) (0)=decide ((0)<(fr)):=cj hg _ _
 have t3:g .q .eql (au) (0)=decide ((au)=(0)):=by rw [bv hg];exact zqn _ _
 have hLD:au=0→A0=LD:=fun h=>by rw [ha0,if_pos h]
 have hA00:¬au=0→A0=0:=fun h=>by rw [ha0,if_neg h]
 have hEX:∀k:Int,0≤k→k<au→0<au→0<fr→(vw ao (evn fr au))[k.toNat]? =some [.J (elZ EX k)]:=fun k k0 k1 h1 h2=>by
  rw [hex,if_pos ⟨h1,h2⟩]
  exact bh (jZ k0 (by rw [gQ,nN (by omega) (by omega)];exact k1))
 have hEZ:¬(0<au∧0<fr)→∀k:Int,elZ EX k=0:=fun h k=>by rw [hex,if_neg h];exact AI k
 have hSPz:¬au=0→∀i:Int,SP i=0:=fun h i=>by rw [hsp,if_neg h]
 have hSPs:au=0→∀i:Int,0≤i→i+1<n→(vw ao SC)[i.toNat]? =some [.J (SP i)]:=fun h i i0 i1=>by
  have:=hspc i i0 (by omega)
  rw [if_pos i1]at this
  rw [hsp,if_pos h]
  exact bh this
 obtain⟨YE,hYE⟩:=nmE (vw ao (evn fr au));(try rw [←hYE]at cE);(try rw [←hYE]at hEX)
 obtain⟨YS,hYS⟩:=nmE (vw ao SC);(try rw [←hYS]at cB);(try rw [←hYS]at hSPs)
 have kYE:∀y∈YE,y.length=1:=by rw [hYE];exact bC (c:=ao) (k:=1) fun _=>rfl
 have dYE:∀y∈YE,y.all dat=true:=by rw [hYE];exact az
 have kYS:∀y∈YS,y.length=1:=by rw [hYS];exact bC (c:=ao) (k:=1) fun _=>rfl
 have dYS:∀y∈YS,y.all dat=true:=by rw [hYS];exact az
 clear hYE hYS hex hsp ha0 hspc
 cbv
 (repeat'((first|refine ad hg cK ?_|refine aa hg cK ?_|refine ad hg cF ?_|refine aa hg cF ?_|refine ad hg cS ?_|refine aa hg cS ?_|refine ad hg cA ?_|refine aa hg cA ?_);cbv))
 refine mkI hg (by decide) hab.1 (by omega) ?_
 cbv
 generalize hG0:g .rp au _=GZ
 rw [t4]
 refine mkI hg (by decide) hln hlx ?_
 cbv
 generalize hS0:g .rp n _=SZ
 replace hG0:GZ=vw ao (List.replicate au.toNat 0):=by rw [←hG0,yM hg];exact pt ao _ 0
 replace hS0:SZ=vw ao (List.replicate n.toNat 0):=by rw [←hS0,yM hg];exact pt ao _ 0
 have hGZ:∀k:Int,0≤k→k<au→GZ[k.toNat]? =some [.J 0]:=fun k k0 k1=>by rw [hG0];exact bh (c:=ao) (x:=0) (by rw [List.getElem?_replicate,if_pos (by omega)])
 have hSZ:∀k:Int,0≤k→k<n→SZ[k.toNat]? =some [.J 0]:=fun k k0 k1=>by rw [hS0];exact bh (c:=ao) (x:=0) (by rw [List.getElem?_replicate,if_pos (by omega)])
 have kGZ:∀y∈GZ,y.length=1:=by rw [hG0];exact bC (c:=ao) (k:=1) fun _=>rfl
 have dGZ:∀y∈GZ,y.all dat=true:=by rw [hG0];exact az
 have kSZ:∀y∈SZ,y.length=1:=by rw [hS0];exact bC (c:=ao) (k:=1) fun _=>rfl
 have dSZ:∀y∈SZ,y.all dat=true:=by rw [hS0];exact az
 clear hG0 hS0
 have key:∃(GV SV:LLA),(∀k:Int,0≤k→k<au→GV[k.toNat]? =some [.J (elZ EX k)])∧(∀i:Int,0≤i→i+1<n→SV[i.toNat]? =some [.J (SP i)])∧
   ((au=0∧GV=GZ∧SV=YS∧A0=LD)∨(0<au∧¬0<fr∧GV=GZ∧SV=SZ∧A0=0)∨(0<au∧0<fr∧GV=YE∧SV=SZ∧A0=0)):=by
  have h1:¬(0<au∧0<fr)→∀k:Int,0≤k→k<au→GZ[k.toNat]? =some [.J (elZ EX k)]:=fun h k k0 k1=>by rw [hEZ h];exact hGZ k k0 k1
  have h2:¬au=0→∀i:Int,0≤i→i+1<n→SZ[i.toNat]? =some [.J (SP i)]:=fun h i i0 i1=>by rw [hSPz h];exact hSZ i i0 (by omega)
  by_cases ha:au=0
  ·exact⟨GZ,YS,h1 (by omega),hSPs ha,.inl ⟨ha,rfl,rfl,hLD ha⟩⟩
  ·have hp:0<au:=by have:=hab.1;omega
   by_cases hf:0<fr
   ·exact⟨YE,SZ,fun k k0 k1=>hEX k k0 k1 hp hf,h2 ha,.inr (.inr ⟨hp,hf,rfl,rfl,hA00 ha⟩)⟩
   ·exact⟨GZ,SZ,h1 (by omega),h2 ha,.inr (.inl ⟨hp,hf,rfl,rfl,hA00 ha⟩)⟩
 obtain⟨GV,SV,hGV,hSV,hcase⟩:=key
 clear hLD hA00 hEX hEZ hSPz hSPs hGZ hSZ
 rcases hcase with⟨ha,hg1,hs1,hA⟩|⟨ha,hf,hg1,hs1,hA⟩|⟨ha,hf,hg1,hs1,hA⟩
 case' inl=>
  rw [zqt (show¬0<au by omega)]at t1
  rw [zqu ha]at t3
  rw [←hA]at cL
  subst hg1 hs1
  have kGV:=kGZ
  have dGV:=dGZ
  (repeat'((first|rw [t1]|rw [t3]|rw [t4]|refine ad hg cL ?_|refine aa hg cL ?_|refine ad hg cB ?_|refine aa hg cB ?_);cbv))
  refine aY hg aD (by kernel_rfl) V (fun t=>lc (ah.c t.1)) zs hV hzl (fun z(s:Int×Int×List Int×LLA)=>[(0,.v V),(1,.v W),(2,.i (gap)),(12,.o 0),(15,.v GV),(16,.i (s.1)),(17,.v SV),(18,.i (s.2.1)),(19,.i (z))]) (fun z(s:Int×Int×List Int×LLA)=>[.rw ⟨3,1,s.2.2.2⟩]) (fun z(s:Int×Int×List Int×LLA)=>s.2.2.2=vw ao s.2.2.1∧(s.2.2.1.length:Int)=z∧0≤s.2.1) (fun(s:Int×Int×List Int×LLA) rest=>(s.2.2.1++wi EX SP gap n (s.2.2.1.length:Int) s.1 s.2.1 rest,s.2.1+auN (rest.map (fun x=>x.1)))) ((AL,au)) (A0,0,[],[]) (by rw [halg2,←hzn];simp) ⟨rfl,rfl,Int.le_refl 0⟩ (bH (sl1 1 GV) (jb rfl kGV dGV) (Wk.weak (wkG [some 0] ⟨rfl,rfl,rfl,rfl,rfl,rfl,rfl,rfl,rfl,trivial⟩ ⟨wqE rfl rfl,trivial⟩ (by decide) aI))) (fun z s B hz h0 hi he=> ?_) (fun z s x rest B z0 z1 z2 hx hy h0 hi hc e1 hB=> ?_)
 case' inr.inl=>
  rw [zqu ha]at t1
  rw [zqt hf]at t2
  rw [zqt (show¬au=0 by omega)]at t3
  subst hg1 hs1
  have kGV:=kGZ
  have dGV:=dGZ
  have kSV:=kSZ
  have dSV:=dSZ
  (repeat'((first|rw [t1]|rw [t2]|rw [t3]);cbv))
  refine aY hg aD (by kernel_rfl) V (fun t=>lc (ah.c t.1)) zs hV hzl (fun z(s:Int×Int×List Int×LLA)=>[(0,.v V),(1,.v W),(2,.i (gap)),(12,.o 0),(15,.v GV),(16,.i (s.1)),(17,.v SV),(18,.i (s.2.1)),(19,.i (z))]) (fun z(s:Int×Int×List Int×LLA)=>[.rw ⟨3,1,s.2.2.2⟩]) (fun z(s:Int×Int×List Int×LLA)=>s.2.2.2=vw ao s.2.2.1∧(s.2.2.1.length:Int)=z∧0≤s.2.1) (fun(s:Int×Int×List Int×LLA) rest=>(s.2.2.1++wi EX SP gap n (s.2.2.1.length:Int) s.1 s.2.1 rest,s.2.1+auN (rest.map (fun x=>x.1)))) ((AL,au)) (A0,0,[],[]) (by rw [halg2,←hzn];simp) ⟨rfl,rfl,Int.le_refl 0⟩ (bH (sl2 1 2 GV SV) (DF rfl kGV dGV rfl kSV dSV) (Wk.weak (wkG [some 0] ⟨rfl,rfl,rfl,rfl,rfl,by rw [hA];rfl,rfl,rfl,rfl,trivial⟩ ⟨wqE rfl rfl,trivial⟩ (by decide) aI))) (fun z s B hz h0 hi he=> ?_) (fun z s x rest B z0 z1 z2 hx hy h0 hi hc e1 hB=> ?_)
 case' inr.inr=>
  rw [zqu ha]at t1
  rw [zqu hf]at t2
  rw [zqt (show¬au=0 by omega)]at t3
  subst hg1 hs1
  have kGV:=kGZ
  have dGV:=dGZ
  have kSV:=kSZ
  have dSV:=dSZ
  (repeat'((first|rw [t1]|rw [t2]|rw [t3]|refine ad hg cE ?_|refine aa hg cE ?_);cbv))
  refine aY hg aD (by kernel_rfl) V (fun t=>lc (ah.c t.1)) zs hV hzl (fun z(s:Int×Int×List Int×LLA)=>[(0,.v V),(1,.v W),(2,.i (gap)),(12,.o 0),(15,.v GV),(16,.i (s.1)),(17,.v SV),(18,.i (s.2.1)),(19,.i (z))]) (fun z(s:Int×Int×List Int×LLA)=>[.rw ⟨3,1,s.2.2.2⟩]) (fun z(s:Int×Int×List Int×LLA)=>s.2.2.2=vw ao s.2.2.1∧(s.2.2.1.length:Int)=z∧0≤s.2.1) (fun(s:Int×Int×List Int×LLA) rest=>(s.2.2.1++wi EX SP gap n (s.2.2.1.length:Int) s.1 s.2.1 rest,s.2.1+auN (rest.map (fun x=>x.1)))) ((AL,au)) (A0,0,[],[]) (by rw [halg2,←hzn];simp) ⟨rfl,rfl,Int.le_refl 0⟩ (bH (sl1 2 SV) (jb rfl kSV dSV) (Wk.weak (wkG [some 0] ⟨rfl,rfl,rfl,rfl,rfl,by rw [hA];rfl,rfl,rfl,rfl,trivial⟩ ⟨wqE rfl rfl,trivial⟩ (by decide) aI))) (fun z s B hz h0 hi he=> ?_) (fun z s x rest B z0 z1 z2 hx hy h0 hi hc e1 hB=> ?_)
 all_goals try
  have:=he
  obtain⟨a,k,out,E⟩:=s
  obtain⟨i1,i2,i3⟩:=hi
  dsimp only at i1 i2 i3 h0
  have pE:aj E=true:=by rw [i1];exact ag _ _
  obtain rfl:out=AL:=by simpa [wi]using congrArg Prod.fst h0
  cbv;rw [he];cbv
  exact B7 hF (.tup [.c (.own 0),ai a]) [⟨3,1,E⟩] _ (wkG [some 0] ⟨⟨rfl,rfl,trivial⟩,trivial⟩ ⟨wqE rfl pE,trivial⟩ (by decide) aI) ⟨a,rfl,by rw [i1]⟩
 all_goals
  obtain⟨a,k,out,E⟩:=s
  obtain⟨⟨x0,x1,x2,x3,x4,x5,x6,x7,x8⟩,sz⟩:=x
  obtain⟨i1,i2,i3⟩:=hi
  dsimp only at i1 i2 i3 h0 hy
  have h02:=congrArg Prod.snd h0
  have h01:=congrArg Prod.fst h0
  simp only [zqA,auN]at h02
  clear h0
  have hrest:=(yh (rest.map (fun x=>x.1))).1
  have hyW:W[z.toNat]? =some [.J sz]:=by rw [hW];exact bh (hz2 hx)
  have hyG1:x7=true→GV[k.toNat]? =some [.J (elZ EX k)]:=fun h=>hGV k i3 (by rw [h]at h02;simp only [if_true]at h02;split at h02<;>omega)
  have hk1:auK k x7=if x7=true then k+1 else k:=rfl
  have hyG2:x8=true→GV[(auK k x7).toNat]? =some [.J (elZ EX (auK k x7))]:=fun h=>hGV _ (by rw [hk1];split<;>omega) (by rw [h]at h02;rw [hk1];simp only [if_true]at h02;split at h02<;>split<;>simp_all<;>omega)
  have hyS:z+1<n→SV[z.toNat]? =some [.J (SP z)]:=fun h=>hSV z z0 h
  have hEl:E.length≤1048576:=by rw [i1,af];omega
  have hK1t:x7=true→g .w .add .i64 k 1=auK k x7:=fun h=>by rw [h,aM hg];exact wr1 (by omega) (by omega)
  have hK1f:x7=false→auK k x7=k:=fun h=>by rw [h];rfl
  have hkb:0≤auK k x7∧auK k x7≤k+1∧0≤auK (auK k x7) x8:=by unfold auK;split<;>split<;>omega
  have hK2t:x8=true→g .w .add .i64 (auK k x7) 1=auK (auK k x7) x8:=fun h=>by rw [h,aM hg];exact wr1 (by omega) (by omega)
  have hK2f:x8=false→auK (auK k x7) x8=auK k x7:=fun h=>by rw [h];rfl
  obtain⟨P1,hP1⟩:=nmE (Gj EX a k ⟨x0,x1,x2,x3,x4,x5,x6,x7,x8⟩)
  obtain⟨Q,hQ⟩:=nmE (wrap64 (P1+wrap64 (wrap64 (sz+x6)+auT EX (auK k x7) x8)))
  have ha3:out++wi EX SP gap n (out.length:Int) a k ((⟨x0,x1,x2,x3,x4,x5,x6,x7,x8⟩,sz)::rest)=(out++[P1])++wi EX SP gap n (z+1) (if z+1<n then wrap64 (wrap64 (Q+gap)+SP z)else Q) (auK (auK k x7) x8) rest:=by
   rw [i2,hQ,hP1,zqC];rfl
  rw [ha3]at h01
  have nl:((out++[P1]).length:Int)=z+1:=by simp;omega
  have hPt:x7=true→g .w .add .i64 (wrap64 (a+x5)) (elZ EX k)=P1:=fun h=>by rw [aM hg,hP1,h,mI,Int.add_assoc,←si];rfl
  have hPf:x7=false→P1=wrap64 (a+x5):=fun h=>by rw [hP1,h];show wrap64 (a+wrap64 (x5+0))=_;rw [Int.add_zero,si]
  have hQ0:∀e,wrap64 (P1+wrap64 (wrap64 (sz+x6)+e))=wrap64 (wrap64 (wrap64 (P1+sz)+x6)+e):=fun e=>by
   simp only [mI,si];rw [show P1+(sz+x6+e)=P1+sz+x6+e by omega]
  rw [hQ0]at hQ
  have hQt:x8=true→g .w .add .i64 (wrap64 (wrap64 (P1+sz)+x6)) (elZ EX (auK k x7))=Q:=fun h=>by rw [aM hg,hQ,h];rfl
  have hQf:x8=false→Q=wrap64 (wrap64 (P1+sz)+x6):=fun h=>by rw [hQ,h];show wrap64 (wrap64 (wrap64 (P1+sz)+x6)+0)=_;rw [Int.add_zero,uX]
  have eA:g .w .add .i64 a x5=wrap64 (a+x5):=aM hg _ _
  have eB:g .w .add .i64 P1 sz=wrap64 (P1+sz):=aM hg _ _
  have eC:g .w .add .i64 (wrap64 (P1+sz)) x6=wrap64 (wrap64 (P1+sz)+x6):=aM hg _ _
  have eR1:g .w .add .i64 Q gap=wrap64 (Q+gap):=aM hg _ _
  have eR2:g .w .add .i64 (wrap64 (Q+gap)) (SP z)=wrap64 (wrap64 (Q+gap)+SP z):=aM hg _ _
  have t5:g .q .lss (z+1) (g .ln V)=decide (z+1<n):=by rw [bn hg,t4]
  have hrk:auK (auK k x7) x8+auN (rest.map (fun x=>x.1))=au:=by
   rw [←h02];unfold auK;split<;>split<;>omega
  obtain⟨k1,hk1e⟩:=nmE (auK k x7)
  rw [←hk1e]at hyG2 hK1t hK1f hkb hK2t hK2f hQt hrk h01
  obtain⟨k2,hk2e⟩:=nmE (auK k1 x8)
  rw [←hk2e]at hK2t hK2f hkb hrk h01
  obtain⟨G1,hG1⟩:=nmE (elZ EX k)
  obtain⟨G2,hG2⟩:=nmE (elZ EX k1)
  obtain⟨S1,hS1⟩:=nmE (SP z)
  rw [←hG1]at hyG1 hPt
  rw [←hG2]at hyG2 hQt
  rw [←hS1]at hyS eR2 h01
  obtain⟨z3,hz3⟩:=nmE (z+1)
  rw [←hz3]at e1 t5 nl h01 hyS
  have aE:E++[[.J P1]]=vw ao (out++[P1]):=by rw [i1,bA];rfl
  have pE2:aj (E++[[.J P1]])=true:=by rw [aE];exact ag _ _
  obtain⟨E2,hE2⟩:∃E2,E2=E++[[.J P1]]:=⟨_,rfl⟩
  rw [←hE2]at aE pE2
  have hk10:0≤k1:=hkb.1
  clear hk1 h02 hrest hQ hQ0 hP1 ha3 hk1e hk2e hG1 hG2 hS1 hGV hSV
  generalize wrap64 (a+x5)=T1 at *
  generalize wrap64 (wrap64 (P1+sz)+x6)=T3 at *
  generalize wrap64 (P1+sz)=T2 at *
  generalize wrap64 (wrap64 (Q+gap)+S1)=Q3 at *
  generalize wrap64 (Q+gap)=Q2 at *
  cases x7<;>cases x8
  all_goals
   (try obtain rfl:=hPf rfl)
   (try obtain rfl:=hQf rfl)
   (try obtain rfl:=hK1f rfl)
   (try obtain rfl:=hK2f rfl)
   by_cases h5:z3<n
   all_goals
    first|rw [zqu h5]at t5|rw [zqt h5]at t5
    first|rw [if_pos h5]at h01|rw [if_neg h5]at h01
    cbv
    rw [hc]
    cbv
    (repeat'((first|rw [eA]|rw [eB]|rw [eC]|rw [eR1]|rw [eR2]|rw [e1]|rw [t5]|refine goX hg _ (by omega) hy rfl ?_|refine goX hg _ (by omega) hyW rfl ?_|refine goX hg _ i3 (hyG1 rfl) rfl ?_|refine goX hg _ hk10 (hyG2 rfl) rfl ?_|refine goX hg _ z0 (hyS h5) rfl ?_|rw [hPt rfl]|rw [hQt rfl]|rw [hK1t rfl]|rw [hK2t rfl]|refine dl hg rfl (by decide) hEl ?_;cbv;rw [gG hg,←hE2]);cbv))
    subst hz3
    exact hB ((_,k2,out++[P1],E2)) _ _ ⟨(by dsimp only;rw [nl];exact Prod.ext h01 hrk),⟨aE,nl,hkb.2.2⟩⟩ (Wk.weak (wkG [some 2] ⟨rfl,rfl,rfl,rfl,rfl,rfl,rfl,rfl,rfl,trivial⟩ ⟨wqE rfl pE2,trivial⟩ (by decide) aI))
theorem mW(xs:List ah)(ss:List Int)(gap inner js:Int)(hl:xs.length≤1048576)(hs:ss.length≤1048576):cY prog 317 [.c (.view (vw ah.c xs)),.c (.view (vw ao ss)),ai gap,ai inner,ai js] fun res rows=>res= .o 0∧rows=[⟨3,1,vw ao (alg xs ss gap inner js)⟩]:=by
 have cP:=oT xs ss gap inner js hl hs
 obtain⟨V,hV⟩:=nmE (vw ah.c xs);(try rw [←hV]at cP);(try rw [←hV]at⊢)
 obtain⟨W,hW⟩:=nmE (vw ao ss);(try rw [←hW]at cP);(try rw [←hW]at⊢)
 obtain⟨E,hE⟩:=nmE (vw ao (alg xs ss gap inner js));(try rw [←hE]at cP);(try rw [←hE]at⊢)
 have pE:aj E=true:=by rw [hE];exact ag _ _
 refine ae (aK f317) aD func317 fun g F hg hF=> ?_
 cbv
 refine sa hg (fj cP rfl fun res rows hq=> ?_)
 obtain⟨e,rfl,rfl⟩:=hq
 refine⟨[.rw ⟨3,1,E⟩],by simp only [zqA,List.map_nil];rw [show AB.shift _ ⟨3,1,E⟩=(⟨3,1,E⟩:AB)from congrArg (AB.mk _ _) (ix pE)];rfl,?_⟩
 cbv
 exact bP hF rfl pE
end Go.Proofs.YtdnnffbbhijmkaaGreat
