/- A part. -/
import Derived.Test.YtckchgoblpgpbaaGreatJ8az
set_option linter.all false
set_option maxHeartbeats 80000000
namespace Go.Proofs.YtckchgoblpgpbaaGreat
open Go.ChangeShapes Go.WideShapes Go.ChangeAt Go.RowKit Am Go.Proofs.Tryz
set_option maxRecDepth 100000
section
variable {ns:List ae}{n:Int}
variable {rtl keeps:Bool}
variable {Q:Exit->List (Nat×AV)->EH->Prop}
theorem Fp{g:Gd}(hg:g= @G0 bp0 prog 3 f148.ntmps)(V:LLA)(rtl keeps:Bool)(n:Int)(s0:ah)(row:Bool)(al ac:aK)(KW w0 w1 h0' h1':Int)(K M A0:LLA)(pM:ay M=true)(pA:ay A0=true)(IN GP AC':Int)(vI vL vZ vS vC vT:LLA)(fl ft fr fb:Int)(zo:Int)(E:LLA)(pE:ay E=true)(ZZ:List Int)(hvZ:vZ=vw ak ZZ)(l:List Int)(L:LLA)(hL:L=vw ak l)(hll:l.length<=1048576)(hlb:∀i∈l,0<=i/\i<(ZZ.length:Int))
  (hQ:∀(z:Int)(E2:LLA),E2=vw ak (l.map (elZ ZZ))->Q (.exit 2) [(120,.t (abl (false))),(119,.i (g .ln L)),(118,.v L),(117,.i (z)),(0,.p 0),(5,.p 3),(6,.p 4),(7,.p 5),(8,.p 6),(9,.v vI),(10,.v vZ),(11,.i (IN)),(12,.i (GP)),(13,.v vL),(14,.v vS),(15,.v vC),(16,.i (AC')),(18,.v vT),(19,.p 9),(20,.p 10),(21,.i (zo)),(22,.v L),(23,.o 12),(24,.i (z))] [.bx 91 5 [.view V,.B rtl,.B keeps,.own 7,.own 8],.gn,.gn,.bx 180 68 (nwL n s0 row al ac KW (.view K)),.bx 122 2 [.J w0,.J w1],.bx 122 2 [.J h0',.J h1'],.bx 127 4 [.J 0,.J 0,.J 0,.N],.rw ⟨157,10,M⟩,.rw ⟨172,6,A0⟩,.bx 34 4 [.J fl,.J ft,.J fr,.J fb],.bx 127 4 [.J 0,.J 0,.J 0,.own 11],.rw ⟨45,5,E⟩,.rw ⟨3,1,E2⟩]):
  g .L (mZ (jD f148) 1) Q [(0,.p 0),(5,.p 3),(6,.p 4),(7,.p 5),(8,.p 6),(9,.v vI),(10,.v vZ),(11,.i (IN)),(12,.i (GP)),(13,.v vL),(14,.v vS),(15,.v vC),(16,.i (AC')),(18,.v vT),(19,.p 9),(20,.p 10),(21,.i (zo)),(22,.v L),(23,.o 12),(24,.i (0))] [.bx 91 5 [.view V,.B rtl,.B keeps,.own 7,.own 8],.gn,.gn,.bx 180 68 (nwL n s0 row al ac KW (.view K)),.bx 122 2 [.J w0,.J w1],.bx 122 2 [.J h0',.J h1'],.bx 127 4 [.J 0,.J 0,.J 0,.N],.rw ⟨157,10,M⟩,.rw ⟨172,6,A0⟩,.bx 34 4 [.J fl,.J ft,.J fr,.J fb],.bx 127 4 [.J 0,.J 0,.J 0,.own 11],.rw ⟨45,5,E⟩,.rw ⟨3,1,[]⟩]:=by
 obtain⟨R,hR⟩:=nmE (l.map (elZ ZZ))
 rw [<-hR]at hQ
 have hm:R.length<=1048576:=by rw [hR,zql];exact hll
 refine aQ hg bq (by kernel_rfl) L (fun x=>lc (ak x)) l hL hll (fun z(s:List Int×LLA)=>[(0,.p 0),(5,.p 3),(6,.p 4),(7,.p 5),(8,.p 6),(9,.v vI),(10,.v vZ),(11,.i (IN)),(12,.i (GP)),(13,.v vL),(14,.v vS),(15,.v vC),(16,.i (AC')),(18,.v vT),(19,.p 9),(20,.p 10),(21,.i (zo)),(22,.v L),(23,.o 12),(24,.i (z))]) (fun z(s:List Int×LLA)=>[.bx 91 5 [.view V,.B rtl,.B keeps,.own 7,.own 8],.gn,.gn,.bx 180 68 (nwL n s0 row al ac KW (.view K)),.bx 122 2 [.J w0,.J w1],.bx 122 2 [.J h0',.J h1'],.bx 127 4 [.J 0,.J 0,.J 0,.N],.rw ⟨157,10,M⟩,.rw ⟨172,6,A0⟩,.bx 34 4 [.J fl,.J ft,.J fr,.J fb],.bx 127 4 [.J 0,.J 0,.J 0,.own 11],.rw ⟨45,5,E⟩,.rw ⟨3,1,s.2⟩]) (fun z(s:List Int×LLA)=>s.2=vw ak s.1) (fun(s:List Int×LLA) rest=>s.1++rest.map (elZ ZZ)) (R) ([],[]) (by rw [hR];rfl) rfl (Wk.weak (wkM [some 0,none,none,some 3,some 4,some 5,some 6,some 7,some 8,some 9,some 10,some 11,some 12] ⟨rfl,rfl,rfl,rfl,rfl,rfl,rfl,rfl,rfl,rfl,rfl,rfl,rfl,rfl,rfl,rfl,rfl,rfl,rfl,rfl,zpt⟩ ⟨.inr (wqB rfl ⟨zr5,zpt⟩),.inl rfl,.inl rfl,.inr (wqE rfl rfl),.inr (wqE rfl rfl),.inr (wqE rfl rfl),.inr (wqE rfl rfl),.inr (wqE rfl pM),.inr (wqE rfl pA),.inr (wqE rfl rfl),.inr (wqB rfl ⟨zr4,zpt⟩),.inr (wqE rfl pE),.inr (wqE rfl rfl),zpt⟩ (by decide) ⟨.inl rfl,.inl rfl,.inr rfl,zpt⟩ ⟨.inl rfl,.inl rfl,.inr ⟨_,rfl⟩,zpt⟩)) (fun z s B hz h0 hi he=> ?_) (fun z s x rest B z0 z1 z2 hx hy h0 hi hc e1 hB=> ?_)
 ·obtain⟨hb,E1⟩:=s
  dsimp only at hi h0
  obtain rfl:hb=R:=by simpa using h0
  have hQ:=hQ z E1 hi
  cbv
  rw [he]
  cbv
  exact hQ
 ·obtain⟨hb,E1⟩:=s
  dsimp only at hi h0
  have hd:=hlb x (zqd hx)
  have hh:=hd.1
  obtain⟨v,hv⟩:=nmE (elZ ZZ x)
  have hk:vZ[x.toNat]? =some [.J v]:=by rw [hvZ,hv];exact aZ (lq hh hd.2)
  have ha:=congrArg List.length h0
  rw [zqe]at ha
  have hj:E1.length<=1048576:=by rw [hi,ar];omega
  have h3:(hb++[v])++rest.map (elZ ZZ)=R:=by rw [<-h0,hv];simp
  have aE:E1++[[.J v]]=vw ak (hb++[v]):=by rw [hi,bk];rfl
  obtain⟨E2,hf⟩:∃E2,E2=E1++[[.J v]]:=⟨_,rfl⟩
  rw [<-hf]at aE
  have hl:=pmV aE
  clear ha hv hd hR
  cbv
  rw [hc]
  cbv
  ((repeat'((first|rw [e1]|refine goX hg _ z0 hy rfl ?_|refine goX hg _ hh hk rfl ?_|refine dg hg rfl (by decide) hj ?_;cbv;rw [fI hg,<-hf]);cbv)))
  exact hB ((hb++[v],E2)) _ _ ⟨h3,aE⟩ (Wk.weak (wkM [some 0,none,none,some 3,some 4,some 5,some 6,some 7,some 8,some 9,some 10,some 11,some 14] ⟨rfl,rfl,rfl,rfl,rfl,rfl,rfl,rfl,rfl,rfl,rfl,rfl,rfl,rfl,rfl,rfl,rfl,rfl,rfl,rfl,zpt⟩ ⟨.inr (wqB rfl ⟨zr5,zpt⟩),.inl rfl,.inl rfl,.inr (wqE rfl rfl),.inr (wqE rfl rfl),.inr (wqE rfl rfl),.inr (wqE rfl rfl),.inr (wqE rfl pM),.inr (wqE rfl pA),.inr (wqE rfl rfl),.inr (wqB rfl ⟨zr4,zpt⟩),.inr (wqE rfl pE),.inr (wqE rfl hl),zpt⟩ (by decide) ⟨.inl rfl,.inl rfl,.inr rfl,zpt⟩ ⟨.inl rfl,.inl rfl,.inr ⟨_,rfl⟩,zpt⟩))
theorem Fo{g:Gd}(hg:g= @G0 bp0 prog 3 f148.ntmps)(V:LLA)(rtl keeps:Bool)(n:Int)(s0:ah)(row:Bool)(al ac:aK)(KW w0 w1 h0' h1':Int)(K M A0:LLA)(pM:ay M=true)(pA:ay A0=true)(IN GP AC':Int)(vI vL vZ vS vC vT:LLA)(fl ft fr fb:Int)(zo:Int)(wd hgh iw ih:aK)(kids:List Int)(hK:K=vw ak kids)(ZZ CC ST PS:List Int)(S1:List aw)(hvZ:vZ=vw ak ZZ)(hvC:vC=vw ak CC)(hvT:vT=vw ak ST)(hvS:vS=vw aw.c S1)(vP:LLA)(hvP:vP=vw ak PS)
  (hzl:ZZ.length=kids.length) (hsl:S1.length=kids.length) (hf:mz s0=⟨fl,ft,fr,fb⟩) (z0':0<=zo) (c:Int) (hcc:CC[zo.toNat]? =some c) (st:Int) (hst:ST[zo.toNat]? =some st) (lb:Int) (l:List Int) (hPl:PS.length=l.length) (L vW:LLA) (hL:L=vw ak l) (hvW:vW=vw ak (l.map (elZ ZZ))) (hll:l.length<=1048576) (done:List ag) (hld:l=ixs done.length l.length) (hle:done.length+l.length<=kids.length)
  (E:LLA) (hE:E=vw ag.c (done++List.replicate (kids.length-done.length) ⟨0,0,0,0,0⟩))
  (hQ:∀(z:Int)(E:LLA)(D:List ag),D=done++ta ⟨s0,row,wd,hgh,iw,ih,al,ac,kids⟩ rtl IN AC' ZZ S1 (elZ ST zo) c lb PS 0 l->E=vw ag.c (D++List.replicate (kids.length-D.length) ⟨0,0,0,0,0⟩)->Q (.exit 4) [(150,.t (abl (false))),(149,.i (g .ln L)),(148,.v L),(147,.i (z)),(0,.p 0),(5,.p 3),(6,.p 4),(7,.p 5),(8,.p 6),(9,.v vI),(10,.v vZ),(11,.i (IN)),(12,.i (GP)),(13,.v vL),(14,.v vS),(15,.v vC),(16,.i (AC')),(18,.v vT),(19,.p 9),(20,.p 10),(21,.i (zo)),(22,.v L),(23,.v vW),(25,.v vP),(26,.i (lb)),(27,.i (z))] [.bx 91 5 [.view V,.B rtl,.B keeps,.own 7,.own 8],.gn,.gn,.bx 180 68 (nwL n s0 row al ac KW (.view K)),.bx 122 2 [.J w0,.J w1],.bx 122 2 [.J h0',.J h1'],.bx 127 4 [.J 0,.J 0,.J 0,.N],.rw ⟨157,10,M⟩,.rw ⟨172,6,A0⟩,.bx 34 4 [.J fl,.J ft,.J fr,.J fb],.bx 127 4 [.J 0,.J 0,.J 0,.own 11],.rw ⟨45,5,E⟩]):
  g .L (mZ (jD f148) 2) Q [(0,.p 0),(5,.p 3),(6,.p 4),(7,.p 5),(8,.p 6),(9,.v vI),(10,.v vZ),(11,.i (IN)),(12,.i (GP)),(13,.v vL),(14,.v vS),(15,.v vC),(16,.i (AC')),(18,.v vT),(19,.p 9),(20,.p 10),(21,.i (zo)),(22,.v L),(23,.v vW),(25,.v vP),(26,.i (lb)),(27,.i (0))] [.bx 91 5 [.view V,.B rtl,.B keeps,.own 7,.own 8],.gn,.gn,.bx 180 68 (nwL n s0 row al ac KW (.view K)),.bx 122 2 [.J w0,.J w1],.bx 122 2 [.J h0',.J h1'],.bx 127 4 [.J 0,.J 0,.J 0,.N],.rw ⟨157,10,M⟩,.rw ⟨172,6,A0⟩,.bx 34 4 [.J fl,.J ft,.J fr,.J fb],.bx 127 4 [.J 0,.J 0,.J 0,.own 11],.rw ⟨45,5,E⟩]:=by
 obtain⟨q,hq⟩:∃q:Pl,q=⟨s0,row,wd,hgh,iw,ih,al,ac,kids⟩:=⟨_,rfl⟩
 rw [<-hq]at hQ
 obtain⟨D1,hr⟩:=nmE (done++ta q rtl IN AC' ZZ S1 (elZ ST zo) c lb PS 0 l)
 have h6:D1.length=done.length+l.length:=by rw [hr,zqe,mW]
 have hQ:=fun z E=>hQ z E D1 hr
 have hF:(done++ta q rtl IN AC' ZZ S1 (elZ ST zo) c lb PS 0 l,ixs 0 done.length++l)=(D1,ixs 0 D1.length):=Prod.ext hr.symm (by show ixs 0 done.length++l=ixs 0 D1.length;rw [h6,kv,Int.zero_add,<-hld])
 have h5:vC[zo.toNat]? =some [.J c]:=by rw [hvC];exact aZ hcc
 have xa:vT[zo.toNat]? =some [.J st]:=by rw [hvT];exact aZ hst
 have h1:elZ ST zo=st:=by have:=oV hst;rwa [Int.toNat_of_nonneg z0']at this
 rw [h1]at hF
 have xf:=pmV hE
 have hW:∀{i:Nat}{v:Int},PS[i]? =some v->vP[i]? =some [.J v]:=fun h=>by rw [hvP];exact aZ h
 have hX:∀{i:Nat}{v:Int},l[i]? =some v->vW[i]? =some [.J (elZ ZZ v)]:=fun h=>by rw [hvW];exact aZ (by rw [zqi,h];rfl)
 have hD:=lR s0 rtl
 have hA:=k9 s0 rtl
 generalize hv:mc s0 rtl=mb at hD;replace hv:=hv.symm
 generalize hu:mE s0 rtl=cb at hA;replace hu:=hu.symm
 clear hld hcc hr hst h1
 refine aQ hg bq (by kernel_rfl) L (fun x=>lc (ak x)) l hL hll (fun z(s:Int×List ag×LLA)=>[(0,.p 0),(5,.p 3),(6,.p 4),(7,.p 5),(8,.p 6),(9,.v vI),(10,.v vZ),(11,.i (IN)),(12,.i (GP)),(13,.v vL),(14,.v vS),(15,.v vC),(16,.i (AC')),(18,.v vT),(19,.p 9),(20,.p 10),(21,.i (zo)),(22,.v L),(23,.v vW),(25,.v vP),(26,.i (lb)),(27,.i (z))]) (fun z(s:Int×List ag×LLA)=>[.bx 91 5 [.view V,.B rtl,.B keeps,.own 7,.own 8],.gn,.gn,.bx 180 68 (nwL n s0 row al ac KW (.view K)),.bx 122 2 [.J w0,.J w1],.bx 122 2 [.J h0',.J h1'],.bx 127 4 [.J 0,.J 0,.J 0,.N],.rw ⟨157,10,M⟩,.rw ⟨172,6,A0⟩,.bx 34 4 [.J fl,.J ft,.J fr,.J fb],.bx 127 4 [.J 0,.J 0,.J 0,.own 11],.rw ⟨45,5,s.2.2⟩]) (fun z(s:Int×List ag×LLA)=>s.1=z/\s.2.2=vw ag.c (s.2.1++List.replicate (kids.length-s.2.1.length) ⟨0,0,0,0,0⟩)) (fun(s:Int×List ag×LLA) rest=>(s.2.1++ta q rtl IN AC' ZZ S1 st c lb PS s.1 rest,ixs 0 s.2.1.length++rest)) ((D1,ixs 0 D1.length)) (0,done,E) hF ⟨rfl,hE⟩ (Wk.weak (wkM [some 0,none,none,some 3,some 4,some 5,some 6,some 7,some 8,some 9,some 10,some 11] ⟨rfl,rfl,rfl,rfl,rfl,rfl,rfl,rfl,rfl,rfl,rfl,rfl,rfl,rfl,rfl,rfl,rfl,rfl,rfl,rfl,rfl,rfl,zpt⟩ ⟨.inr (wqB rfl ⟨zr5,zpt⟩),.inl rfl,.inl rfl,.inr (wqE rfl rfl),.inr (wqE rfl rfl),.inr (wqE rfl rfl),.inr (wqE rfl rfl),.inr (wqE rfl pM),.inr (wqE rfl pA),.inr (wqE rfl rfl),.inr (wqB rfl ⟨zr4,zpt⟩),.inr (wqE rfl xf),zpt⟩ (by decide) ⟨.inl rfl,.inl rfl,.inr rfl,zpt⟩ ⟨.inl rfl,.inl rfl,.inr ⟨_,rfl⟩,zpt⟩)) (fun z s B hz h0 hi he=> ?_) (fun z s x rest B z0 z1 z2 hx hy h0 hi hc e1 hB=> ?_)
 ·obtain⟨j,D,E1⟩:=s
  obtain⟨i1,i2⟩:=hi
  obtain⟨hj,hk⟩:=Prod.mk.inj h0
  dsimp only at i1 i2
  obtain rfl:D=D1:=by simpa [ta]using hj
  have hQ:=hQ z E1 i2
  cbv
  rw [he]
  cbv
  exact hQ
 ·obtain⟨j,D,E1⟩:=s
  obtain⟨i1,i2⟩:=hi
  obtain⟨hj,hk⟩:=Prod.mk.inj h0
  dsimp only at i1 i2 hj hk hy
  subst i1
  have hl:D.length<D1.length:=by have:=congrArg List.length hj;simp [ta]at this;omega
  have h2:x=(D.length:Int):=by
   have e:=congrArg (fun l=>l[D.length]?) hk
   simp only [zqg (show(ixs 0 D.length).length<=D.length by rw [bX];exact zpk _),bX,Nat.sub_self,zqw]at e
   rw [yd _ _ _ hl]at e
   simpa using e
  have hh:0<=x:=by omega
  have hU:x.toNat=D.length:=by omega
  have h8:D.length<S1.length:=by omega
  obtain⟨sd,hS⟩:∃sd,S1[x.toNat]? =some sd:=⟨_,zqc (by omega)⟩
  obtain⟨kd,hP⟩:∃kd,kids[x.toNat]? =some kd:=⟨_,zqc (by omega)⟩
  obtain⟨zz,h4⟩:∃zz,ZZ[x.toNat]? =some zz:=⟨_,zqc (by omega)⟩
  have xc:j.toNat<l.length:=(zqb.1 hx).1
  obtain⟨pj,hd⟩:∃v,PS[j.toNat]? =some v:=⟨_,zqc (by omega)⟩
  have hZ:elZ PS j=pj:=by have:=oV hd;rwa [Int.toNat_of_nonneg z0]at this
  have h7:=hW hd
  have e3:elZ ZZ x=zz:=by have:=oV h4;rwa [Int.toNat_of_nonneg hh]at this
  have hI:=hX hx
  rw [e3]at hI
  have hV:K[x.toNat]? =some [.J kd]:=by rw [hK];exact aZ hP
  have h9:vS[x.toNat]? =some (lc (aw.c sd)):=by rw [hvS];exact aZ hS
  have hR:List.replicate (kids.length-D.length) (⟨0,0,0,0,0⟩:ag)=⟨0,0,0,0,0⟩::List.replicate (kids.length-(D.length+1)) ⟨0,0,0,0,0⟩:=by
   rw [show kids.length-D.length=(kids.length-(D.length+1))+1 by omega,List.replicate_succ]
  have xe:x<aN E1:=by rw [i2,aU];simp;omega
  have hm:E1[x.toNat]? =some (lc (ag.c ⟨0,0,0,0,0⟩)):=by rw [i2];exact aZ (by rw [zqg (by omega),hU,Nat.sub_self,hR];rfl)
  have ha:∀v,E1.set x.toNat (lc (ag.c v))=vw ag.c ((D++[v])++List.replicate (kids.length-(D++[v]).length) ⟨0,0,0,0,0⟩):=fun v=>by
   rw [i2,hU,ny,List.set_append_right _ _ (zpk _),Nat.sub_self,hR,List.set_cons_zero,zqe,zqm,zqC];rfl
  have e2:elZ kids x=kd:=by have:=oV hP;rwa [Int.toNat_of_nonneg hh]at this
  have hC:=lQ IN pj zz mb
  generalize hs:Gs IN pj zz mb=a1 at hC;replace hs:=hs.symm
  have cP:=nV sd c lb
  generalize hw:Hy sd c lb=pa at cP;replace hw:=hw.symm
  obtain⟨sp,hT⟩:=nmE (wrap64 (st+pa))
  have hp:=lQ AC' sp sd.size cb
  generalize ht:Gs AC' sp sd.size cb=b1 at hp;replace ht:=ht.symm
  obtain⟨X1,hJ⟩:=nmE (wrap64 (b1+fl))
  obtain⟨X2,hM⟩:=nmE (wrap64 (a1+ft))
  obtain⟨X3,hN⟩:=nmE (wrap64 (a1+fl))
  obtain⟨X4,hO⟩:=nmE (wrap64 (b1+ft))
  have ho:HR q rtl IN AC' ZZ S1 st c lb pj x=if row then⟨kd,X3,X4,zz,sd.size⟩else⟨kd,X1,X2,sd.size,zz⟩:=by
   rw [hJ,hM,hN,hO,ht,hT,hw,hs,hv,hu,hq]
   unfold HR
   dsimp only
   rw [xK hh hS,e2,e3,hf]
  obtain⟨fm,hb⟩:=nmE (HR q rtl IN AC' ZZ S1 st c lb pj x)
  rw [<-hb]at ho
  have h3:((D++[fm])++ta q rtl IN AC' ZZ S1 st c lb PS (j+1) rest,ixs 0 (D++[fm]).length++rest)=(D1,ixs 0 D1.length):=Prod.ext (by rw [<-hj,hb,<-hZ];simp [ta]) (by
   show ixs 0 (D++[fm]).length++rest=ixs 0 D1.length
   rw [<-hk,zqe,zqm,oE,Int.zero_add,<-h2];simp)
  obtain⟨E2,hG⟩:=nmE (E1.set x.toNat (lc (ag.c fm)))
  have ha:=ha fm
  rw [<-hG]at ha
  have xg:=pmV ha
  have t1:g .w .add .i64 st pa=sp:=by rw [aG hg,hT]
  have t2:g .w .add .i64 fl b1=X1:=by rw [aG hg,hJ,Int.add_comm]
  have t3:g .w .add .i64 ft a1=X2:=by rw [aG hg,hM,Int.add_comm]
  have t4:g .w .add .i64 fl a1=X3:=by rw [aG hg,hN,Int.add_comm]
  have t5:g .w .add .i64 ft b1=X4:=by rw [aG hg,hO,Int.add_comm]
  obtain⟨y0,y1,y2,y3,y4,y5,y6⟩:=sd
  dsimp only at ho hp
  clear h2 hl hU h8 hk hb hJ hM hN hO ht hT hw hs hv hu hq hf e2 e3 hS hP h4 hR i2 hvZ hvC hvT hvS hvP hK hZ hF hd xc hvW hW hX hPl
  have hH:vS[x.toNat]? =some [.J y0,.J y1,.J y2,.B y3,.B y4,.J y5,.J y6]:=h9
  have hn:∃e,E1[x.toNat]? =some e/\e.length=5:=⟨_,hm,rfl⟩
  clear hm
  cases row
  all_goals
   (try simp only [Bool.false_eq_true,if_false]at ho)
   (try simp only [if_true]at ho)
   subst ho
   cbv
   rw [hc]
   cbv
   ((repeat'((first|rw [t1]|rw [t2]|rw [t3]|rw [t4]|rw [t5]|refine aa hg hD ?_|refine aa hg hA ?_|refine aa hg hC ?_|refine aa hg hp ?_|refine aa hg cP ?_|refine goX hg _ z0 hy rfl ?_|refine goX hg _ hh hH rfl ?_|refine goX hg _ z0 h7 rfl ?_|refine goX hg _ z0 hI rfl ?_|refine goX hg _ hh hV rfl ?_|refine goX hg _ z0' h5 rfl ?_|refine goX hg _ z0' xa rfl ?_);cbv)))
   refine goY hg hh xe fun j2 hY xd=> ?_
   cbv
   obtain⟨e,he,xb⟩:=hn
   ((repeat'(rw [t1];cbv)))
   refine goN hg ⟨_,by rw [hY];exact he,xb⟩ ?_
   cbv
   rw [jC hg,hY]
   dsimp only [AT.cells]
   first
    |rw [show E1.set x.toNat [.imm (.int .i64 kd),.imm (.int .i64 X3),.imm (.int .i64 X4),.imm (.int .i64 zz),.imm (.int .i64 y0)]=E2 from hG.symm]
    |rw [show E1.set x.toNat [.imm (.int .i64 kd),.imm (.int .i64 X1),.imm (.int .i64 X2),.imm (.int .i64 y0),.imm (.int .i64 zz)]=E2 from hG.symm]
   ((repeat'(rw [e1];cbv)))
   exact hB ((j+1,_,E2)) _ _ ⟨h3,⟨rfl,ha⟩⟩ (Wk.weak (wkM [some 0,none,none,some 3,some 4,some 5,some 6,some 7,some 8,some 9,some 10,some 11] ⟨rfl,rfl,rfl,rfl,rfl,rfl,rfl,rfl,rfl,rfl,rfl,rfl,rfl,rfl,rfl,rfl,rfl,rfl,rfl,rfl,rfl,rfl,zpt⟩ ⟨.inr (wqB rfl ⟨zr5,zpt⟩),.inl rfl,.inl rfl,.inr (wqE rfl rfl),.inr (wqE rfl rfl),.inr (wqE rfl rfl),.inr (wqE rfl rfl),.inr (wqE rfl pM),.inr (wqE rfl pA),.inr (wqE rfl rfl),.inr (wqB rfl ⟨zr4,zpt⟩),.inr (wqE rfl xg),zpt⟩ (by decide) ⟨.inl rfl,.inl rfl,.inr rfl,zpt⟩ ⟨.inl rfl,.inl rfl,.inr ⟨_,rfl⟩,zpt⟩))
end
theorem qn(xs:List af)(ss:List Int)(gap inner js:Int)(hl:xs.length<=1048576)(hs:ss.length<=1048576):bS prog 276 [.c (.view (vw af.c xs)),.c (.view (vw ak ss)),ai gap,ai inner,ai js] fun res xo=>∃e:Int,res= .tup [.c (.own 0),ai e]/\xo=[⟨3,1,vw ak (alg xs ss gap inner js)⟩]:=by
 have cK:=xD xs ss gap inner hl hs
 have cO:=gH xs ss gap hl hs
 have cF:PC0 303 [.c (.view (vw af.c xs)),.c (.view (vw ak ss)),ai gap,ai inner] (.i (wrap64 (inner-wrap64 (iz xs ss gap)))):=by
  generalize hV:vw af.c xs=V at cO;replace hV:=hV.symm
  generalize hW:vw ak ss=W at cO;replace hW:=hW.symm
  generalize hO:wrap64 (iz xs ss gap)=O at cO
  obtain⟨R,hR⟩:=nmE (wrap64 (inner-O))
  rw [<-hR]
  refine aV func303 fun g F hg hF=> ?_
  have e:g .w .sub .i64 inner O=R:=by rw [cu hg,hR]
  cbv
  (repeat'((first|rw [e]|refine ad hg cO ?_);cbv))
  exact aO hF rfl
 have cS:=cV (wrap64 (inner-wrap64 (iz xs ss gap)))
 have cA:=tP xs hl
 have cE:=ef (alF xs ss gap inner) (auN xs)
 have cL:=nY (alF xs ss gap inner) (xs.length:Int) js
 have cB:=fun(h:(xs.length:Int)<=12)=>k6 (alF xs ss gap inner) (xs.length:Int) js (by omega) h
 change PC0 _ _ (.i (alF xs ss gap inner))at cS
 have hd:al5 xs ss gap inner=false->alg xs ss gap inner js=[]:=fun h=>by rw [alg,if_pos h]
 have hb:al5 xs ss gap inner=true->alg xs ss gap inner js=yI (alE xs ss gap inner) (alS xs (alF xs ss gap inner) js) gap (xs.length:Int) 0 (al0 xs (alF xs ss gap inner) js) 0 (xs.zip ss):=fun h=>by rw [alg,h];rfl
 have h3:=BF xs
 have xj:al5 xs ss gap inner=true->(xs.length:Int)<=12/\ss.length=xs.length:=fun h=>by
  simp only [al5,er,zqs,zqp]at h;exact⟨h.2.1.2,h.2.2.1⟩
 obtain⟨AL,xO⟩:=nmE (alg xs ss gap inner js)
 rw [<-xO]at hd hb⊢
 have hI:alE xs ss gap inner=if 0<auN xs/\0<alF xs ss gap inner then evn (alF xs ss gap inner) (auN xs)else []:=rfl
 have hJ:∀i,alS xs (alF xs ss gap inner) js i=if auN xs=0 then btw (alF xs ss gap inner) (xs.length:Int) js i else 0:=fun _=>rfl
 have hu:al0 xs (alF xs ss gap inner) js=if auN xs=0 then led (alF xs ss gap inner) (xs.length:Int) js else 0:=rfl
 have hh:=fun i(h0:0<=i)(h1:i<(xs.length:Int))=>Gf (alF xs ss gap inner) (xs.length:Int) js h0 h1
 generalize hD:wrap64 (inner-wrap64 (iz xs ss gap))=D at cS cF
 generalize hE:alE xs ss gap inner=EX at hI hb;replace hE:=hE.symm
 obtain⟨SP,xU⟩:=nmE (alS xs (alF xs ss gap inner) js)
 obtain⟨A0,xN⟩:=nmE (al0 xs (alF xs ss gap inner) js)
 rw [<-xU]at hJ hb
 rw [<-xN]at hu hb
 generalize hM:led (alF xs ss gap inner) (xs.length:Int) js=LD at cL hu;replace hM:=hM.symm
 obtain⟨SC,xT⟩:=nmE (spc (alF xs ss gap inner) (xs.length:Int) js)
 rw [<-xT]at cB hh
 obtain⟨BW,xP⟩:=nmE (btw (alF xs ss gap inner) (xs.length:Int) js)
 rw [<-xP]at hJ hh
 generalize hfr:alF xs ss gap inner=fr at cE cL cB hI hu cS
 generalize xf:auN xs=au at cA cE hI hJ hu h3;replace xf:=xf.symm
 have xG:(xs.length:Int)<=1048576:=by omega
 have xF:0<=(xs.length:Int):=by omega
 generalize hn:(xs.length:Int)=n at cL cB hb xj hh xG xF h3;replace hn:=hn.symm
 generalize hC:al5 xs ss gap inner=C at cK xj hd hb
 have h6:(xs.zip ss).length<=1048576:=by rw [zqB];omega
 have xI:= @G7 _ _ xs ss
 have xX:=J0 (c:=fun x=>lc (af.c x)) (xs:=xs) (ys:=ss)
 have hw:ss.length=xs.length->auN ((xs.zip ss).map (·.1))=auN xs:=fun h=>by rw [show(xs.zip ss).map (fun x=>x.1)=xs from by simpa using J0 (c:=fun x=>x) h.symm]
 rw [<-xf]at hw
 generalize h7:xs.zip ss=zs at hb h6 xI;replace h7:=h7.symm
 obtain⟨V,hV⟩:=nmE (vw af.c xs)
 have xZ:=lmV hV
 obtain⟨W,hW⟩:=nmE (vw ak ss)
 have x9:=lmV hW
 rw [<-hV]at cK cF cA
 rw [<-hW]at cK cF
 rw [<-hV,<-hW]
 have xV:aN V=n:=by rw [hV,aU,hn]
 refine aV func276 fun g F hg hF=> ?_
 cases hC2:C
 ·rw [hC2]at cK
  replace hd:=hd hC2
  cbv
  (repeat'(refine ad hg cK ?_;cbv))
  exact Fv hF (.tup [.c (.own 0),ai 0]) [⟨3,1,[]⟩] _ (wkG [some 0] ⟨zr2,zpt⟩ ⟨wqE rfl rfl,zpt⟩ (by decide) aB) ⟨0,rfl,by rw [hd];rfl⟩
 rw [hC2]at cK
 replace hb:=hb hC2
 obtain⟨xi,xH⟩:=xj hC2
 replace cB:=cB xi
 replace hw:=hw xH
 replace hV:V=zs.map (fun t=>lc (af.c t.1)):=by rw [h7,xX xH.symm,hV];rfl
 have t4:g .ln V=n:=by rw [bz hg,xV]
 rw [<-h7]at hw
 have t1:g .q .gtr (au) (0)=decide ((0)<(au)):=dm hg _ _
 have t2:g .q .gtr (fr) (0)=decide ((0)<(fr)):=dm hg _ _
 have t3:g .q .eql (au) (0)=decide ((au)=(0)):=by rw [bj hg];exact zqn _ _
 have hM:au=0->A0=LD:=fun h=>by rw [hu,if_pos h]
 have ho:¬au=0->A0=0:=fun h=>by rw [hu,if_neg h]
 have hE:∀k:Int,0<=k->k<au->0<au->0<fr->(vw ak (evn fr au))[k.toNat]? =some [.J (elZ EX k)]:=fun k k0 k1 h1 h2=>by
  rw [hI,if_pos ⟨h1,h2⟩]
  exact aZ (lq k0 (by rw [il,oT (by omega) (by omega)];exact k1))
 have xu:¬(0<au/\0<fr)->∀k:Int,elZ EX k=0:=fun h k=>by rw [hI,if_neg h];exact DS k
 have hN:¬au=0->∀i:Int,SP i=0:=fun h i=>by rw [hJ,if_neg h]
 have ht:au=0->∀i:Int,0<=i->i+1<n->(vw ak SC)[i.toNat]? =some [.J (SP i)]:=fun h i i0 i1=>by
  have:=hh i i0 (by omega)
  rw [if_pos i1]at this
  rw [hJ,if_pos h]
  exact aZ this
 generalize xd:vw ak (evn fr au)=YE at cE hE;replace xd:=xd.symm
 generalize xe:vw ak SC=YS at cB ht;replace xe:=xe.symm
 clear xd xe hI hJ hu hh
 cbv
 (repeat'((first|refine ad hg cK ?_|refine ad hg cF ?_|refine ad hg cS ?_|refine ad hg cA ?_);cbv))
 refine mkI hg (by decide) h3.1 (by omega) ?_
 cbv
 generalize hG:g .rp au _=GZ
 rw [t4]
 refine mkI hg (by decide) xF xG ?_
 cbv
 generalize hH:g .rp n _=SZ
 replace hG:GZ=vw ak (List.replicate au.toNat 0):=by rw [<-hG,zy hg];exact rk ak _ 0
 replace hH:SZ=vw ak (List.replicate n.toNat 0):=by rw [<-hH,zy hg];exact rk ak _ 0
 have xx:∀k:Int,0<=k->k<au->GZ[k.toNat]? =some [.J 0]:=fun k k0 k1=>by rw [hG];exact aZ (c:=ak) (x:=0) (by rw [List.getElem?_replicate,if_pos (by omega)])
 have xC:∀k:Int,0<=k->k<n->SZ[k.toNat]? =some [.J 0]:=fun k k0 k1=>by rw [hH];exact aZ (c:=ak) (x:=0) (by rw [List.getElem?_replicate,if_pos (by omega)])
 have xm:=kmV (k:=1) hG fun _=>rfl
 have h9:=dmV hG
 have xK:=kmV (k:=1) hH fun _=>rfl
 have xp:=dmV hH
 clear hG hH
 have xY:∃(GV SV:LLA),(∀k:Int,0<=k->k<au->GV[k.toNat]? =some [.J (elZ EX k)])/\(∀i:Int,0<=i->i+1<n->SV[i.toNat]? =some [.J (SP i)])/\
   ((au=0/\GV=GZ/\SV=YS/\A0=LD)\/(0<au/\¬0<fr/\GV=GZ/\SV=SZ/\A0=0)\/(0<au/\0<fr/\GV=YE/\SV=SZ/\A0=0)):=by
  have h1:¬(0<au/\0<fr)->∀k:Int,0<=k->k<au->GZ[k.toNat]? =some [.J (elZ EX k)]:=fun h k k0 k1=>by rw [xu h];exact xx k k0 k1
  have h2:¬au=0->∀i:Int,0<=i->i+1<n->SZ[i.toNat]? =some [.J (SP i)]:=fun h i i0 i1=>by rw [hN h];exact xC i i0 (by omega)
  by_cases ha:au=0
  ·exact⟨GZ,YS,h1 (by omega),ht ha,.inl ⟨ha,rfl,rfl,hM ha⟩⟩
  ·have hp:0<au:=by have:=h3.1;omega
   by_cases hf:0<fr
   ·exact⟨YE,SZ,fun k k0 k1=>hE k k0 k1 hp hf,h2 ha,.inr (.inr ⟨hp,hf,rfl,rfl,ho ha⟩)⟩
   ·exact⟨GZ,SZ,h1 (by omega),h2 ha,.inr (.inl ⟨hp,hf,rfl,rfl,ho ha⟩)⟩
 obtain⟨GV,SV,xb,xB,hP⟩:=xY
 clear hM ho hE xu hN ht xx xC
 rcases hP with⟨ha,hg1,hs1,hA⟩|⟨ha,hf,hg1,hs1,hA⟩|⟨ha,hf,hg1,hs1,hA⟩
 case' inl=>
  rw [zqt (show¬0<au by omega)]at t1
  rw [zqu ha]at t3
  rw [<-hA]at cL
  subst hg1 hs1
  have h8:=xm
  have hY:=h9
  (repeat'((first|rw [t1]|rw [t3]|rw [t4]|refine ad hg cL ?_|refine ad hg cB ?_);cbv))
  refine aQ hg bq (by kernel_rfl) V (fun t=>lc (af.c t.1)) zs hV h6 (fun z(s:Int×Int×List Int×LLA)=>[(0,.v V),(1,.v W),(2,.i (gap)),(12,.o 0),(15,.v GV),(16,.i (s.1)),(17,.v SV),(18,.i (s.2.1)),(19,.i (z))]) (fun z(s:Int×Int×List Int×LLA)=>[.rw ⟨3,1,s.2.2.2⟩]) (fun z(s:Int×Int×List Int×LLA)=>s.2.2.2=vw ak s.2.2.1/\(s.2.2.1.length:Int)=z/\0<=s.2.1) (fun(s:Int×Int×List Int×LLA) rest=>(s.2.2.1++yI EX SP gap n (s.2.2.1.length:Int) s.1 s.2.1 rest,s.2.1+auN (rest.map (fun x=>x.1)))) ((AL,au)) (A0,0,[],[]) (by rw [hb,<-hw];simp) ⟨rfl,rfl,zpc 0⟩ (bK (sl1 1 GV) (jL rfl h8 hY) (Wk.weak (wkG [some 0] zr9 ⟨wqE rfl rfl,zpt⟩ (by decide) aB))) (fun z s B hz h0 hi he=> ?_) (fun z s x rest B z0 z1 z2 hx hy h0 hi hc e1 hB=> ?_)
 case' inr.inl=>
  rw [zqu ha]at t1
  rw [zqt hf]at t2
  rw [zqt (show¬au=0 by omega)]at t3
  subst hg1 hs1
  have h8:=xm
  have hY:=h9
  have xn:=xK
  have xa:=xp
  (repeat'((first|rw [t1]|rw [t2]|rw [t3]);cbv))
  refine aQ hg bq (by kernel_rfl) V (fun t=>lc (af.c t.1)) zs hV h6 (fun z(s:Int×Int×List Int×LLA)=>[(0,.v V),(1,.v W),(2,.i (gap)),(12,.o 0),(15,.v GV),(16,.i (s.1)),(17,.v SV),(18,.i (s.2.1)),(19,.i (z))]) (fun z(s:Int×Int×List Int×LLA)=>[.rw ⟨3,1,s.2.2.2⟩]) (fun z(s:Int×Int×List Int×LLA)=>s.2.2.2=vw ak s.2.2.1/\(s.2.2.1.length:Int)=z/\0<=s.2.1) (fun(s:Int×Int×List Int×LLA) rest=>(s.2.2.1++yI EX SP gap n (s.2.2.1.length:Int) s.1 s.2.1 rest,s.2.1+auN (rest.map (fun x=>x.1)))) ((AL,au)) (A0,0,[],[]) (by rw [hb,<-hw];simp) ⟨rfl,rfl,zpc 0⟩ (bK (sl2 1 2 GV SV) (Hp rfl h8 hY rfl xn xa) (Wk.weak (wkG [some 0] ⟨rfl,rfl,rfl,rfl,rfl,by rw [hA];rfl,rfl,rfl,rfl,zpt⟩ ⟨wqE rfl rfl,zpt⟩ (by decide) aB))) (fun z s B hz h0 hi he=> ?_) (fun z s x rest B z0 z1 z2 hx hy h0 hi hc e1 hB=> ?_)
 case' inr.inr=>
  rw [zqu ha]at t1
  rw [zqu hf]at t2
  rw [zqt (show¬au=0 by omega)]at t3
  subst hg1 hs1
  have h8:=xm
  have hY:=h9
  have xn:=xK
  have xa:=xp
  (repeat'((first|rw [t1]|rw [t2]|rw [t3]|refine ad hg cE ?_);cbv))
  refine aQ hg bq (by kernel_rfl) V (fun t=>lc (af.c t.1)) zs hV h6 (fun z(s:Int×Int×List Int×LLA)=>[(0,.v V),(1,.v W),(2,.i (gap)),(12,.o 0),(15,.v GV),(16,.i (s.1)),(17,.v SV),(18,.i (s.2.1)),(19,.i (z))]) (fun z(s:Int×Int×List Int×LLA)=>[.rw ⟨3,1,s.2.2.2⟩]) (fun z(s:Int×Int×List Int×LLA)=>s.2.2.2=vw ak s.2.2.1/\(s.2.2.1.length:Int)=z/\0<=s.2.1) (fun(s:Int×Int×List Int×LLA) rest=>(s.2.2.1++yI EX SP gap n (s.2.2.1.length:Int) s.1 s.2.1 rest,s.2.1+auN (rest.map (fun x=>x.1)))) ((AL,au)) (A0,0,[],[]) (by rw [hb,<-hw];simp) ⟨rfl,rfl,zpc 0⟩ (bK (sl1 2 SV) (jL rfl xn xa) (Wk.weak (wkG [some 0] ⟨rfl,rfl,rfl,rfl,rfl,by rw [hA];rfl,rfl,rfl,rfl,zpt⟩ ⟨wqE rfl rfl,zpt⟩ (by decide) aB))) (fun z s B hz h0 hi he=> ?_) (fun z s x rest B z0 z1 z2 hx hy h0 hi hc e1 hB=> ?_)
 all_goals try
  have:=he
  obtain⟨a,k,hm,E⟩:=s
  obtain⟨i1,i2,i3⟩:=hi
  dsimp only at i1 i2 i3 h0
  have pE:=pmV i1
  obtain rfl:hm=AL:=by simpa [yI]using congrArg Prod.fst h0
  cbv;rw [he];cbv
  exact Fv hF (.tup [.c (.own 0),ai a]) [⟨3,1,E⟩] _ (wkG [some 0] ⟨zr2,zpt⟩ ⟨wqE rfl pE,zpt⟩ (by decide) aB) ⟨a,rfl,by rw [i1]⟩
 all_goals
  obtain⟨a,k,hm,E⟩:=s
  obtain⟨⟨x0,x1,x2,x3,x4,x5,x6,x7,x8⟩,sz⟩:=x
  obtain⟨i1,i2,i3⟩:=hi
  dsimp only at i1 i2 i3 h0 hy
  have hj:=congrArg Prod.snd h0
  have hk:=congrArg Prod.fst h0
  simp only [zqA,auN]at hj
  clear h0
  have hU:=(BF (rest.map (fun x=>x.1))).1
  have xW:W[z.toNat]? =some [.J sz]:=by rw [hW];exact aZ (xI hx)
  have hX:x7=true->GV[k.toNat]? =some [.J (elZ EX k)]:=fun h=>xb k i3 (by rw [h]at hj;simp only [if_true]at hj;split at hj<;>omega)
  have xg:auK k x7=if x7=true then k+1 else k:=rfl
  have hv:x8=true->GV[(auK k x7).toNat]? =some [.J (elZ EX (auK k x7))]:=fun h=>xb _ (by rw [xg];split<;>omega) (by rw [h]at hj;rw [xg];simp only [if_true]at hj;split at hj<;>split<;>simp_all<;>omega)
  have xl:z+1<n->SV[z.toNat]? =some [.J (SP z)]:=fun h=>xB z z0 h
  have xQ:E.length<=1048576:=by rw [i1,ar];omega
  have hL:x7=true->g .w .add .i64 k 1=auK k x7:=fun h=>by rw [h,aG hg];exact wr1 (by omega) (by omega)
  have hK:x7=false->auK k x7=k:=fun h=>by rw [h];rfl
  have h4:0<=auK k x7/\auK k x7<=k+1/\0<=auK (auK k x7) x8:=by unfold auK;split<;>split<;>omega
  have hr:x8=true->g .w .add .i64 (auK k x7) 1=auK (auK k x7) x8:=fun h=>by rw [h,aG hg];exact wr1 (by omega) (by omega)
  have hq:x8=false->auK (auK k x7) x8=auK k x7:=fun h=>by rw [h];rfl
  obtain⟨P1,hZ⟩:=nmE (Kl EX a k ⟨x0,x1,x2,x3,x4,x5,x6,x7,x8⟩)
  obtain⟨Q,hQ⟩:=nmE (wrap64 (P1+wrap64 (wrap64 (sz+x6)+auT EX (auK k x7) x8)))
  have xE:hm++yI EX SP gap n (hm.length:Int) a k ((⟨x0,x1,x2,x3,x4,x5,x6,x7,x8⟩,sz)::rest)=(hm++[P1])++yI EX SP gap n (z+1) (if z+1<n then wrap64 (wrap64 (Q+gap)+SP z)else Q) (auK (auK k x7) x8) rest:=by
   rw [i2,hQ,hZ,zqC];rfl
  rw [xE]at hk
  have nl:((hm++[P1]).length:Int)=z+1:=by simp;omega
  have xy:x7=true->g .w .add .i64 (wrap64 (a+x5)) (elZ EX k)=P1:=fun h=>by rw [aG hg,hZ,h,nN,Int.add_assoc,<-uF];rfl
  have xR:x7=false->P1=wrap64 (a+x5):=fun h=>by rw [hZ,h];show wrap64 (a+wrap64 (x5+0))=_;rw [Int.add_zero,uF]
  have xz:∀e,wrap64 (P1+wrap64 (wrap64 (sz+x6)+e))=wrap64 (wrap64 (wrap64 (P1+sz)+x6)+e):=fun e=>by
   simp only [nN,uF];rw [show P1+(sz+x6+e)=P1+sz+x6+e by omega]
  rw [xz]at hQ
  have xc:x8=true->g .w .add .i64 (wrap64 (wrap64 (P1+sz)+x6)) (elZ EX (auK k x7))=Q:=fun h=>by rw [aG hg,hQ,h];rfl
  have xS:x8=false->Q=wrap64 (wrap64 (P1+sz)+x6):=fun h=>by rw [hQ,h];show wrap64 (wrap64 (wrap64 (P1+sz)+x6)+0)=_;rw [Int.add_zero,xt]
  have eA:g .w .add .i64 a x5=wrap64 (a+x5):=aG hg _ _
  have eB:g .w .add .i64 P1 sz=wrap64 (P1+sz):=aG hg _ _
  have eC:g .w .add .i64 (wrap64 (P1+sz)) x6=wrap64 (wrap64 (P1+sz)+x6):=aG hg _ _
  have xM:g .w .add .i64 Q gap=wrap64 (Q+gap):=aG hg _ _
  have xq:g .w .add .i64 (wrap64 (Q+gap)) (SP z)=wrap64 (wrap64 (Q+gap)+SP z):=aG hg _ _
  have t5:g .q .lss (z+1) (g .ln V)=decide (z+1<n):=by rw [ba hg,t4]
  have xk:auK (auK k x7) x8+auN (rest.map (fun x=>x.1))=au:=by
   rw [<-hj];unfold auK;split<;>split<;>omega
  obtain⟨k1,hS⟩:=nmE (auK k x7)
  rw [<-hS]at hv hL hK h4 hr hq xc xk hk
  obtain⟨k2,hT⟩:=nmE (auK k1 x8)
  rw [<-hT]at hr hq h4 xk hk
  obtain⟨G1,xv⟩:=nmE (elZ EX k)
  obtain⟨G2,xw⟩:=nmE (elZ EX k1)
  obtain⟨S1,xA⟩:=nmE (SP z)
  rw [<-xv]at hX xy
  rw [<-xw]at hv xc
  rw [<-xA]at xl xq hk
  obtain⟨z3,xJ⟩:=nmE (z+1)
  rw [<-xJ]at e1 t5 nl hk xl
  have aE:E++[[.J P1]]=vw ak (hm++[P1]):=by rw [i1,bk];rfl
  have xL:ay (E++[[.J P1]])=true:=by rw [aE];exact aD _ _
  obtain⟨E2,xr⟩:∃E2,E2=E++[[.J P1]]:=⟨_,rfl⟩
  rw [<-xr]at aE xL
  have xh:0<=k1:=h4.1
  clear xg hj hU hQ xz hZ xE hS hT xv xw xA xb xB
  generalize wrap64 (a+x5)=T1 at *
  generalize wrap64 (wrap64 (P1+sz)+x6)=T3 at *
  generalize wrap64 (P1+sz)=T2 at *
  generalize wrap64 (wrap64 (Q+gap)+S1)=Q3 at *
  generalize wrap64 (Q+gap)=Q2 at *
  cases x7<;>cases x8
  all_goals
   (try obtain rfl:=xR rfl)
   (try obtain rfl:=xS rfl)
   (try obtain rfl:=hK rfl)
   (try obtain rfl:=hq rfl)
   by_cases h5:z3<n
   all_goals
    first|rw [zqu h5]at t5|rw [zqt h5]at t5
    first|rw [if_pos h5]at hk|rw [if_neg h5]at hk
    cbv
    rw [hc]
    cbv
    (repeat'((first|rw [eA]|rw [eB]|rw [eC]|rw [xM]|rw [xq]|rw [e1]|rw [t5]|refine goX hg _ (by omega) hy rfl ?_|refine goX hg _ (by omega) xW rfl ?_|refine goX hg _ i3 (hX rfl) rfl ?_|refine goX hg _ xh (hv rfl) rfl ?_|refine goX hg _ z0 (xl h5) rfl ?_|rw [xy rfl]|rw [xc rfl]|rw [hL rfl]|rw [hr rfl]|refine dg hg rfl (by decide) xQ ?_;cbv;rw [fI hg,<-xr]);cbv))
    subst xJ
    exact hB ((_,k2,hm++[P1],E2)) _ _ ⟨(by dsimp only;rw [nl];exact Prod.ext hk xk),⟨aE,nl,h4.2.2⟩⟩ (Wk.weak (wkG [some 2] zr9 ⟨wqE rfl xL,zpt⟩ (by decide) aB))
theorem nU(xs:List af)(ss:List Int)(gap inner js:Int)(hl:xs.length<=1048576)(hs:ss.length<=1048576):bS prog 218 [.c (.view (vw af.c xs)),.c (.view (vw ak ss)),ai gap,ai inner,ai js] fun res ha=>res= .o 0/\ha=[⟨3,1,vw ak (alg xs ss gap inner js)⟩]:=by
 have cP:=qn xs ss gap inner js hl hs
 generalize hV:vw af.c xs=V at cP
 generalize hW:vw ak ss=W at cP
 generalize hE:vw ak (alg xs ss gap inner js)=E at cP;replace hE:=hE.symm
 have pE:=pmV hE
 refine aV func218 fun g F hg hF=> ?_
 cbv
 refine sT hg (fO cP rfl fun res ha hq=> ?_)
 obtain⟨e,rfl,rfl⟩:=hq
 refine⟨[.rw ⟨3,1,E⟩],by simp only [zqA,List.map_nil];rw [show AB.shift _ ⟨3,1,E⟩=(⟨3,1,E⟩:AB)from congrArg (AB.mk _ _) (je pE)];rfl,?_⟩
 cbv
 exact bN hF rfl pE
section
variable {xs:List af}
theorem FY{ss:List Int}{gap inner js:Int}(h:al5 xs ss gap inner=true):(alg xs ss gap inner js).length=ss.length:=by
 unfold alg
 rw [if_neg (by rw [h];simp),xh,zqB]
 simp only [al5,zqs,zqp]at h
 omega
theorem Fm{g:Gd}(hg:g= @G0 bp0 prog 3 f148.ntmps){Q:Exit->List (Nat×AV)->EH->Prop}(V:LLA)(rtl keeps:Bool)(n:Int)(s0:ah)(row:Bool)(al ac:aK)(KW w0 w1 h0' h1':Int)(K M A0:LLA)(pM:ay M=true)(pA:ay A0=true)(IN GP AC':Int)(vI vL vZ vS vC vT:LLA)(fl ft fr fb:Int)(wd hgh iw ih:aK)(kids:List Int)(hK:K=vw ak kids)(hkl:kids.length<=1048576)(I:List af)(hvI:vI=vw af.c I)(hIl:I.length=kids.length)(ZZ CC ST:List Int)(S1:List aw)(hvZ:vZ=vw ak ZZ)(hvC:vC=vw ak CC)(hvT:vT=vw ak ST)(hvS:vS=vw aw.c S1)(hTl:ST.length=CC.length)
  (hzl:ZZ.length=kids.length) (hsl:S1.length=kids.length) (hf:mz s0=⟨fl,ft,fr,fb⟩) (hGP:GP=jG s0 row) (LL:List (List Int)) (hH:vL=vwA lnA LL) (hLl:LL.length<=1048576) (hcl:CC.length=LL.length) (hfl:LL.flatten=ixs 0 kids.length) (hal:∀l∈LL,al5 (lit I l) (l.map (elZ ZZ)) GP IN=true)
  (E:LLA) (hE:E=vw ag.c (List.replicate kids.length ⟨0,0,0,0,0⟩))
  (hQ:∀(z:Int)(E:LLA),E=vw ag.c (yh ⟨s0,row,wd,hgh,iw,ih,al,ac,kids⟩ rtl I IN AC' ZZ S1 ST 0 (LL.zip CC))->Q (.exit 0) [(109,.t (abl (false))),(108,.i (g .ln vL)),(107,.v vL),(106,.i (z)),(0,.p 0),(5,.p 3),(6,.p 4),(7,.p 5),(8,.p 6),(9,.v vI),(10,.v vZ),(11,.i (IN)),(12,.i (GP)),(13,.v vL),(14,.v vS),(15,.v vC),(16,.i (AC')),(18,.v vT),(19,.p 9),(20,.p 10),(21,.i (z))] [.bx 91 5 [.view V,.B rtl,.B keeps,.own 7,.own 8],.gn,.gn,.bx 180 68 (nwL n s0 row al ac KW (.view K)),.bx 122 2 [.J w0,.J w1],.bx 122 2 [.J h0',.J h1'],.bx 127 4 [.J 0,.J 0,.J 0,.N],.rw ⟨157,10,M⟩,.rw ⟨172,6,A0⟩,.bx 34 4 [.J fl,.J ft,.J fr,.J fb],.bx 127 4 [.J 0,.J 0,.J 0,.own 11],.rw ⟨45,5,E⟩]):
  g .L (mZ (jD f148) 0) Q [(0,.p 0),(5,.p 3),(6,.p 4),(7,.p 5),(8,.p 6),(9,.v vI),(10,.v vZ),(11,.i (IN)),(12,.i (GP)),(13,.v vL),(14,.v vS),(15,.v vC),(16,.i (AC')),(18,.v vT),(19,.p 9),(20,.p 10),(21,.i (0))] [.bx 91 5 [.view V,.B rtl,.B keeps,.own 7,.own 8],.gn,.gn,.bx 180 68 (nwL n s0 row al ac KW (.view K)),.bx 122 2 [.J w0,.J w1],.bx 122 2 [.J h0',.J h1'],.bx 127 4 [.J 0,.J 0,.J 0,.N],.rw ⟨157,10,M⟩,.rw ⟨172,6,A0⟩,.bx 34 4 [.J fl,.J ft,.J fr,.J fb],.bx 127 4 [.J 0,.J 0,.J 0,.own 11],.rw ⟨45,5,E⟩]:=by
 have hI:vL=(LL.zip CC).map (fun t=>lnA t.1):=by rw [hH];exact qQ hcl
 have hJ:(LL.zip CC).map (·.1)=LL:=fj hcl
 have hp:(LL.zip CC).length<=1048576:=by rw [zqB];exact zpb (Nat.min_le_left ..) hLl
 have ho:=fun{i t} h=>yJ (a:=LL) (b:=CC) (i:=i) (t:=t) h
 have hS:∀l∈LL,∀i∈l,0<=i/\i<(kids.length:Int):=fun l hl i hi=>by
  have:i∈LL.flatten:=List.mem_flatten.2 ⟨l,hl,hi⟩
  rw [hfl,mj]at this
  omega
 obtain⟨qs,hF⟩:=nmE (LL.zip CC)
 rw [<-hF]at hI hJ hp hQ
 simp only [<-hF]at ho
 have hR:(qs.map (·.1)).flatten=ixs 0 kids.length:=by rw [hJ];exact hfl
 obtain⟨q,hq⟩:∃q:Pl,q=⟨s0,row,wd,hgh,iw,ih,al,ac,kids⟩:=⟨_,rfl⟩
 rw [<-hq]at hQ
 obtain⟨D1,hN⟩:=nmE (yh q rtl I IN AC' ZZ S1 ST 0 qs)
 rw [<-hN]at hQ
 have xa:I.length<=1048576:=by omega
 have xb:El q=GP:=by rw [hq,hGP];rfl
 have xc:q.s.justify=s0.justify:=by rw [hq]
 have hu:=fun(zo c st lb:Int)(h1:0<=zo)(h2:CC[zo.toNat]? =some c)(h2':ST[zo.toNat]? =some st) PS vP h3 l h4 L vW h5 h5' h6 done h7 h8 E h9 Q' hQ'=>Fo hg (Q:=Q') V rtl keeps n s0 row al ac KW w0 w1 h0' h1' K M A0 pM pA IN GP AC' vI vL vZ vS vC vT fl ft fr fb zo wd hgh iw ih kids hK ZZ CC ST PS S1 hvZ hvC hvT hvS vP h3 hzl hsl hf h1 c h2 st h2' lb l h4 L vW h5 h5' h6 done h7 h8 E h9 hQ'
 simp only [<-hq]at hu
 replace hH:=hI
 have pE:=pmV hE
 refine aQ hg bq (by kernel_rfl) vL (fun t=>lnA t.1) qs hH hp (fun z(s:Int×List ag×LLA)=>[(0,.p 0),(5,.p 3),(6,.p 4),(7,.p 5),(8,.p 6),(9,.v vI),(10,.v vZ),(11,.i (IN)),(12,.i (GP)),(13,.v vL),(14,.v vS),(15,.v vC),(16,.i (AC')),(18,.v vT),(19,.p 9),(20,.p 10),(21,.i (z))]) (fun z(s:Int×List ag×LLA)=>[.bx 91 5 [.view V,.B rtl,.B keeps,.own 7,.own 8],.gn,.gn,.bx 180 68 (nwL n s0 row al ac KW (.view K)),.bx 122 2 [.J w0,.J w1],.bx 122 2 [.J h0',.J h1'],.bx 127 4 [.J 0,.J 0,.J 0,.N],.rw ⟨157,10,M⟩,.rw ⟨172,6,A0⟩,.bx 34 4 [.J fl,.J ft,.J fr,.J fb],.bx 127 4 [.J 0,.J 0,.J 0,.own 11],.rw ⟨45,5,s.2.2⟩]) (fun z(s:Int×List ag×LLA)=>s.1=z/\s.2.2=vw ag.c (s.2.1++List.replicate (kids.length-s.2.1.length) ⟨0,0,0,0,0⟩)) (fun(s:Int×List ag×LLA) rest=>(s.2.1++yh q rtl I IN AC' ZZ S1 ST s.1 rest,ixs 0 s.2.1.length++(rest.map (·.1)).flatten)) ((D1,ixs 0 kids.length)) (0,[],E) (by rw [hN];exact Prod.ext rfl hR) ⟨rfl,hE⟩ (Wk.weak (wkM [some 0,none,none,some 3,some 4,some 5,some 6,some 7,some 8,some 9,some 10,some 11] ⟨rfl,rfl,rfl,rfl,rfl,rfl,rfl,rfl,rfl,rfl,rfl,rfl,rfl,rfl,rfl,rfl,rfl,zpt⟩ ⟨.inr (wqB rfl ⟨zr5,zpt⟩),.inl rfl,.inl rfl,.inr (wqE rfl rfl),.inr (wqE rfl rfl),.inr (wqE rfl rfl),.inr (wqE rfl rfl),.inr (wqE rfl pM),.inr (wqE rfl pA),.inr (wqE rfl rfl),.inr (wqB rfl ⟨zr4,zpt⟩),.inr (wqE rfl pE),zpt⟩ (by decide) ⟨.inl rfl,.inl rfl,.inr rfl,zpt⟩ ⟨.inl rfl,.inl rfl,.inr ⟨_,rfl⟩,zpt⟩)) (fun z s B hz h0 hi he=> ?_) (fun z s x rest B z0 z1 z2 hx hy h0 hi hc e1 hB=> ?_)
 ·obtain⟨k,D,E1⟩:=s
  obtain⟨i1,i2⟩:=hi
  obtain⟨ht,hj⟩:=Prod.mk.inj h0
  dsimp only at i1 i2
  obtain rfl:D=D1:=by simpa [yh]using ht
  have hY:D.length=kids.length:=by
   have:=congrArg List.length hj
   simpa [bX]using this
  have hQ:=hQ z E1 (by rw [i2,hY,Nat.sub_self,List.replicate_zero,zpr])
  cbv
  rw [he]
  cbv
  exact hQ
 ·obtain⟨k,done,E1⟩:=s
  obtain⟨l,c⟩:=x
  obtain⟨i1,i2⟩:=hi
  obtain⟨ht,hj⟩:=Prod.mk.inj h0
  dsimp only at i1 i2 hy ht hj
  subst i1
  obtain⟨L,hL⟩:=nmE (vw ak l)
  have xg:vL[k.toNat]? =some [.view L]:=by rw [hL];exact hy
  have hG:=oD hj
  rw [bX]at hG
  have hn:=mR (l:=l) (ls:=rest.map (fun t:List Int×Int=>t.1)) hG.2.2
  have hd:l.length<=1048576:=zpb hn.1 (zpb (Nat.sub_le ..) hkl)
  have hA:=zqd (ho hx).1
  have hC:=hS l hA
  have hM:=pmV i2
  have hT:done.length+l.length<=kids.length:=by have:=hn.1;omega
  have hr:=ic I l xa hd
  have hs:=pQ S1 l (by omega) hd (fun i hi=>by have:=hC i hi;omega)
  have hv:=n5 (pck S1 l) (zpb (we S1 l) hd)
  have hm:(l.map (elZ ZZ)).length<=1048576:=by rw [zql];exact hd
  have hh:=nU (lit I l) (l.map (elZ ZZ)) GP IN s0.justify (zpb sm hd) hm
  obtain⟨PS,hw⟩:=nmE (I7 q I IN ZZ l)
  have ha:alg (lit I l) (l.map (elZ ZZ)) GP IN s0.justify=PS:=by rw [hw];unfold I7;rw [xb,xc]
  rw [ha]at hh
  have hP:PS.length=l.length:=by rw [<-ha,FY (hal l hA),zql]
  obtain⟨lb,hb⟩:=nmE (bas (pck S1 l))
  rw [<-hb]at hv
  generalize hLI:vw af.c (lit I l)=LI at hr hh
  generalize hPK:vw aw.c (pck S1 l)=PK at hs hv
  rw [<-hvI,<-hL]at hr
  rw [<-hvS,<-hL]at hs
  obtain⟨W,hW⟩:=nmE (vw ak (l.map (elZ ZZ)))
  have xj:W.length=(l.map (elZ ZZ)).length:=by rw [hW,ar]
  have kW:=kmV (k:=1) hW fun _=>rfl
  have dW:=dmV hW
  rw [<-hW]at hh
  obtain⟨vP,hk⟩:=nmE (vw ak PS)
  have xf:=lmV hk
  have hV:=imV hk
  have xh:=kmV (k:=1) hk fun _=>rfl
  have hX:=dmV hk
  rw [<-hk]at hh
  have xe:∀i∈l,0<=i/\i<(ZZ.length:Int):=fun i hi=>by have:=hC i hi;omega
  have xd:k.toNat<CC.length:=(zqb.1 (ho hx).2).1
  obtain⟨st,hU⟩:∃v,ST[k.toNat]? =some v:=⟨_,zqc (by omega)⟩
  have hu:=hu k c st lb z0 (ho hx).2 hU PS vP hk l hP L W hL hW hd done (by simpa using hn.2.1) hT E1 i2
  have h3:∀D,D=done++ta q rtl IN AC' ZZ S1 (elZ ST k) c lb PS 0 l->(D++yh q rtl I IN AC' ZZ S1 ST (k+1) rest,ixs 0 D.length++(rest.map (·.1)).flatten)=(D1,ixs 0 kids.length):=fun D hD=>Prod.ext (by
   rw [<-ht,hD,hb,hw,zqC];rfl) (by
   show ixs 0 D.length++(rest.map (·.1)).flatten=ixs 0 kids.length
   rw [<-hj,hD,zqe,mW,kv,zqC]
   congr 1
   rw [zqA,List.flatten_cons]
   congr 1
   exact hn.2.1.symm)
  clear hG hn hT hj hR hJ ho hI hq hF hC hS ha hw hb hvI hvS hm hA hal hP xd hU
  cbv
  rw [hc]
  cbv
  refine goX hg _ z0 xg rfl ?_
  cbv
  refine me hg (mZ (jD f148) 1) (by kernel_rfl) [(0,.p 0),(5,.p 3),(6,.p 4),(7,.p 5),(8,.p 6),(9,.v vI),(10,.v vZ),(11,.i (IN)),(12,.i (GP)),(13,.v vL),(14,.v vS),(15,.v vC),(16,.i (AC')),(18,.v vT),(19,.p 9),(20,.p 10),(21,.i (k)),(22,.v L),(23,.o 12),(24,.i (0))] [.bx 91 5 [.view V,.B rtl,.B keeps,.own 7,.own 8],.gn,.gn,.bx 180 68 (nwL n s0 row al ac KW (.view K)),.bx 122 2 [.J w0,.J w1],.bx 122 2 [.J h0',.J h1'],.bx 127 4 [.J 0,.J 0,.J 0,.N],.rw ⟨157,10,M⟩,.rw ⟨172,6,A0⟩,.bx 34 4 [.J fl,.J ft,.J fr,.J fb],.bx 127 4 [.J 0,.J 0,.J 0,.own 11],.rw ⟨45,5,E1⟩,.rw ⟨3,1,[]⟩] (Wk.weak (wkM [some 0,none,none,some 3,some 4,some 5,some 6,some 7,some 8,some 9,some 10,some 11,some 12] ⟨rfl,rfl,rfl,rfl,rfl,rfl,rfl,rfl,rfl,rfl,rfl,rfl,rfl,rfl,rfl,rfl,rfl,rfl,rfl,rfl,zpt⟩ ⟨.inr (wqB rfl ⟨zr5,zpt⟩),.inl rfl,.inl rfl,.inr (wqE rfl rfl),.inr (wqE rfl rfl),.inr (wqE rfl rfl),.inr (wqE rfl rfl),.inr (wqE rfl pM),.inr (wqE rfl pA),.inr (wqE rfl rfl),.inr (wqB rfl ⟨zr4,zpt⟩),.inr (wqE rfl hM),.inr (wqE rfl rfl),zpt⟩ (by decide) ⟨.inl rfl,.inl rfl,.inr rfl,zpt⟩ ⟨.inl rfl,.inl rfl,.inr ⟨_,rfl⟩,zpt⟩)) ?_
  refine Fp hg V rtl keeps n s0 row al ac KW w0 w1 h0' h1' K M A0 pM pA IN GP AC' vI vL vZ vS vC vT fl ft fr fb k E1 hM ZZ hvZ l L hL hd xe fun z2 E2 hZ=> ?_
  obtain rfl:W=E2:=by rw [hZ,hW]
  cbv
  (repeat'((first|refine aa hg hr ?_|refine ad hg hs ?_|refine ad hg hv ?_|refine bU hg hh (aj (av rfl) (aj (aX (ab:=⟨_,_,W⟩) rfl kW dW) (aj (av rfl) (aj (av rfl) (aj (av rfl) (az)))))) hV ?_);cbv))
  refine me hg (mZ (jD f148) 2) (by kernel_rfl) [(0,.p 0),(5,.p 3),(6,.p 4),(7,.p 5),(8,.p 6),(9,.v vI),(10,.v vZ),(11,.i (IN)),(12,.i (GP)),(13,.v vL),(14,.v vS),(15,.v vC),(16,.i (AC')),(18,.v vT),(19,.p 9),(20,.p 10),(21,.i (k)),(22,.v L),(23,.v W),(25,.v vP),(26,.i (lb)),(27,.i (0))] [.bx 91 5 [.view V,.B rtl,.B keeps,.own 7,.own 8],.gn,.gn,.bx 180 68 (nwL n s0 row al ac KW (.view K)),.bx 122 2 [.J w0,.J w1],.bx 122 2 [.J h0',.J h1'],.bx 127 4 [.J 0,.J 0,.J 0,.N],.rw ⟨157,10,M⟩,.rw ⟨172,6,A0⟩,.bx 34 4 [.J fl,.J ft,.J fr,.J fb],.bx 127 4 [.J 0,.J 0,.J 0,.own 11],.rw ⟨45,5,E1⟩] (bK (sl2 12 13 W vP) (Hp rfl kW dW rfl xh hX) (Wk.weak (wkM [some 0,none,none,some 3,some 4,some 5,some 6,some 7,some 8,some 9,some 10,some 11] ⟨rfl,rfl,rfl,rfl,rfl,rfl,rfl,rfl,rfl,rfl,rfl,rfl,rfl,rfl,rfl,rfl,rfl,rfl,rfl,rfl,rfl,rfl,zpt⟩ ⟨.inr (wqB rfl ⟨zr5,zpt⟩),.inl rfl,.inl rfl,.inr (wqE rfl rfl),.inr (wqE rfl rfl),.inr (wqE rfl rfl),.inr (wqE rfl rfl),.inr ⟨_,_,rfl,rfl,rfl,rfl,.inl (bJ pM)⟩,.inr ⟨_,_,rfl,rfl,rfl,rfl,.inl (bJ pA)⟩,.inr (wqE rfl rfl),.inr (wqB rfl ⟨zr4,zpt⟩),.inr ⟨_,_,rfl,rfl,rfl,rfl,.inl (bJ hM)⟩,zpt⟩ (by decide) ⟨.inl rfl,.inl rfl,.inr rfl,zpt⟩ ⟨.inl rfl,.inl rfl,.inr ⟨_,rfl⟩,zpt⟩))) ?_
  refine hu _ fun z3 E3 D hD hO=> ?_
  have xi:=pmV hO
  cbv
  ((repeat'(rw [e1];cbv)))
  skip
  exact hB ((k+1,D,E3)) _ _ ⟨h3 D hD,⟨rfl,hO⟩⟩ (Wk.weak (wkM [some 0,none,none,some 3,some 4,some 5,some 6,some 7,some 8,some 9,some 10,some 11] ⟨rfl,rfl,rfl,rfl,rfl,rfl,rfl,rfl,rfl,rfl,rfl,rfl,rfl,rfl,rfl,rfl,rfl,zpt⟩ ⟨.inr (wqB rfl ⟨zr5,zpt⟩),.inl rfl,.inl rfl,.inr (wqE rfl rfl),.inr (wqE rfl rfl),.inr (wqE rfl rfl),.inr (wqE rfl rfl),.inr (wqE rfl pM),.inr (wqE rfl pA),.inr (wqE rfl rfl),.inr (wqB rfl ⟨zr4,zpt⟩),.inr (wqE rfl xi),zpt⟩ (by decide) ⟨.inl rfl,.inl rfl,.inr rfl,zpt⟩ ⟨.inl rfl,.inl rfl,.inr ⟨_,rfl⟩,zpt⟩))
end
end Go.Proofs.YtckchgoblpgpbaaGreat
