/- The layout without a state. -/
import Derived.Test.YtckchgoblpgpbaaGreatJ5bg
set_option linter.unusedVariables false
set_option linter.unusedSimpArgs false
set_option maxHeartbeats 3200000
namespace Go.Proofs.YtckchgoblpgpbaaGreat
open Go.ChangeShapes Go.WideShapes Go.ChangeAt Go.RowKit Am Go.Proofs.Tryz
set_option maxRecDepth 100000
def szo(G:Bool)(x:ag):Int:=if mO G x then hyp x else x.base
theorem zK(G:Bool):∀(xs:List ag),mix xs (xs.map (mO G)) (xs.map hyp)=xs.map (szo G)
 | []=>rfl
 |x::xs=>by simp only [zqA,mix,zK G xs];rfl
theorem yr{F:List AT->EH->Prop}{eh:EH}{z:LLA}{p:Int}{t r:Nat}{D:List Int}
  (hF:F=mA 0 (fun res h'=>∃rows,h'=rows.map .live/\∃(p:Int),res= .tup [.c (.own 0),.c (.J p)]/\rows=[⟨t,1,vw ak D⟩]))
  (h1:nth eh r=some (.rw ⟨t,1,z⟩)) (hz:z=vw ak D):F [.c (.own r),.c (.J p)] eh:=by
 subst hF hz
 exact .inl ⟨.tup [.c (.own 0),.c (.J p)],toH [.rw ⟨t,1,vw ak D⟩],[some r],
  wkG [some r] ⟨zr2,trivial⟩ ⟨⟨_,_,fL h1,rfl,rfl,rfl,.inl ⟨rfl,aF _ _⟩⟩,trivial⟩ (by simp) aD,_,rfl,p,rfl,rfl⟩
theorem vk(xs:List ag)(gap inner:Int)(hl:xs.length<=1048576):PC0 332 [.c (.view (vw ag.c xs)),ai gap,ai inner] (.t (abl (AQ xs gap inner))):=by
 obtain⟨V,hV⟩:=nmE (vw ag.c xs)
 have ha:=lmV hV
 have iV:=imV hV
 have kV:=kmV (k:=9) hV fun _=>rfl
 have dV:=dmV hV
 have c1:=iT xs hl
 have c2:=gp xs (xs.map hyp) gap hl (by simpa using hl)
 obtain⟨H,hH⟩:=nmE (vw ak (xs.map hyp))
 have iH:=imV hH
 have kH:=kmV (k:=1) hH fun _=>rfl
 have dH:=dmV hH
 obtain⟨O,hO⟩:=nmE (wrap64 (hP xs (xs.map hyp) gap))
 rw [<-hV,<-hH]at c1 c2
 rw [<-hO]at c2
 rw [<-hV]
 refine ae (aJ f332) ay func332 fun g F hg hF=> ?_
 cbv
 first|(refine bE hg c1 (bp rfl) iH ?_;cbv)|(refine bO hg c1 (bp rfl) iH ?_;cbv)
 first|(refine fJ hg c2 (ah (ao rfl) (ah (aZ (ab:=⟨_,_,H⟩) rfl kH dH) (ah (ao rfl) (av)))) rfl ?_;cbv)|(refine dL hg c2 (ah (ao rfl) (ah (aZ (ab:=⟨_,_,H⟩) rfl kH dH) (ah (ao rfl) (av)))) rfl ?_;cbv)
 exact bk hF (by rw [bh hg,AQ,hO])
theorem rB(xs:List ag)(gap inner:Int)(hl:xs.length<=1048576):dc prog 314 [.c (.view (vw ag.c xs)),ai gap,ai inner] fun res hL=>∃(p:Int),res= .tup [.c (.own 0),.c (.J p)]/\hL=[⟨3,1,vw ak (flx xs gap inner)⟩]:=by
 have c1:=iT xs hl
 have c2:=i6 xs hl
 have c3:=vk xs gap inner hl
 have cw:=fun(gr:Bool)(i:Int)(h0:0<=i)(h1:i<xs.length)(c1 c2 c4 c5 c6:AC)=>jX xs gr i h0 h1 c1 c2 c4 c5 c6
 obtain⟨V,hV⟩:=nmE (vw ag.c xs)
 have h6:=lmV hV
 have iV:=imV hV
 have kV:=kmV (k:=9) hV fun _=>rfl
 have dV:=dmV hV
 obtain⟨Z,hZ⟩:=nmE (vw ak (xs.map hyp))
 have iZ:=imV hZ
 have pZ:aC Z=true:=jp iZ
 obtain⟨D,hD⟩:=nmE (flx xs gap inner)
 obtain⟨IO,hw⟩:=nmE (ep xs)
 obtain⟨G,hG⟩:=nmE (AQ xs gap inner)
 simp only [<-hV]at c1 c2 c3 cw
 rw [<-hZ]at c1
 rw [<-hw]at c2
 rw [<-hG]at c3
 rw [<-hV,<-hD]
 obtain⟨HL,hk⟩:=nmE (xs.map (mO G))
 obtain⟨SL,hH⟩:=nmE (xs.map (szo G))
 refine ae (aJ f314) ay func314 fun g F hg hF=> ?_
 cbv
 repeat'(first|(refine bz hg c2 rfl (fun R0 hE=> ?_);cases R0<;>cbv))
 ·first|(refine bE hg c1 (bp rfl) iZ ?_;cbv)|(refine bO hg c1 (bp rfl) iZ ?_;cbv)
  exact yr hF rfl (by rw [hZ,hD,flx,if_neg (by rw [<-hw,<-hE];simp)])
 (first|refine bz hg (bI _ _ _) rfl (fun I1 hm=> ?_)|refine bd hg (bI _ _ _) rfl (fun I1 hm=> ?_));cbv
 cases I1<;>cbv
 ·first|(refine bE hg c1 (bp rfl) iZ ?_;cbv)|(refine bO hg c1 (bp rfl) iZ ?_;cbv)
  exact yr hF rfl (by rw [hZ,hD,flx,if_neg (by rw [inL,<-hm];simp)])
 (first|refine bz hg (bI _ _ _) rfl (fun I2 hv=> ?_)|refine bd hg (bI _ _ _) rfl (fun I2 hv=> ?_));cbv
 cases I2<;>cbv
 ·first|(refine bE hg c1 (bp rfl) iZ ?_;cbv)|(refine bO hg c1 (bp rfl) iZ ?_;cbv)
  exact yr hF rfl (by rw [hZ,hD,flx,if_neg (by rw [inL,inL,<-hm,<-hv];simp)])
 have hI:(ep xs&&inL gap&&inL inner)=true:=by rw [inL,inL,<-hm,<-hv,<-hw,<-hE];rfl
 first|(refine bz hg c3 rfl (fun R hR=> ?_);cbv)|(refine bd hg c3 rfl (fun R hR=> ?_);cbv)
 obtain rfl:G=R:=hR.symm
 refine aY hg ay (by kernel_rfl) V (fun x=>lc (ag.c x)) xs hV hl (fun z(s:Int×(List Bool×List Int)×LLA×LLA)=>[(0,.v V),(8,.p 0),(9,.i (z))]) (fun z(s:Int×(List Bool×List Int)×LLA×LLA)=>[.bx 304 7 [.view V,.J gap,.J inner,.B G,.own 1,.own 2,.J 0],.rw ⟨4,1,s.2.2.1⟩,.rw ⟨3,1,s.2.2.2⟩]) (fun z(s:Int×(List Bool×List Int)×LLA×LLA)=>s.1=z/\s.2.2.1=vw lR s.2.1.1/\s.2.2.2=vw ak s.2.1.2/\(s.2.1.1.length:Int)=z/\(s.2.1.2.length:Int)=z) (fun(s:Int×(List Bool×List Int)×LLA×LLA) rest=>(s.2.1.1++rest.map (mO G),s.2.1.2++rest.map (szo G))) ((HL,SL)) (0,([],[]),[],[]) (by rw [hk,hH];rfl) ⟨rfl,rfl,rfl,rfl,rfl⟩ (Wk.weak (wkG [some 0,none,none] zr3 ⟨⟨_,_,rfl,rfl,rfl,rfl,.inr ⟨zr7,trivial⟩⟩,⟨_,rfl,rfl⟩,⟨_,rfl,rfl⟩,trivial⟩ (by decide) aD)) (fun z s B hz h0 hi he=> ?_) (fun z s x rest B z0 z1 z2 hx hy h0 hi hc e1 hB=> ?_)
 rotate_left
 ·obtain⟨i,⟨H,S⟩,eH,eS⟩:=s
  obtain⟨k1,k2,k3,k4,k5⟩:=hi
  dsimp only at k1 k2 k3 k4 k5 h0
  subst k1
  have hT:aX V=(xs.length:Int):=by rw [hV,aQ]
  have hK:i<(xs.length:Int):=hT▸z1
  have pH:=pmV k2
  have pS:=pmV k3
  have lH:eH.length<=1048576:=by rw [k2,aq];omega
  have lS:eS.length<=1048576:=by rw [k3,aq];omega
  have kH:=kmV (k:=1) k2 fun _=>rfl
  have dH:=dmV k2
  have kS:=kmV (k:=1) k3 fun _=>rfl
  have dS:=dmV k3
  have hs:=fun c1 c2 c4 c5 c6=>cw G i z0 hK c1 c2 c4 c5 c6
  have h3:itA xs i=x:=by unfold itA;rw [hx];rfl
  obtain⟨Q0,hA⟩:=nmE (wgt G (itA xs i))
  simp only [<-hA]at hs
  rw [h3]at hA
  obtain⟨y0,y1,y2,y3,y4,y5,y6,y7,y8⟩:=x
  obtain⟨HV,hh⟩:=nmE (mO G ⟨y0,y1,y2,y3,y4,y5,y6,y7,y8⟩)
  obtain⟨SV,hj⟩:=nmE (szo G ⟨y0,y1,y2,y3,y4,y5,y6,y7,y8⟩)
  have hb:HV=if wgt G ⟨y0,y1,y2,y3,y4,y5,y6,y7,y8⟩=0 then true else if G then decide (hyp ⟨y0,y1,y2,y3,y4,y5,y6,y7,y8⟩<y0)else decide (y0<hyp ⟨y0,y1,y2,y3,y4,y5,y6,y7,y8⟩):=hh
  have hd:SV=if HV then hyp ⟨y0,y1,y2,y3,y4,y5,y6,y7,y8⟩else y0:=by rw [hj,szo,<-hh]
  cbv
  rw [hc]
  cbv
  refine goX hg _ z0 hy rfl ?_
  cbv
  (first|refine ba hg (iA ⟨y0,y1,y2,y3,y4,y5,y6,y7,y8⟩) rfl (fun HY ht=> ?_)|refine aB hg (iA ⟨y0,y1,y2,y3,y4,y5,y6,y7,y8⟩) rfl (fun HY ht=> ?_));cbv
  refine goX hg _ z0 hy rfl ?_
  cbv
  first|refine fJ hg (hs _ _ (.view eH) (.view eS) _) (dp (vB rfl ⟨ao rfl,ao rfl,ao rfl,ao rfl,aZ (ab:=⟨_,_,eH⟩) rfl kH dH,aZ (ab:=⟨_,_,eS⟩) rfl kS dS,ao rfl,trivial⟩) (ah (ao rfl) av)) rfl ?_|refine dL hg (hs _ _ (.view eH) (.view eS) _) (dp (vB rfl ⟨ao rfl,ao rfl,ao rfl,ao rfl,aZ (ab:=⟨_,_,eH⟩) rfl kH dH,aZ (ab:=⟨_,_,eS⟩) rfl kS dS,ao rfl,trivial⟩) (ah (ao rfl) av)) rfl ?_
  cbv
  rw [<-ht,<-hA]at hb
  rw [<-ht]at hd
  have t0:g .q .eql Q0 0=decide (Q0=0):=by rw [bj hg];rfl
  by_cases hq:Q0=0
  ·rw [t0,zqu hq]
   rw [if_pos hq]at hb
   rw [hb,if_pos rfl]at hd
   cbv
   have s1:eH++[[.B (true)]]=vw lR (H++[HV]):=by rw [bv,k2,hb];rfl
   have s2:eS++[[.J HY]]=vw ak (S++[SV]):=by rw [bv,k3,hd];rfl
   refine dg hg rfl (by decide) lH ?_
   cbv
   refine dg hg rfl (by decide) lS ?_
   cbv
   rw [e1]
   simp only [gd hg]
   exact hB ((i+1,(H++[HV],S++[SV]),_,_)) _ _ ⟨(by simpa [hh,hj]using h0),⟨rfl,s1,s2,by simp;omega,by simp;omega⟩⟩ (Wk.weak (wkG [some _,some _,some _] zr3 ⟨⟨_,_,rfl,rfl,rfl,rfl,.inr ⟨zr7,trivial⟩⟩,⟨_,_,rfl,rfl,rfl,rfl,.inl ⟨rfl,s1.symm▸aF _ _⟩⟩,⟨_,_,rfl,rfl,rfl,rfl,.inl ⟨rfl,s2.symm▸aF _ _⟩⟩,trivial⟩ (by decide) aD))
  ·rw [t0,zqt hq]
   rw [if_neg hq]at hb
   cases hGc:G
   ·rw [hGc]at hb
    cbv
    cases hqq:g .q .lss y0 HY
    ·have ha:HV=false:=by rw [hb];rw [bh hg]at hqq;exact hqq
     rw [ha]at hd
     cbv
     have s1:eH++[[.B (false)]]=vw lR (H++[HV]):=by rw [bv,k2,ha];rfl
     have s2:eS++[[.J y0]]=vw ak (S++[SV]):=by rw [bv,k3,hd];rfl
     refine dg hg rfl (by decide) lH ?_
     cbv
     refine dg hg rfl (by decide) lS ?_
     cbv
     rw [e1]
     simp only [gd hg]
     exact hB ((i+1,(H++[HV],S++[SV]),_,_)) _ _ ⟨(by simpa [hh,hj]using h0),⟨rfl,s1,s2,by simp;omega,by simp;omega⟩⟩ (Wk.weak (wkG [some _,some _,some _] zr3 ⟨⟨_,_,rfl,rfl,rfl,rfl,.inr ⟨⟨rfl,rfl,rfl,(by rw [hGc];exact rfl),rfl,rfl,rfl,trivial⟩,trivial⟩⟩,⟨_,_,rfl,rfl,rfl,rfl,.inl ⟨rfl,s1.symm▸aF _ _⟩⟩,⟨_,_,rfl,rfl,rfl,rfl,.inl ⟨rfl,s2.symm▸aF _ _⟩⟩,trivial⟩ (by decide) aD))
    ·have ha:HV=true:=by rw [hb];rw [bh hg]at hqq;exact hqq
     rw [ha]at hd
     cbv
     have s1:eH++[[.B (true)]]=vw lR (H++[HV]):=by rw [bv,k2,ha];rfl
     have s2:eS++[[.J HY]]=vw ak (S++[SV]):=by rw [bv,k3,hd];rfl
     refine dg hg rfl (by decide) lH ?_
     cbv
     refine dg hg rfl (by decide) lS ?_
     cbv
     rw [e1]
     simp only [gd hg]
     exact hB ((i+1,(H++[HV],S++[SV]),_,_)) _ _ ⟨(by simpa [hh,hj]using h0),⟨rfl,s1,s2,by simp;omega,by simp;omega⟩⟩ (Wk.weak (wkG [some _,some _,some _] zr3 ⟨⟨_,_,rfl,rfl,rfl,rfl,.inr ⟨⟨rfl,rfl,rfl,(by rw [hGc];exact rfl),rfl,rfl,rfl,trivial⟩,trivial⟩⟩,⟨_,_,rfl,rfl,rfl,rfl,.inl ⟨rfl,s1.symm▸aF _ _⟩⟩,⟨_,_,rfl,rfl,rfl,rfl,.inl ⟨rfl,s2.symm▸aF _ _⟩⟩,trivial⟩ (by decide) aD))
   ·rw [hGc]at hb
    cbv
    cases hqq:g .q .gtr y0 HY
    ·have ha:HV=false:=by rw [hb];rw [cu hg]at hqq;exact hqq
     rw [ha]at hd
     cbv
     have s1:eH++[[.B (false)]]=vw lR (H++[HV]):=by rw [bv,k2,ha];rfl
     have s2:eS++[[.J y0]]=vw ak (S++[SV]):=by rw [bv,k3,hd];rfl
     refine dg hg rfl (by decide) lH ?_
     cbv
     refine dg hg rfl (by decide) lS ?_
     cbv
     rw [e1]
     simp only [gd hg]
     exact hB ((i+1,(H++[HV],S++[SV]),_,_)) _ _ ⟨(by simpa [hh,hj]using h0),⟨rfl,s1,s2,by simp;omega,by simp;omega⟩⟩ (Wk.weak (wkG [some _,some _,some _] zr3 ⟨⟨_,_,rfl,rfl,rfl,rfl,.inr ⟨⟨rfl,rfl,rfl,(by rw [hGc];exact rfl),rfl,rfl,rfl,trivial⟩,trivial⟩⟩,⟨_,_,rfl,rfl,rfl,rfl,.inl ⟨rfl,s1.symm▸aF _ _⟩⟩,⟨_,_,rfl,rfl,rfl,rfl,.inl ⟨rfl,s2.symm▸aF _ _⟩⟩,trivial⟩ (by decide) aD))
    ·have ha:HV=true:=by rw [hb];rw [cu hg]at hqq;exact hqq
     rw [ha]at hd
     cbv
     have s1:eH++[[.B (true)]]=vw lR (H++[HV]):=by rw [bv,k2,ha];rfl
     have s2:eS++[[.J HY]]=vw ak (S++[SV]):=by rw [bv,k3,hd];rfl
     refine dg hg rfl (by decide) lH ?_
     cbv
     refine dg hg rfl (by decide) lS ?_
     cbv
     rw [e1]
     simp only [gd hg]
     exact hB ((i+1,(H++[HV],S++[SV]),_,_)) _ _ ⟨(by simpa [hh,hj]using h0),⟨rfl,s1,s2,by simp;omega,by simp;omega⟩⟩ (Wk.weak (wkG [some _,some _,some _] zr3 ⟨⟨_,_,rfl,rfl,rfl,rfl,.inr ⟨⟨rfl,rfl,rfl,(by rw [hGc];exact rfl),rfl,rfl,rfl,trivial⟩,trivial⟩⟩,⟨_,_,rfl,rfl,rfl,rfl,.inl ⟨rfl,s1.symm▸aF _ _⟩⟩,⟨_,_,rfl,rfl,rfl,rfl,.inl ⟨rfl,s2.symm▸aF _ _⟩⟩,trivial⟩ (by decide) aD))
 ·obtain⟨i,⟨H,S⟩,eH,eS⟩:=s
  obtain⟨k1,k2,k3,k4,k5⟩:=hi
  dsimp only at k1 k2 k3 k4 k5 h0
  simp only [List.map_nil,List.append_nil,Prod.mk.injEq]at h0
  obtain rfl:HL=H:=h0.1.symm
  obtain rfl:SL=S:=h0.2.symm
  have pH:=pmV k2
  have pS:=pmV k3
  have hu:HL.length=xs.length:=by rw [hk,zql]
  have hS:SL.length=xs.length:=by rw [hH,zql]
  obtain⟨X,hX⟩:=nmE (Fx.of xs gap inner)
  have ho:ep X.xs=true:=by
   rw [hX]
   simp only [zqs]at hI
   exact hI.1.1
  have hJ:=(fd ho).2
  have hf:X.xs=xs:=by rw [hX];rfl
  obtain⟨r,hr1,h7⟩:=Fx.run_some ho 13 (xs.map hyp) HL (by rw [hf];exact hu) (by have:=jQ HL 0;rw [hf]at hJ;omega)
  have hQ:D=r:=by rw [hD,flx,if_pos hI,<-hG,<-hk,<-hX,hr1];rfl
  have h4:X.runS 13 SL HL=some r:=by
   have:=Fx.run_eq ho 13 (xs.map hyp) HL (by rw [hf];exact hu) (by rw [hf,zql])
   rw [hr1,hf,hk,zK,<-hH,<-hk]at this
   exact this
  cbv;rw [he];cbv
  refine Au hg ay (by kernel_rfl) (fun s:(List Int×List Bool×Int)×LLA×LLA=>[(8,.p 0)]) (fun s=>[.bx 304 7 [.view V,.J gap,.J inner,.B G,.own 1,.own 2,.J s.1.2.2],.rw ⟨4,1,s.2.2⟩,.rw ⟨3,1,s.2.1⟩])
   (fun s=>s.2.1=vw ak s.1.1/\s.2.2=vw lR s.1.2.1/\s.1.1.length=xs.length/\s.1.2.1.length=xs.length) (fun k s=>X.runS k s.1.1 s.1.2.1) r 13 ((SL,HL,0),eS,eH) h4 ⟨k3,k2,hS,hu⟩ (Wk.weak (wkG [some 0,some 1,some 2] zr1 ⟨⟨_,_,rfl,rfl,rfl,rfl,.inr ⟨zr7,trivial⟩⟩,wqE rfl pH,wqE rfl pS,trivial⟩ (by decide) aD)) (fun s k B h0 hi hB=> ?_)
  obtain⟨⟨sz,fr,p⟩,eZ,eR⟩:=s
  obtain⟨k1,k2,k3,k4⟩:=hi
  dsimp only at k1 k2 k3 k4 h0
  cases k with
  |zero=>cases h0
  |succ k=>
   rw [Fx.runS]at h0
   have cp:=ry X ho sz fr (by rw [hf];exact k3) (by rw [hf];exact k4) p
   have qZ:=pmV k1
   have qR:=pmV k2
   obtain⟨rt,h5⟩:=nmE (uZ X.xs sz X.gap X.inner X.gr)
   have hU:X.gap=gap:=by rw [hX];rfl
   have hW:X.inner=inner:=by rw [hX];rfl
   have hY:X.gr=G:=by rw [hX,hG];rfl
   rw [<-h5]at cp h0
   simp only [Fx.bx,hf,hU,hW,hY,<-hV,<-k1,<-k2]at cp
   cbv
   refine CO hg [0,1,2] cp (by decide) (fun r hr=>by simp only [List.mem_cons,List.not_mem_nil,or_false]at hr;simp only [zqx,List.length_nil];omega) ⟨⟨_,_,rfl,rfl,rfl,rfl,.inr ⟨zr7,trivial⟩⟩,⟨_,_,rfl,rfl,rfl,rfl,.inl ⟨rfl,qR⟩⟩,⟨_,_,rfl,rfl,rfl,rfl,.inl ⟨rfl,qZ⟩⟩,trivial⟩ zr1 fun res eh hq=> ?_
   obtain⟨p',hP,hM,rfl,rfl,h1,h2⟩:=hq
   obtain⟨Z',hp⟩:=nmE (vw ak hP)
   obtain⟨R',hC⟩:=nmE (vw lR hM)
   have hO:=pmV hp
   have hN:=pmV hC
   rw [<-hp,<-hC]
   simp only [di,EE.mv,tX hO,tX hN]
   by_cases hn:fre 0 fr=[]
   ·rw [if_pos hn]at h0 h1 h2
    rw [show decide (fre 0 fr≠[])=false by simp [hn]]
    cbv
    subst h1 h2
    exact yr hF rfl (by rw [hp,hQ];cases h0;rfl)
   ·rw [if_neg hn]at h0 h1 h2
    rw [show decide (fre 0 fr≠[])=true by simp [hn]]
    cbv
    refine hB k ((hP,hM,p'),Z',R') _ _ (Nat.lt_succ_self k) (by rw [h1,h2];exact h0) ⟨hp,hC,by rw [h1,ni];exact k3,by rw [h2,nj];exact k4⟩ (Wk.weak (wkG [some 0,some 1,some 2] zr1 ⟨⟨_,_,rfl,rfl,rfl,rfl,.inr ⟨zr7,trivial⟩⟩,⟨_,_,rfl,rfl,rfl,rfl,.inl ⟨rfl,hN⟩⟩,⟨_,_,rfl,rfl,rfl,rfl,.inl ⟨rfl,hO⟩⟩,trivial⟩ (by decide) aD))
theorem qe(xs:List ag)(gap inner:Int)(hl:xs.length<=1048576):dc prog 296 [.c (.view (vw ag.c xs)),ai gap,ai inner] fun res ha=>res= .o 0/\ha=[⟨3,1,vw ak (flx xs gap inner)⟩]:=by
 have cf:=rB xs gap inner hl
 obtain⟨V,hV⟩:=nmE (vw ag.c xs)
 obtain⟨D,hD⟩:=nmE (vw ak (flx xs gap inner))
 have pD:=pmV hD
 rw [<-hV,<-hD]at cf
 rw [<-hV,<-hD]
 refine ae (aJ f296) ay func296 fun g F hg hF=> ?_
 cbv
 refine uS hg (fE cf rfl fun res ha hq=> ?_)
 obtain⟨p,rfl,rfl⟩:=hq
 refine⟨[.rw ⟨3,1,D⟩],by simp only [zqA,List.map_nil,iq (ab:=⟨3,1,D⟩) pD];rfl,?_⟩
 cbv
 exact bR hF rfl pD
theorem vb(a:Int):wrap64 (wrap64 a)=wrap64 a:=by unfold wrap64;omega
theorem dN(a b:Int):(a !=b)=decide (¬a=b):=by by_cases h:a=b<;>simp [h]
def elZ(l:List Int)(i:Int):Int:=if 0<=i then l[i.toNat]?.getD 0 else 0
def evm(many:Int):Nat:=if many<=64 then many.toNat else 0
def evn(n many:Int):List Int:=shr n (List.replicate (evm many) 1)
theorem An(m:Nat)(h:m<=64):zF (List.replicate m 1)=true:=by
 simp only [zF,zqs,zqp,zqf,List.length_replicate]
 exact⟨fun w hw=>by rw [List.eq_of_mem_replicate hw];decide,by omega⟩
theorem oK(many:Int):evm many<=64:=by unfold evm;split<;>omega
theorem nN{many:Int}(h0:0<=many)(h1:many<=64):(evm many:Int)=many:=by unfold evm;rw [if_pos h1];omega
theorem gP(n many:Int):(evn n many).length=evm many:=by rw [evn,shr,if_pos (An _ (oK many)),wL,List.length_replicate]
variable {l:List Int}
theorem nP{i:Nat}{x:Int}(h:l[i]? =some x):elZ l (i:Int)=x:=by
 unfold elZ;rw [if_pos (by omega),Int.toNat_natCast,h];rfl
theorem Be{i:Int}(h:i<0\/(l.length:Int)<=i):elZ l i=0:=by
 unfold elZ
 split
 ·rw [zqz (by omega)];rfl
 ·rfl
theorem kj{i:Int}(h0:0<=i)(h1:i<(l.length:Int)):l[i.toNat]? =some (elZ l i):=by
 unfold elZ
 rw [if_pos h0,zqc (by omega)];rfl
theorem Bf(i:Int):elZ [] i=0:=by unfold elZ;split<;>rfl
def led(free many js:Int):Int:=
 if rng many 1 12=false then 0 else if js=2 then free else if js=3 then fdv free 2
 else if js=5 then(if free<0 then fdv free 2 else elZ (evn free (2*many)) 0)
 else if js=6 then(if free<0 then fdv free 2 else elZ (evn free (many+1)) 0)else 0
def btw(free many js i:Int):Int:=
 if free<0 then 0 else if js=4 then elZ (evn free (many-1)) i
 else if js=5 then wrap64 (elZ (evn free (2*many)) (2*i+1)+elZ (evn free (2*many)) (2*i+2))
 else if js=6 then elZ (evn free (many+1)) (i+1)else 0
def auN:List ag->Int
 | []=>0
 |x::r=>((if x.autoBefore then 1 else 0)+(if x.autoBehind then 1 else 0))+auN r
theorem yD:∀xs:List ag,0<=auN xs/\auN xs<=2*xs.length
 | []=>by simp [auN]
 |x::r=>by
  obtain⟨h1,h2⟩:=yD r
  simp only [auN,zqx]
  split<;>split<;>omega
def auT(ex:List Int)(k:Int)(b:Bool):Int:=if b then elZ ex k else 0
def auK(k:Int)(b:Bool):Int:=if b then k+1 else k
def GU(ex:List Int)(a k:Int)(x:ag):Int:=wrap64 (a+wrap64 (x.before+auT ex k x.autoBefore))
def Hj(ex:List Int)(sp:Int->Int)(gap many i a k:Int)(x:ag)(s:Int):Int:=
 let q:=wrap64 (GU ex a k x+wrap64 (wrap64 (s+x.behind)+auT ex (auK k x.autoBefore) x.autoBehind))
 if i+1<many then wrap64 (wrap64 (q+gap)+sp i)else q
def wz(ex:List Int)(sp:Int->Int)(gap many:Int):Int->Int->Int->List (ag×Int)->List Int
 |_,_,_,[]=>[]
 |i,a,k,(x,s)::r=>GU ex a k x::wz ex sp gap many (i+1) (Hj ex sp gap many i a k x s) (auK (auK k x.autoBefore) x.autoBehind) r
def al5(xs:List ag)(ss:List Int)(gap inner:Int):Bool:=ss.all (fun s=>rng s 0 1048576)&&(ep xs&&(decide (ss.length=xs.length)&&(rng gap 0 1048576&&rng inner 0 1048576)))
def alF(xs:List ag)(ss:List Int)(gap inner:Int):Int:=sg (wrap64 (inner-wrap64 (hP xs ss gap)))
def alE(xs:List ag)(ss:List Int)(gap inner:Int):List Int:=if 0<auN xs/\0<alF xs ss gap inner then evn (alF xs ss gap inner) (auN xs)else []
def alS(xs:List ag)(free js i:Int):Int:=if auN xs=0 then btw free (xs.length:Int) js i else 0
def al0(xs:List ag)(free js:Int):Int:=if auN xs=0 then led free (xs.length:Int) js else 0
def alg(xs:List ag)(ss:List Int)(gap inner js:Int):List Int:=
 if al5 xs ss gap inner=false then []else wz (alE xs ss gap inner) (alS xs (alF xs ss gap inner) js) gap (xs.length:Int) 0 (al0 xs (alF xs ss gap inner) js) 0 (xs.zip ss)
def yO:Int->List Int->Int
 |a,[]=>a
 |a,c::r=>yO (wrap64 (a+sg c)) r
def crt(cs:List Int)(gap:Int):Int:=if cs=[]then 0 else wrap64 (yO 0 cs+wrap64 (gap*((cs.length:Int)-1)))
def acr(cs:List Int)(gap inner:Int):Bool:=cs.all (fun c=>rng c 0 1048576)&&(decide ((cs.length:Int)<=12)&&(rng gap 0 1048576&&rng inner 0 1048576))
def wu(cs:List Int)(gap inner ct:Int):List Int:=if acr cs gap inner=true/\ct=1/\0<wrap64 (inner-crt cs gap)then(cs.zip (evn (wrap64 (inner-crt cs gap)) (cs.length:Int))).map (fun p=>wrap64 (p.1+p.2))else cs
def plG(sp:Int->Int)(gap:Int):Int->Int->List Int->List Int
 |_,_,[]=>[]
 |i,a,c::r=>a::plG sp gap (i+1) (wrap64 (a+wrap64 (wrap64 (c+gap)+sp i))) r
def pll(cs:List Int)(gap inner ct:Int):List Int:=
 if acr cs gap inner=false then []else plG (btw (sg (wrap64 (inner-crt cs gap))) (cs.length:Int) (u0 ct)) gap 0 (led (sg (wrap64 (inner-crt cs gap))) (cs.length:Int) (u0 ct)) cs
def BF:Int->Bool->List ar->Int
 |m,_,[]=>m
 |m,f,x::r=>if onB x=true/\(f=false\/m<wrap64 (x.before+x.base))then BF (wrap64 (x.before+x.base)) true r else BF m f r
def bas(xs:List ar):Int:=BF 0 false xs
def mx2(a b:Int):Int:=if a<b then b else a
def Hg(b:Int)(x:ar):Int:=if onB x then wrap64 (wrap64 (wrap64 (b+x.size)+x.behind)-x.base)else wrap64 (wrap64 (x.size+x.before)+x.behind)
def Dz(b:Int):Int->List ar->Int
 |m,[]=>m
 |m,x::r=>Dz b (mx2 m (Hg b x)) r
def cro(xs:List ar):Int:=if(decide ((xs.length:Int)<=12)&&xs.all tA)=false then 0 else cl (Dz (bas xs) 0 xs)
def cr2:Int->Int->Bool->List ar->Int×Int×Bool
 |n,b,s,[]=>(n,b,s)
 |n,b,s,x::r=>if onB x then cr2 n (if s=false\/b<wrap64 (wrap64 (x.size+x.behind)-x.base)then wrap64 (wrap64 (x.size+x.behind)-x.base)else b) true r
  else cr2 (if n<wrap64 (wrap64 (x.size+x.before)+x.behind)then wrap64 (wrap64 (x.size+x.before)+x.behind)else n) b s r
theorem siB{x:ar}(h:tA x=true):(0<=x.size/\x.size<=1048576)/\(0<=x.base/\x.base<=1048576)/\(-1048576<=x.before/\x.before<=1048576)/\ -1048576<=x.behind/\x.behind<=1048576:=by
 simp only [tA,rng,zqs,zqp]at h
 omega
theorem xq:∀(xs:List ar)(m:Int)(f:Bool),xs.all tA=true-> -2097152<=m->m<=2097152-> -2097152<=BF m f xs/\BF m f xs<=2097152
 | [],m,f,_,h1,h2=>⟨h1,h2⟩
 |x::r,m,f,h,h1,h2=>by
  simp only [zqD,zqs]at h
  have hb:=siB h.1
  have e:=aw (x.before+x.base) (by omega)
  simp only [BF]
  split
  ·exact xq r _ true h.2 (by omega) (by omega)
  ·exact xq r m f h.2 h1 h2
theorem Bj(b:Int)(hb: -2097152<=b/\b<=2097152):∀(xs:List ar)(n be:Int)(s:Bool),xs.all tA=true-> -4194304<=be->be<=4194304->
  (if(cr2 n be s xs).2.2=true/\(cr2 n be s xs).1<wrap64 (b+(cr2 n be s xs).2.1)then wrap64 (b+(cr2 n be s xs).2.1)else(cr2 n be s xs).1)=Dz b (if s=true/\n<wrap64 (b+be)then wrap64 (b+be)else n) xs
 | [],n,be,s,_,_,_=>rfl
 |x::r,n,be,s,h,h1,h2=>by
  simp only [zqD,zqs]at h
  have hx:=siB h.1
  have e1:=aw (x.size+x.behind) (by omega)
  have e2:=aw (x.size+x.behind-x.base) (by omega)
  have e3:=aw (b+be) (by omega)
  have e4:=aw (b+x.size) (by omega)
  have e5:=aw (b+x.size+x.behind) (by omega)
  have e6:=aw (b+x.size+x.behind-x.base) (by omega)
  have e7:=aw (b+(x.size+x.behind-x.base)) (by omega)
  simp only [cr2,Dz,Hg,mx2]
  rcases Bool.eq_false_or_eq_true (onB x)with ho|ho
  ·simp only [ho,if_true]
   rw [Bj b hb r _ _ _ h.2 (by rw [e1,e2];split<;>omega) (by rw [e1,e2];split<;>omega)]
   congr 1
   simp only [e1,e2,e3,e4,e5,e6]
   cases s
   ·simp only [Bool.false_eq_true,false_and,if_false,true_or,if_true,true_and,e7]
    split<;>split<;>omega
   ·simp only [Bool.true_eq_false,false_or,true_and]
    by_cases hc:be<x.size+x.behind-x.base
    ·rw [if_pos hc,e7];split<;>split<;>(try split)<;>omega
    ·rw [if_neg hc,e3];split<;>split<;>(try split)<;>omega
  ·simp only [ho,Bool.false_eq_true,if_false]
   rw [Bj b hb r _ _ _ h.2 h1 h2]
   congr 1
   cases s
   ·simp
   ·simp only [true_and,e3]
    split<;>split<;>(try split)<;>(try split)<;>omega
theorem EC{xs:List ar}(h:xs.all tA=true):(if(cr2 0 0 false xs).2.2=true/\(cr2 0 0 false xs).1<wrap64 (bas xs+(cr2 0 0 false xs).2.1)then wrap64 (bas xs+(cr2 0 0 false xs).2.1)else(cr2 0 0 false xs).1)=Dz (bas xs) 0 xs:=by
 have:=Bj (bas xs) (xq xs 0 false h (by omega) (by omega)) xs 0 0 false h (by omega) (by omega)
 simpa using this
def lit(xs:List ag)(ln:List Int):List ag:=ln.filterMap fun i=>if 0<=i then xs[i.toNat]? else none
def lou(xs:List ag)(gap:Int)(ln:List Int):Int:=wrap64 (hP (lit xs ln) ((lit xs ln).map hyp) gap)
def lnS(xs:List ag)(gap room:Int)(one:Bool)(out:List (List Int))(i:Int):List (List Int):=
 match out.getLast? with
 |some ln=>if one=true\/lou xs gap (ln++[i])<=room then out.dropLast++[ln++[i]]else out++[[i]]
 |none=>[[i]]
def lnG(xs:List ag)(gap room:Int)(one:Bool):List (List Int)->Int->List ag->List (List Int)
 |out,_,[]=>out
 |out,i,_::r=>lnG xs gap room one (lnS xs gap room one out i) (i+1) r
def lns(xs:List ag)(gap room:Int)(wr:Bool):List (List Int):=lnG xs gap room (!wr||(decide (room<0)|| !ep xs)) [] 0 xs
def lng(xs:List ag)(gap room:Int)(wr:Bool):Int:=(lns xs gap room wr).foldl (fun m l=>mx2 m (lou xs gap l)) 0
def lsz(xs:List ag)(gap room:Int)(wr:Bool)(inner:Int):List Int:=(lns xs gap room wr).flatMap fun l=>flx (lit xs l) gap inner
def ixs:Int->Nat->List Int
 |_,0=>[]
 |i,n+1=>i::ixs (i+1) n
theorem bX:∀(n:Nat)(i:Int),(ixs i n).length=n
 |0,_=>rfl
 |n+1,i=>by simp [ixs,bX n]
theorem ll:∀(n:Nat)(i j:Int),j∈ixs i n↔i<=j/\j<i+n
 |0,i,j=>by simp only [ixs,List.not_mem_nil,false_iff];omega
 |n+1,i,j=>by simp only [ixs,List.mem_cons,ll n];omega
theorem jK:∀(a b:Nat)(i:Int),ixs i (a+b)=ixs i a++ixs (i+a) b
 |0,b,i=>by simp [ixs]
 |a+1,b,i=>by
  rw [show a+1+b=a+b+1 by omega]
  simp only [ixs,List.cons_append]
  rw [jK a b (i+1),show i+1+(a:Int)=i+((a+1:Nat):Int) by omega]
theorem tZ(xs:List ag)(gap room:Int)(one:Bool)(out:List (List Int))(i:Int):(lnS xs gap room one out i).flatten=out.flatten++[i]/\((∀l∈out,l≠[])->∀l∈lnS xs gap room one out i,l≠[]):=by
 unfold lnS
 rcases List.eq_nil_or_concat out with rfl|⟨o,y,rfl⟩
 ·simp
 ·rw [List.concat_eq_append,List.getLast?_append,List.getLast?_singleton]
  simp only [Option.some_or]
  split
  ·rw [List.dropLast_concat]
   refine⟨by simp,fun h l hl=> ?_⟩
   rcases List.mem_append.1 hl with h1|h1
   ·exact h l (by simp [h1])
   ·rw [List.mem_singleton.1 h1];simp
  ·refine⟨by simp,fun h l hl=> ?_⟩
   rcases List.mem_append.1 hl with h1|h1
   ·exact h l h1
   ·rw [List.mem_singleton.1 h1];simp
theorem ua(xs:List ag)(gap room:Int)(one:Bool):∀(r:List ag)(out:List (List Int))(i:Int),(lnG xs gap room one out i r).flatten=out.flatten++ixs i r.length/\((∀l∈out,l≠[])->∀l∈lnG xs gap room one out i r,l≠[])
 | [],out,i=>by simp [lnG,ixs]
 |x::r,out,i=>by
  obtain⟨h1,h2⟩:=tZ xs gap room one out i
  obtain⟨h3,h4⟩:=ua xs gap room one r (lnS xs gap room one out i) (i+1)
  refine⟨?_,fun h=>h4 (h2 h)⟩
  simp only [lnG,zqx,ixs]
  rw [h3,h1];simp
theorem lK(xs:List ag)(gap room:Int)(wr:Bool):(lns xs gap room wr).flatten=ixs 0 xs.length:=by
 have:=(ua xs gap room (!wr||(decide (room<0)|| !ep xs)) xs [] 0).1
 simpa [lns]using this
theorem FE(xs:List ag)(gap room:Int)(wr:Bool):∀l∈lns xs gap room wr,l≠[]:=(ua xs gap room _ xs [] 0).2 (by simp)
variable {xs:List ag}{gap room:Int}
theorem tY{wr:Bool}(hl:l∈lns xs gap room wr){i:Int}(hi:i∈l):0<=i/\i<(xs.length:Int):=by
 have:i∈(lns xs gap room wr).flatten:=List.mem_flatten.2 ⟨l,hl,hi⟩
 rw [lK,ll]at this
 omega
theorem jR:∀(ls:List (List Int)),(∀l∈ls,l≠[])->ls.length<=ls.flatten.length
 | [],_=>by simp
 |l::ls,h=>by
  have h1:=jR ls (fun x hx=>h x (List.mem_cons_of_mem _ hx))
  have h2:0<l.length:=List.length_pos_iff.2 (h l (List.mem_cons_self ..))
  simp only [List.flatten_cons,zqe,zqx]
  omega
theorem mK(xs:List ag)(gap room:Int)(wr:Bool):(lns xs gap room wr).length<=xs.length:=by
 have:=jR _ (FE xs gap room wr)
 rwa [lK,bX]at this
theorem mM{ls:List (List Int)}(hl:l∈ls):l.length<=ls.flatten.length:=by
 induction ls with
 |nil=>simp at hl
 |cons a ls ih=>
  simp only [List.flatten_cons,zqe]
  rcases List.mem_cons.1 hl with rfl|h
  ·omega
  ·have:=ih h;omega
theorem jI{wr:Bool}(hl:l∈lns xs gap room wr):l.length<=xs.length:=by
 have:=mM hl
 rwa [lK,bX]at this
theorem wY{xs:List ag}:∀{ln:List Int},(∀i∈ln,0<=i/\i<(xs.length:Int))->(lit xs ln).length=ln.length
 | [],_=>rfl
 |i::ln,h=>by
  have h1:=h i (List.mem_cons_self ..)
  have:=wY (ln:=ln) fun j hj=>h j (List.mem_cons_of_mem _ hj)
  unfold lit at this⊢
  rw [List.filterMap_cons,if_pos h1.1,zqc (by omega)]
  simp [this]
variable {ln:List Int}
theorem qD:(lit xs ln).length<=ln.length:=by unfold lit;exact List.length_filterMap_le _ _
theorem Ay{x:ag}(h:x∈lit xs ln):x∈xs:=by
 unfold lit at h
 obtain⟨i,_,hi⟩:=List.mem_filterMap.1 h
 split at hi
 ·exact zqd hi
 ·cases hi
theorem wX(xs:List ag)(gap room:Int)(wr:Bool)(inner:Int):(lsz xs gap room wr inner).length=xs.length:=by
 have ha:∀ls:List (List Int),(∀l∈ls,∀i∈l,0<=i/\i<(xs.length:Int))->(ls.flatMap fun l=>flx (lit xs l) gap inner).length=ls.flatten.length:=by
  intro ls
  induction ls with
  |nil=>intro _;rfl
  |cons l ls ih=>
   intro h
   simp only [List.flatMap_cons,List.flatten_cons,zqe]
   rw [ih fun x hx=>h x (List.mem_cons_of_mem _ hx),Es,wY (h l (List.mem_cons_self ..))]
 unfold lsz
 rw [ha _ fun l hl i hi=>tY hl hi,lK,bX]
theorem nB(n:Nat)(i:Int):ixs i (n+1)=ixs i n++[i+n]:=by rw [jK n 1 i];rfl
theorem vV:∀(n j:Nat)(i:Int),j<n->(ixs i n)[j]? =some (i+j)
 |0,_,_,h=>by omega
 |n+1,0,i,_=>by simp [ixs]
 |n+1,j+1,i,h=>by
  simp only [ixs,List.getElem?_cons_succ]
  rw [vV n j (i+1) (by omega)]
  congr 1;omega
def spc(free many js:Int):List Int:=(ixs 0 many.toNat).map fun i=>if i+1<many then btw free many js i else 0
def spL(b:Int->Int)(m z:Nat):List Int:=(ixs 0 z).map b++List.replicate (m-z) 0
variable {m z:Nat}
theorem DY(b:Int->Int)(h:z<=m):(spL b m z).length=m:=by simp [spL,bX];omega
theorem wK(b:Int->Int)(h:z<m):spL b m z=(ixs 0 z).map b++0::List.replicate (m-(z+1)) 0:=by
 rw [spL,show m-z=(m-(z+1))+1 by omega,List.replicate_succ]
theorem xH(b:Int->Int)(h:z<m):spL b m (z+1)=(ixs 0 z).map b++b z::List.replicate (m-(z+1)) 0:=by
 rw [spL,nB,List.map_append,zqC];simp
theorem DX(b:Int->Int)(h:z<m):(spL b m z).set z (b z)=spL b m (z+1):=by
 rw [wK b h,xH b h,List.set_append_right _ _ (by simp [bX])]
 simp [bX]
theorem BQ(b:Int->Int)(h:z<m)(hb:b z=0):spL b m z=spL b m (z+1):=by rw [wK b h,xH b h,hb]
theorem Fg(b:Int->Int)(h:z<m):(spL b m z)[z]? =some 0:=by
 rw [wK b h,zqg (by simp [bX])]
 simp [bX]
theorem DW(free many js:Int){z:Nat}(h0:0<=many)(hz:z=0\/(z:Int)<many)(h:¬(z:Int)+1<many):spL (btw free many js) many.toNat z=spc free many js:=by
 have ha:∀n:Nat,(n:Int)+1<=many->(ixs 0 n).map (btw free many js)=(ixs 0 n).map fun i=>if i+1<many then btw free many js i else 0:=fun n hn=>
  List.map_congr_left fun i hi=>by rw [ll]at hi;rw [if_pos (by omega)]
 unfold spc
 by_cases hm:many=0
 ·subst hm
  obtain rfl:z=0:=by omega
  simp [spL,ixs]
 obtain rfl:many=(z:Int)+1:=by omega
 rw [show((z:Int)+1).toNat=z+1 by omega,nB,List.map_append,spL,ha z (by omega)]
 simp
theorem DV(free many js:Int)(h:free<0):spc free many js=List.replicate many.toNat 0:=by
 unfold spc
 have:∀(n:Nat)(j:Int),(ixs j n).map (fun i=>if i+1<many then btw free many js i else 0)=List.replicate n 0:=by
  intro n
  induction n with
  |zero=>intro j;rfl
  |succ n ih=>
   intro j
   simp only [ixs,zqA,List.replicate_succ]
   rw [ih (j+1)]
   congr 1
   split
   ·unfold btw;rw [if_pos h]
   ·rfl
 exact this _ 0
theorem C6(free many js:Int){i:Int}(h0:0<=i)(h1:i<many):(spc free many js)[i.toNat]? =some (if i+1<many then btw free many js i else 0):=by
 unfold spc
 rw [zqi,vV _ _ _ (show i.toNat<many.toNat by omega)]
 simp only [Option.map_some]
 rw [show(0:Int)+(i.toNat:Int)=i by omega]
structure fB(G es:LLA)(z:Int):Prop where
 z0:0<=z
 z1:z<=aX G
 eq:es=G.take z.toNat
section
variable {P:Program}{n0 N:Nat}{g:Gd}
theorem Hq(hg:g=G0 P n0 N){xs:LLA}{z:Int}{j k:Nat}{K:Nat->Prop}(hz:0<=z)(hj:j=z.toNat)(hy:j<xs.length)(hK:K j):g .Y k xs z K:=by subst hg hj;exact⟨hz,hy,hK⟩
end
def m3(k:Int):Bool:=k.tmod 3==0
theorem vE{E:LLA}{j:Nat}{y:List AC}(h:aC E=true)(hy:y.all dP=true):aC (E.set j y)=true:=by
 rw [aC,zqf]at h⊢
 intro x hx
 rcases List.mem_or_eq_of_mem_set hx with hx|rfl
 ·exact h x hx
 ·exact hy
section
variable {P:Program}{n0 N:Nat}{g:Gd}
theorem uK{F:List AT->EH->Prop}{w h b:Int}{r:Nat}{eh:EH}{ab:AB}(hF:F=mA 0 (fun res h'=>∃rows,h'=rows.map .live/\(res= .t (.agg [.J w,.J h,.J b,.own 0])/\rows=[ab])))(hr:nth eh r=some (.rw ab))(hp:aC ab.es=true):
  F [.agg [.J w,.J h,.J b,.own r]] eh:=by
 subst hF
 refine .inl ⟨.t (.agg [.J w,.J h,.J b,.own 0]),[.live ab],[some r],⟨Nat.zero_le _,fun i hi=>absurd hi (Nat.not_lt_zero _),by simp,?_,?_⟩,[ab],rfl,rfl,rfl⟩
 ·simp only [rnH,zqw,fL hr]
  exact⟨fun h=>absurd h (Nat.not_lt_zero _),⟨by first|trivial|rfl,by first|trivial|rfl,.inl ⟨by first|trivial|rfl,hp⟩⟩,trivial⟩
 ·exact⟨.inr zr4,trivial⟩
theorem uT{β:BP}(hg:g=G0 P n0 N){h:EH}{f:FuncId}{args:List AT}{K:AV->EH->Prop}{a b c:Int}{ab:AB}(hc:dc P f args fun res hb=>res= .t (.agg [.J a,.J b,.J c,.own 0])/\hb=[ab])(hd:iv args=true)(hp:aC ab.es=true)
  (hK:K (.t (.agg [.J a,.J b,.J c,.own (lX h)])) (h++[.rw ab])):g .C f h args K:=
 uS hg (fE hc hd fun res hb ha=>by
  obtain⟨rfl,rfl⟩:=ha
  rw [dq]at hK
  refine⟨[.rw ab],by simp only [zqA,List.map_nil,iq hp];rfl,?_⟩
  rw [bW];exact hK)
end
def Fy(n:Int)(w h:aI)(rtl:Bool)(m:oz):Bool:=(m.node==n)&&decide (m.wide=w)&&decide (m.high=h)&&(m.rtl==rtl)
def Ef(n:Int)(w h:aI)(rtl:Bool):List oz->ju×Bool
 | []=>(⟨0,0,0,[]⟩,false)
 |m::ms=>if Fy n w h rtl m then(m.box,true)else Ef n w h rtl ms
structure Pl where
 s:aj
 row:Bool
 w:aI
 h:aI
 wide:aI
 high:aI
 al:aI
 ac:aI
 kids:List Int
def Ho:aj:=aj.of (fun _=>0) (fun _=>false)
def kst(ns:List af)(k:Int):aj:=match ns[(k-1).toNat]? with|some y=>y.style|none=>Ho
def plO(ns:List af)(n:Int)(w h:aI):Pl:=
 ⟨kst ns n,jF (kst ns n),w,h,inW (kst ns n) w,inH (kst ns n) h,if jF (kst ns n)then inW (kst ns n) w else inH (kst ns n) h,if jF (kst ns n)then inH (kst ns n) h else inW (kst ns n) w,flK ns n⟩
abbrev St:=List oz×List km
abbrev Bx:=Int->aI->aI->St->ju×St
def kcX(p:Pl)(k:aj)(rtl:Bool):aI:=EB p.s k rtl p.row p.ac (knS p.wide)
def xS(p:Pl)(k:aj)(rtl main:Bool):ar:=sdB p.s k rtl main (knS p.wide)
def EN(p:Pl)(k:aj)(rtl:Bool):aI:=if p.row then Cb (o7 p.al (wrap64 ((xS p k rtl true).before+(xS p k rtl true).behind)))else⟨1,0⟩
def CT(p:Pl)(k:aj)(rtl:Bool):Int:=
 if sF k.basis (knS p.al)≠ -1 then sF k.basis (knS p.al)else if ph k p.row (knS p.al)≠ -1 then ph k p.row (knS p.al)
 else if(kcX p k rtl).mode=3 then qn k p.row (kcX p k rtl).n else-1
def ta(bx:Bx)(row:Bool)(kid:Int)(al ac:aI)(st:St):ju×St:=if row then bx kid al ac st else bx kid ac al st
def alB(row:Bool)(b:ju):Int:=if row then b.wide else b.high
def wn(bx:Bx)(p:Pl)(rtl:Bool)(ns:List af)(kid:Int)(st:St):Int×St:=
 if CT p (kst ns kid) rtl≠ -1 then(CT p (kst ns kid) rtl,st)else
 (alB p.row (ta bx p.row kid (EN p (kst ns kid) rtl) (kcX p (kst ns kid) rtl) st).1,(ta bx p.row kid (EN p (kst ns kid) rtl) (kcX p (kst ns kid) rtl) st).2)
def FM(p:Pl)(k:aj)(rtl:Bool)(b:Int):ag:=
 ⟨b,Ar k p.row (knS p.al),BA k p.row (knS p.al),k.grow,k.shrink,(xS p k rtl true).before,(xS p k rtl true).behind,(xS p k rtl true).autoBefore,(xS p k rtl true).autoBehind⟩
def lN(bx:Bx)(p:Pl)(rtl:Bool)(ns:List af):List Int->St->List ag×St
 | [],st=>([],st)
 |k::r,st=>(FM p (kst ns k) rtl (wn bx p rtl ns k st).1::(lN bx p rtl ns r (wn bx p rtl ns k st).2).1,(lN bx p rtl ns r (wn bx p rtl ns k st).2).2)
def BD(p:Pl):Int:=jd p.s p.row
def sX(p:Pl):Int:=jd p.s (!p.row)
def wrP(p:Pl):Bool:= !decide (p.s.wrap=1)
def BC(p:Pl)(xs:List ag):Int:=tak p.al (lng xs (BD p) (ko p.al) (wrP p))
def rj(p:Pl)(xs:List ag):List Int:=lsz xs (BD p) (ko p.al) (wrP p) (BC p xs)
def mL(p:Pl)(xs:List ag):List (List Int):=lns xs (BD p) (ko p.al) (wrP p)
def zA(p:Pl)(k:aj)(rtl:Bool)(size:Int):aI:=
 if(kcX p k rtl).mode≠3/\ph k (!p.row) (knS p.ac)= -1/\qn k (!p.row) size≠ -1 then⟨3,ly k (!p.row) (knS p.ac) (qn k (!p.row) size)⟩else kcX p k rtl
def rP(a b:Int):Int:=if b<a then b else a
def Gv(p:Pl)(k:aj)(rtl:Bool)(b:ju):ar:=
 ⟨ly k (!p.row) (knS p.ac) (alB (!p.row) b),(xS p k rtl false).before,(xS p k rtl false).behind,(xS p k rtl false).autoBefore,(xS p k rtl false).autoBehind,zy p.s k,rP b.base (ly k (!p.row) (knS p.ac) (alB (!p.row) b))⟩
def tF(bx:Bx)(p:Pl)(rtl:Bool)(ns:List af):List (Int×Int)->St->List ar×St
 | [],st=>([],st)
 |(k,z)::r,st=>
  (Gv p (kst ns k) rtl (ta bx p.row k ⟨3,z⟩ (zA p (kst ns k) rtl z) st).1::(tF bx p rtl ns r (ta bx p.row k ⟨3,z⟩ (zA p (kst ns k) rtl z) st).2).1,(tF bx p rtl ns r (ta bx p.row k ⟨3,z⟩ (zA p (kst ns k) rtl z) st).2).2)
def pck(sides:List ar)(ln:List Int):List ar:=ln.filterMap fun i=>if 0<=i then sides[i.toNat]? else none
def GO(p:Pl)(sides:List ar)(ln:List Int):Int:=if p.s.wrap=1/\p.ac.mode=3 then p.ac.n else cro (pck sides ln)
def xk(p:Pl)(lines:List (List Int))(sides:List ar):List Int:=
 if¬p.s.wrap=1/\p.ac.mode=3 then wu (lines.map (GO p sides)) (sX p) p.ac.n p.s.content else lines.map (GO p sides)
def yI(p:Pl)(cs:List Int):Int:=tak p.ac (crt cs (sX p))
def ctP(p:Pl):Int:=if p.s.wrap=1 then 2 else p.s.content
def EV(p:Pl)(cs:List Int):List Int:=pll cs (sX p) (yI p cs) (ctP p)
def sdZ(sides:List ar)(i:Int):ar:=(if 0<=i then sides[i.toNat]? else none).getD ⟨0,0,0,false,false,0,0⟩
def AY(x:ar)(z:Int):ar:=⟨z,x.before,x.behind,x.autoBefore,x.autoBehind,x.align,rP x.base z⟩
def xh(p:Pl)(ns:List af)(sides:List ar)(sizes:List Int)(c i:Int):ar:=
 if yv (sdZ sides i)=true/\ph (kst ns (elZ p.kids i)) (!p.row) (knS p.ac)= -1/\qn (kst ns (elZ p.kids i)) (!p.row) (elZ sizes i)= -1 then
  AY (sdZ sides i) (ly (kst ns (elZ p.kids i)) (!p.row) (knS p.ac) (wrap64 (c-wrap64 ((sdZ sides i).before+(sdZ sides i).behind))))
 else sdZ sides i
def Ba(p:Pl)(ns:List af)(sides:List ar)(sizes:List Int)(ls:List (List Int×Int)):List ar:=ls.flatMap fun q=>q.1.map (xh p ns sides sizes q.2)
def Er(p:Pl)(rtl:Bool)(inner across:Int)(sizes:List Int)(sides:List ar)(st c lb a0 i:Int):aM:=
 let a:=De inner a0 (elZ sizes i) (lh p.s rtl)
 let b:=De across (wrap64 (st+Ed (sdZ sides i) c lb)) (sdZ sides i).size (lx p.s rtl)
 if p.row then⟨elZ p.kids i,wrap64 (a+(lw p.s).left),wrap64 (b+(lw p.s).top),elZ sizes i,(sdZ sides i).size⟩
 else⟨elZ p.kids i,wrap64 (b+(lw p.s).left),wrap64 (a+(lw p.s).top),(sdZ sides i).size,elZ sizes i⟩
def rg(p:Pl)(rtl:Bool)(inner across:Int)(sizes:List Int)(sides:List ar)(st c lb:Int)(ps:List Int):Int->List Int->List aM
 |_,[]=>[]
 |j,i::r=>Er p rtl inner across sizes sides st c lb (elZ ps j) i::rg p rtl inner across sizes sides st c lb ps (j+1) r
def Ft(p:Pl)(items:List ag)(inner:Int)(sizes:List Int)(ln:List Int):List Int:=alg (lit items ln) (ln.map (elZ sizes)) (BD p) inner p.s.justify
def wy(p:Pl)(rtl:Bool)(items:List ag)(inner across:Int)(sizes:List Int)(sides:List ar)(sts:List Int):Int->List (List Int×Int)->List aM
 |_,[]=>[]
 |k,(ln,c)::r=>rg p rtl inner across sizes sides (elZ sts k) c (bas (pck sides ln)) (Ft p items inner sizes ln) 0 ln++wy p rtl items inner across sizes sides sts (k+1) r
def DF(p:Pl)(inner across:Int)(frames:List aM)(sides:List ar):ju:=
 ⟨tak p.w (wrap64 ((if p.row then inner else across)+adE (lw p.s).left (lw p.s).right)),tak p.h (wrap64 ((if p.row then across else inner)+adE (lw p.s).top (lw p.s).bottom)),
  cl (wrap64 ((match frames with|f::_=>f.y| []=>0)+(sdZ sides 0).base)),frames⟩
def GJ(p:Pl)(rtl:Bool)(ns:List af)(items:List ag)(sides0:List ar):ju:=
 let lines:=mL p items
 let sizes:=rj p items
 let cs:=xk p lines sides0
 let sides:=Ba p ns sides0 sizes (lines.zip cs)
 DF p (BC p items) (yI p cs) (wy p rtl items (BC p items) (yI p cs) sizes sides (EV p cs) 0 (lines.zip cs)) sides
def Cv(bx:Bx)(p:Pl)(rtl:Bool)(ns:List af)(st:St):ju×St:=
 let a:=lN bx p rtl ns p.kids st
 let b:=tF bx p rtl ns (p.kids.zip (rj p a.1)) a.2
 (GJ p rtl ns a.1 b.1,b.2)
def zc(s:aj)(w h:aI)(q:Int×Int):ju:=
 ⟨tak w (wrap64 (q.1+adE (lw s).left (lw s).right)),tak h (wrap64 (q.2+adE (lw s).top (lw s).bottom)),tak h (wrap64 (q.2+adE (lw s).top (lw s).bottom)),[]⟩
def wnt(rs:List aO)(room:Int):Int×Int:=
 match rs.find? fun r=>decide (room= -1)||decide (r.room<=room)with|some r=>(cl r.wide,cl r.high)|none=>(0,0)
def nod(ns:List af)(n:Int):af:=(ns[(n-1).toNat]?).getD ⟨0,[],Ho,false,⟨[]⟩⟩
def wV(bx:Bx)(ns:List af)(rtl:Bool)(n:Int)(w h:aI)(st:St):ju×St:=
 if(nod ns n).measured then(zc (kst ns n) w h (wnt (nod ns n).table.rules (ko (inW (kst ns n) w))),(st.1,st.2++[⟨n,w,h,rtl⟩]))
 else if flK ns n=[]then(zc (kst ns n) w h (0,0),st)else Cv bx (plO ns n w h) rtl ns st
def kpF(keeps:Bool)(rtl:Bool)(bx:Bx):Bx:=fun n w h st=>
 if keeps=false then bx n w h st else
 if(Ef n w h rtl st.1).2 then((Ef n w h rtl st.1).1,st)else((bx n w h st).1,((bx n w h st).2.1++[⟨n,w,h,rtl,(bx n w h st).1⟩],(bx n w h st).2.2))
def xn(keeps:Bool)(ns:List af)(rtl:Bool):Nat->Bx
 |0=>fun _ _ _ st=>(⟨0,0,0,[]⟩,st)
 |f+1=>kpF keeps rtl (wV (xn keeps ns rtl f) ns rtl)
abbrev Bv:=Int->aI->aI->ju
def BG(b:Bv)(row:Bool)(kid:Int)(al ac:aI):ju:=if row then b kid al ac else b kid ac al
def CS(b:Bv)(p:Pl)(rtl:Bool)(ns:List af)(kid:Int):Int:=
 if CT p (kst ns kid) rtl≠ -1 then CT p (kst ns kid) rtl else alB p.row (BG b p.row kid (EN p (kst ns kid) rtl) (kcX p (kst ns kid) rtl))
def Ck(b:Bv)(p:Pl)(rtl:Bool)(ns:List af)(kids:List Int):List ag:=kids.map fun k=>FM p (kst ns k) rtl (CS b p rtl ns k)
def C7(b:Bv)(p:Pl)(rtl:Bool)(ns:List af)(ks:List (Int×Int)):List ar:=ks.map fun q=>Gv p (kst ns q.1) rtl (BG b p.row q.1 ⟨3,q.2⟩ (zA p (kst ns q.1) rtl q.2))
def GI(b:Bv)(p:Pl)(rtl:Bool)(ns:List af):ju:=
 GJ p rtl ns (Ck b p rtl ns p.kids) (C7 b p rtl ns (p.kids.zip (rj p (Ck b p rtl ns p.kids))))
def FA(b:Bv)(ns:List af)(rtl:Bool):Bv:=fun n w h=>
 if(nod ns n).measured then zc (kst ns n) w h (wnt (nod ns n).table.rules (ko (inW (kst ns n) w)))
 else if flK ns n=[]then zc (kst ns n) w h (0,0)else GI b (plO ns n w h) rtl ns
def zx(ns:List af)(rtl:Bool):Nat->Bv
 |0=>fun _ _ _=>⟨0,0,0,[]⟩
 |f+1=>FA (zx ns rtl f) ns rtl
def CY(bx:Bx)(b:Bv):Prop:=∀k w h st,(bx k w h st).1=b k w h
variable {b:Bv}
theorem yE{bx:Bx}(hf:CY bx b)(row:Bool)(kid:Int)(al ac:aI)(st:St):(ta bx row kid al ac st).1=BG b row kid al ac:=by
 unfold ta BG
 split<;>exact hf ..
theorem CR{bx:Bx}(hf:CY bx b)(p:Pl)(rtl:Bool)(ns:List af)(kid:Int)(st:St):(wn bx p rtl ns kid st).1=CS b p rtl ns kid:=by
 unfold wn CS
 split
 ·rfl
 ·dsimp only;rw [yE hf]
theorem yj{bx:Bx}{b:Bv}(hf:CY bx b)(p:Pl)(rtl:Bool)(ns:List af):∀(ks:List Int)(st:St),(lN bx p rtl ns ks st).1=Ck b p rtl ns ks
 | [],_=>rfl
 |k::r,st=>by
  simp only [lN,Ck,zqA]
  rw [CR hf,yj hf p rtl ns r];rfl
theorem xR{bx:Bx}{b:Bv}(hf:CY bx b)(p:Pl)(rtl:Bool)(ns:List af):∀(ks:List (Int×Int))(st:St),(tF bx p rtl ns ks st).1=C7 b p rtl ns ks
 | [],_=>rfl
 |(k,z)::r,st=>by
  simp only [tF,C7,zqA]
  rw [yE hf,xR hf p rtl ns r];rfl
theorem Cu{bx:Bx}(hf:CY bx b)(p:Pl)(rtl:Bool)(ns:List af)(st:St):(Cv bx p rtl ns st).1=GI b p rtl ns:=by
 simp only [Cv,GI]
 rw [yj hf,xR hf]
theorem Ca{bx:Bx}(hf:CY bx b)(ns:List af)(rtl:Bool):CY (wV bx ns rtl) (FA b ns rtl):=fun k w h st=>by
 unfold wV FA
 split
 ·rfl
 ·split
  ·rfl
  ·exact Cu hf ..
theorem yC(ns:List af)(rtl:Bool):∀f:Nat,CY (xn false ns rtl f) (zx ns rtl f)
 |0=>fun _ _ _ _=>rfl
 |f+1=>fun k w h st=>by
  have:=Ca (yC ns rtl f) ns rtl k w h st
  simpa [xn,zx,kpF]using this
end Go.Proofs.YtckchgoblpgpbaaGreat
