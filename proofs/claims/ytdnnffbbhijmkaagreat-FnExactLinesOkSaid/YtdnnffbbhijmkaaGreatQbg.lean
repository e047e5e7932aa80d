/- The layout without a state. -/
import Derived.Test.YtdnnffbbhijmkaaGreatQbf
set_option linter.unusedVariables false
set_option linter.unusedSimpArgs false
set_option maxHeartbeats 3200000
namespace Go.Proofs.YtdnnffbbhijmkaaGreat
open Go.ChangeShapes Go.WideShapes Go.ChangeAt Go.RowKit Am Go.Proofs.Tryz
set_option maxRecDepth 100000
def szo(G:Bool)(x:ah):Int:=if lJ G x then hyp x else x.base
theorem zj(G:Bool):∀(xs:List ah),mix xs (xs.map (lJ G)) (xs.map hyp)=xs.map (szo G)
 | []=>rfl
 |x::xs=>by simp only [zqA,mix,zj G xs];rfl
theorem xT{F:List AT→EH→Prop}{eh:EH}{z:LLA}{p:Int}{t r:Nat}{D:List Int}
  (hF:F=nR 0 (fun res h'=>∃rows,h'=rows.map .live∧∃(p:Int),res= .tup [.c (.own 0),.c (.J p)]∧rows=[⟨t,1,vw ao D⟩]))
  (h1:nth eh r=some (.rw ⟨t,1,z⟩)) (hz:z=vw ao D):F [.c (.own r),.c (.J p)] eh:=by
 subst hF hz
 exact .inl ⟨.tup [.c (.own 0),.c (.J p)],toH [.rw ⟨t,1,vw ao D⟩],[some r],
  wkG [some r] ⟨⟨rfl,rfl,trivial⟩,trivial⟩ ⟨⟨_,_,fk h1,rfl,rfl,rfl,.inl ⟨rfl,ag _ _⟩⟩,trivial⟩ (by simp) aI,_,rfl,p,rfl,rfl⟩
theorem va(xs:List ah)(gap inner:Int)(hl:xs.length≤1048576):PC0 340 [.c (.view (vw ah.c xs)),ai gap,ai inner] (.t (abl (Au xs gap inner))):=by
 obtain⟨V,hV⟩:=nmE (vw ah.c xs)
 have hVl:V.length=xs.length:=by rw [hV,af]
 have iV:bR V=true:=by rw [hV];exact aG _ _
 have kV:∀y∈V,y.length=9:=by rw [hV];exact bC (c:=ah.c) (k:=9) fun _=>rfl
 have dV:∀y∈V,y.all dat=true:=by rw [hV];exact az
 have c1:=iJ xs hl
 have c2:=fV xs (xs.map hyp) gap hl (by simpa using hl)
 obtain⟨H,hH⟩:=nmE (vw ao (xs.map hyp))
 have iH:bR H=true:=by rw [hH];exact aG _ _
 have kH:∀y∈H,y.length=1:=by rw [hH];exact bC (c:=ao) (k:=1) fun _=>rfl
 have dH:∀y∈H,y.all dat=true:=by rw [hH];exact az
 obtain⟨O,hO⟩:=nmE (wrap64 (ic xs (xs.map hyp) gap))
 rw [←hV,←hH]at c1 c2
 rw [←hO]at c2
 rw [←hV]
 refine ae (aK f340) aD func340 fun g F hg hF=> ?_
 cbv
 first|(refine bB hg c1 (bp rfl) iH ?_;cbv)|(refine bN hg c1 (bp rfl) iH ?_;cbv)
 first|(refine gR hg c2 (aq (ay rfl) (aq (bi (ab:=⟨_,_,H⟩) rfl kH dH) (aq (ay rfl) (aF)))) rfl ?_;cbv)|(refine eN hg c2 (aq (ay rfl) (aq (bi (ab:=⟨_,_,H⟩) rfl kH dH) (aq (ay rfl) (aF)))) rfl ?_;cbv)
 exact bj hF (by rw [bn hg,Au,hO])
theorem rj(xs:List ah)(gap inner:Int)(hl:xs.length≤1048576):cY prog 309 [.c (.view (vw ah.c xs)),ai gap,ai inner] fun res rows=>∃(p:Int),res= .tup [.c (.own 0),.c (.J p)]∧rows=[⟨3,1,vw ao (flx xs gap inner)⟩]:=by
 have c1:=iJ xs hl
 have c2:=iQ xs hl
 have c3:=va xs gap inner hl
 have cw:=fun(gr:Bool)(i:Int)(h0:0≤i)(h1:i<xs.length)(c1 c2 c4 c5 c6:AC)=>jN xs gr i h0 h1 c1 c2 c4 c5 c6
 obtain⟨V,hV⟩:=nmE (vw ah.c xs)
 have hVl:V.length=xs.length:=by rw [hV,af]
 have iV:bR V=true:=by rw [hV];exact aG _ _
 have kV:∀y∈V,y.length=9:=by rw [hV];exact bC (c:=ah.c) (k:=9) fun _=>rfl
 have dV:∀y∈V,y.all dat=true:=by rw [hV];exact az
 obtain⟨Z,hZ⟩:=nmE (vw ao (xs.map hyp))
 have iZ:bR Z=true:=by rw [hZ];exact aG _ _
 have pZ:aj Z=true:=ej iZ
 obtain⟨D,hD⟩:=nmE (flx xs gap inner)
 obtain⟨IO,hIO⟩:=nmE (dT xs)
 obtain⟨G,hG⟩:=nmE (Au xs gap inner)
 simp only [←hV]at c1 c2 c3 cw
 rw [←hZ]at c1
 rw [←hIO]at c2
 rw [←hG]at c3
 rw [←hV,←hD]
 obtain⟨HL,hHL⟩:=nmE (xs.map (lJ G))
 obtain⟨SL,hSL⟩:=nmE (xs.map (szo G))
 refine ae (aK f309) aD func309 fun g F hg hF=> ?_
 cbv
 repeat'(first|(refine br hg c2 rfl (fun R0 hR0=> ?_);cases R0<;>cbv)|(refine aZ hg c2 rfl (fun R0 hR0=> ?_);cases R0<;>cbv))
 ·first|(refine bB hg c1 (bp rfl) iZ ?_;cbv)|(refine bN hg c1 (bp rfl) iZ ?_;cbv)
  exact xT hF rfl (by rw [hZ,hD,flx,if_neg (by rw [←hIO,←hR0];simp)])
 (first|refine br hg (bI _ _ _) rfl (fun I1 hI1=> ?_)|refine aZ hg (bI _ _ _) rfl (fun I1 hI1=> ?_));cbv
 cases I1<;>cbv
 ·first|(refine bB hg c1 (bp rfl) iZ ?_;cbv)|(refine bN hg c1 (bp rfl) iZ ?_;cbv)
  exact xT hF rfl (by rw [hZ,hD,flx,if_neg (by rw [inL,←hI1];simp)])
 (first|refine br hg (bI _ _ _) rfl (fun I2 hI2=> ?_)|refine aZ hg (bI _ _ _) rfl (fun I2 hI2=> ?_));cbv
 cases I2<;>cbv
 ·first|(refine bB hg c1 (bp rfl) iZ ?_;cbv)|(refine bN hg c1 (bp rfl) iZ ?_;cbv)
  exact xT hF rfl (by rw [hZ,hD,flx,if_neg (by rw [inL,inL,←hI1,←hI2];simp)])
 have hok:(dT xs&&inL gap&&inL inner)=true:=by rw [inL,inL,←hI1,←hI2,←hIO,←hR0];rfl
 first|(refine br hg c3 rfl (fun R hR=> ?_);cbv)|(refine aZ hg c3 rfl (fun R hR=> ?_);cbv)
 obtain rfl:G=R:=hR.symm
 refine aY hg aD (by kernel_rfl) V (fun x=>lc (ah.c x)) xs hV hl (fun z(s:Int×(List Bool×List Int)×LLA×LLA)=>[(0,.v V),(8,.p 0),(9,.i (z))]) (fun z(s:Int×(List Bool×List Int)×LLA×LLA)=>[.bx 300 7 [.view V,.J gap,.J inner,.B G,.own 1,.own 2,.J 0],.rw ⟨4,1,s.2.2.1⟩,.rw ⟨3,1,s.2.2.2⟩]) (fun z(s:Int×(List Bool×List Int)×LLA×LLA)=>s.1=z∧s.2.2.1=vw kg s.2.1.1∧s.2.2.2=vw ao s.2.1.2∧(s.2.1.1.length:Int)=z∧(s.2.1.2.length:Int)=z) (fun(s:Int×(List Bool×List Int)×LLA×LLA) rest=>(s.2.1.1++rest.map (lJ G),s.2.1.2++rest.map (szo G))) ((HL,SL)) (0,([],[]),[],[]) (by rw [hHL,hSL];rfl) ⟨rfl,rfl,rfl,rfl,rfl⟩ (Wk.weak (wkG [some 0,none,none] ⟨rfl,rfl,rfl,trivial⟩ ⟨⟨_,_,rfl,rfl,rfl,rfl,.inr ⟨⟨rfl,rfl,rfl,rfl,rfl,rfl,rfl,trivial⟩,trivial⟩⟩,⟨_,rfl,rfl⟩,⟨_,rfl,rfl⟩,trivial⟩ (by decide) aI)) (fun z s B hz h0 hi he=> ?_) (fun z s x rest B z0 z1 z2 hx hy h0 hi hc e1 hB=> ?_)
 rotate_left
 ·obtain⟨i,⟨H,S⟩,eH,eS⟩:=s
  obtain⟨k1,k2,k3,k4,k5⟩:=hi
  dsimp only at k1 k2 k3 k4 k5 h0
  subst k1
  have hVx:bg V=(xs.length:Int):=by rw [hV,aN]
  have hxl2:i<(xs.length:Int):=hVx▸z1
  have pH:aj eH=true:=by rw [k2];exact ag _ _
  have pS:aj eS=true:=by rw [k3];exact ag _ _
  have lH:eH.length≤1048576:=by rw [k2,af];omega
  have lS:eS.length≤1048576:=by rw [k3,af];omega
  have kH:∀y∈eH,y.length=1:=by rw [k2];exact bC (c:=kg) (k:=1) fun _=>rfl
  have dH:∀y∈eH,y.all dat=true:=by rw [k2];exact az
  have kS:∀y∈eS,y.length=1:=by rw [k3];exact bC (c:=ao) (k:=1) fun _=>rfl
  have dS:∀y∈eS,y.all dat=true:=by rw [k3];exact az
  have cw1:=fun c1 c2 c4 c5 c6=>cw G i z0 hxl2 c1 c2 c4 c5 c6
  have hix:itA xs i=x:=by unfold itA;rw [hx];rfl
  obtain⟨Q0,hQ0⟩:=nmE (wgt G (itA xs i))
  simp only [←hQ0]at cw1
  rw [hix]at hQ0
  obtain⟨y0,y1,y2,y3,y4,y5,y6,y7,y8⟩:=x
  obtain⟨HV,hHV⟩:=nmE (lJ G ⟨y0,y1,y2,y3,y4,y5,y6,y7,y8⟩)
  obtain⟨SV,hSV⟩:=nmE (szo G ⟨y0,y1,y2,y3,y4,y5,y6,y7,y8⟩)
  have hel:HV=if wgt G ⟨y0,y1,y2,y3,y4,y5,y6,y7,y8⟩=0 then true else if G then decide (hyp ⟨y0,y1,y2,y3,y4,y5,y6,y7,y8⟩<y0)else decide (y0<hyp ⟨y0,y1,y2,y3,y4,y5,y6,y7,y8⟩):=hHV
  have hsv:SV=if HV then hyp ⟨y0,y1,y2,y3,y4,y5,y6,y7,y8⟩else y0:=by rw [hSV,szo,←hHV]
  cbv
  rw [hc]
  cbv
  refine goX hg _ z0 hy rfl ?_
  cbv
  (first|refine bq hg (ir ⟨y0,y1,y2,y3,y4,y5,y6,y7,y8⟩) rfl (fun HY hHY=> ?_)|refine aX hg (ir ⟨y0,y1,y2,y3,y4,y5,y6,y7,y8⟩) rfl (fun HY hHY=> ?_));cbv
  refine goX hg _ z0 hy rfl ?_
  cbv
  first|refine gR hg (cw1 _ _ (.view eH) (.view eS) _) (dm (vq rfl ⟨ay rfl,ay rfl,ay rfl,ay rfl,bi (ab:=⟨_,_,eH⟩) rfl kH dH,bi (ab:=⟨_,_,eS⟩) rfl kS dS,ay rfl,trivial⟩) (aq (ay rfl) aF)) rfl ?_|refine eN hg (cw1 _ _ (.view eH) (.view eS) _) (dm (vq rfl ⟨ay rfl,ay rfl,ay rfl,ay rfl,bi (ab:=⟨_,_,eH⟩) rfl kH dH,bi (ab:=⟨_,_,eS⟩) rfl kS dS,ay rfl,trivial⟩) (aq (ay rfl) aF)) rfl ?_
  cbv
  rw [←hHY,←hQ0]at hel
  rw [←hHY]at hsv
  have t0:g .q .eql Q0 0=decide (Q0=0):=by rw [bv hg];rfl
  by_cases hq:Q0=0
  ·rw [t0,zqu hq]
   rw [if_pos hq]at hel
   rw [hel,if_pos rfl]at hsv
   cbv
   have s1:eH++[[.B (true)]]=vw kg (H++[HV]):=by rw [bA,k2,hel];rfl
   have s2:eS++[[.J HY]]=vw ao (S++[SV]):=by rw [bA,k3,hsv];rfl
   refine dl hg rfl (by decide) lH ?_
   cbv
   refine dl hg rfl (by decide) lS ?_
   cbv
   rw [e1]
   simp only [gG hg]
   exact hB ((i+1,(H++[HV],S++[SV]),_,_)) _ _ ⟨(by simpa [hHV,hSV]using h0),⟨rfl,s1,s2,by simp;omega,by simp;omega⟩⟩ (Wk.weak (wkG [some _,some _,some _] ⟨rfl,rfl,rfl,trivial⟩ ⟨⟨_,_,rfl,rfl,rfl,rfl,.inr ⟨⟨rfl,rfl,rfl,rfl,rfl,rfl,rfl,trivial⟩,trivial⟩⟩,⟨_,_,rfl,rfl,rfl,rfl,.inl ⟨rfl,s1.symm▸ag _ _⟩⟩,⟨_,_,rfl,rfl,rfl,rfl,.inl ⟨rfl,s2.symm▸ag _ _⟩⟩,trivial⟩ (by decide) aI))
  ·rw [t0,zqt hq]
   rw [if_neg hq]at hel
   cases hGc:G
   ·rw [hGc]at hel
    cbv
    cases hqq:g .q .lss y0 HY
    ·have hel2:HV=false:=by rw [hel];rw [bn hg]at hqq;exact hqq
     rw [hel2]at hsv
     cbv
     have s1:eH++[[.B (false)]]=vw kg (H++[HV]):=by rw [bA,k2,hel2];rfl
     have s2:eS++[[.J y0]]=vw ao (S++[SV]):=by rw [bA,k3,hsv];rfl
     refine dl hg rfl (by decide) lH ?_
     cbv
     refine dl hg rfl (by decide) lS ?_
     cbv
     rw [e1]
     simp only [gG hg]
     exact hB ((i+1,(H++[HV],S++[SV]),_,_)) _ _ ⟨(by simpa [hHV,hSV]using h0),⟨rfl,s1,s2,by simp;omega,by simp;omega⟩⟩ (Wk.weak (wkG [some _,some _,some _] ⟨rfl,rfl,rfl,trivial⟩ ⟨⟨_,_,rfl,rfl,rfl,rfl,.inr ⟨⟨rfl,rfl,rfl,(by rw [hGc];exact rfl),rfl,rfl,rfl,trivial⟩,trivial⟩⟩,⟨_,_,rfl,rfl,rfl,rfl,.inl ⟨rfl,s1.symm▸ag _ _⟩⟩,⟨_,_,rfl,rfl,rfl,rfl,.inl ⟨rfl,s2.symm▸ag _ _⟩⟩,trivial⟩ (by decide) aI))
    ·have hel2:HV=true:=by rw [hel];rw [bn hg]at hqq;exact hqq
     rw [hel2]at hsv
     cbv
     have s1:eH++[[.B (true)]]=vw kg (H++[HV]):=by rw [bA,k2,hel2];rfl
     have s2:eS++[[.J HY]]=vw ao (S++[SV]):=by rw [bA,k3,hsv];rfl
     refine dl hg rfl (by decide) lH ?_
     cbv
     refine dl hg rfl (by decide) lS ?_
     cbv
     rw [e1]
     simp only [gG hg]
     exact hB ((i+1,(H++[HV],S++[SV]),_,_)) _ _ ⟨(by simpa [hHV,hSV]using h0),⟨rfl,s1,s2,by simp;omega,by simp;omega⟩⟩ (Wk.weak (wkG [some _,some _,some _] ⟨rfl,rfl,rfl,trivial⟩ ⟨⟨_,_,rfl,rfl,rfl,rfl,.inr ⟨⟨rfl,rfl,rfl,(by rw [hGc];exact rfl),rfl,rfl,rfl,trivial⟩,trivial⟩⟩,⟨_,_,rfl,rfl,rfl,rfl,.inl ⟨rfl,s1.symm▸ag _ _⟩⟩,⟨_,_,rfl,rfl,rfl,rfl,.inl ⟨rfl,s2.symm▸ag _ _⟩⟩,trivial⟩ (by decide) aI))
   ·rw [hGc]at hel
    cbv
    cases hqq:g .q .gtr y0 HY
    ·have hel2:HV=false:=by rw [hel];rw [cj hg]at hqq;exact hqq
     rw [hel2]at hsv
     cbv
     have s1:eH++[[.B (false)]]=vw kg (H++[HV]):=by rw [bA,k2,hel2];rfl
     have s2:eS++[[.J y0]]=vw ao (S++[SV]):=by rw [bA,k3,hsv];rfl
     refine dl hg rfl (by decide) lH ?_
     cbv
     refine dl hg rfl (by decide) lS ?_
     cbv
     rw [e1]
     simp only [gG hg]
     exact hB ((i+1,(H++[HV],S++[SV]),_,_)) _ _ ⟨(by simpa [hHV,hSV]using h0),⟨rfl,s1,s2,by simp;omega,by simp;omega⟩⟩ (Wk.weak (wkG [some _,some _,some _] ⟨rfl,rfl,rfl,trivial⟩ ⟨⟨_,_,rfl,rfl,rfl,rfl,.inr ⟨⟨rfl,rfl,rfl,(by rw [hGc];exact rfl),rfl,rfl,rfl,trivial⟩,trivial⟩⟩,⟨_,_,rfl,rfl,rfl,rfl,.inl ⟨rfl,s1.symm▸ag _ _⟩⟩,⟨_,_,rfl,rfl,rfl,rfl,.inl ⟨rfl,s2.symm▸ag _ _⟩⟩,trivial⟩ (by decide) aI))
    ·have hel2:HV=true:=by rw [hel];rw [cj hg]at hqq;exact hqq
     rw [hel2]at hsv
     cbv
     have s1:eH++[[.B (true)]]=vw kg (H++[HV]):=by rw [bA,k2,hel2];rfl
     have s2:eS++[[.J HY]]=vw ao (S++[SV]):=by rw [bA,k3,hsv];rfl
     refine dl hg rfl (by decide) lH ?_
     cbv
     refine dl hg rfl (by decide) lS ?_
     cbv
     rw [e1]
     simp only [gG hg]
     exact hB ((i+1,(H++[HV],S++[SV]),_,_)) _ _ ⟨(by simpa [hHV,hSV]using h0),⟨rfl,s1,s2,by simp;omega,by simp;omega⟩⟩ (Wk.weak (wkG [some _,some _,some _] ⟨rfl,rfl,rfl,trivial⟩ ⟨⟨_,_,rfl,rfl,rfl,rfl,.inr ⟨⟨rfl,rfl,rfl,(by rw [hGc];exact rfl),rfl,rfl,rfl,trivial⟩,trivial⟩⟩,⟨_,_,rfl,rfl,rfl,rfl,.inl ⟨rfl,s1.symm▸ag _ _⟩⟩,⟨_,_,rfl,rfl,rfl,rfl,.inl ⟨rfl,s2.symm▸ag _ _⟩⟩,trivial⟩ (by decide) aI))
 ·obtain⟨i,⟨H,S⟩,eH,eS⟩:=s
  obtain⟨k1,k2,k3,k4,k5⟩:=hi
  dsimp only at k1 k2 k3 k4 k5 h0
  simp only [List.map_nil,List.append_nil,Prod.mk.injEq]at h0
  obtain rfl:HL=H:=h0.1.symm
  obtain rfl:SL=S:=h0.2.symm
  have pH:aj eH=true:=by rw [k2];exact ag _ _
  have pS:aj eS=true:=by rw [k3];exact ag _ _
  have hHl:HL.length=xs.length:=by rw [hHL,zql]
  have hSl:SL.length=xs.length:=by rw [hSL,zql]
  obtain⟨X,hX⟩:=nmE (Fx.of xs gap inner)
  have hXo:dT X.xs=true:=by
   rw [hX]
   simp only [zqs]at hok
   exact hok.1.1
  have hx12:=(eG hXo).2
  have hXx:X.xs=xs:=by rw [hX];rfl
  obtain⟨r,hr1,hr2⟩:=Fx.run_some hXo 13 (xs.map hyp) HL (by rw [hXx];exact hHl) (by have:=jE HL 0;rw [hXx]at hx12;omega)
  have hDr:D=r:=by rw [hD,flx,if_pos hok,←hG,←hHL,←hX,hr1];rfl
  have hrS:X.runS 13 SL HL=some r:=by
   have:=Fx.run_eq hXo 13 (xs.map hyp) HL (by rw [hXx];exact hHl) (by rw [hXx,zql])
   rw [hr1,hXx,hHL,zj,←hSL,←hHL]at this
   exact this
  cbv;rw [he];cbv
  refine z7 hg aD (by kernel_rfl) (fun s:(List Int×List Bool×Int)×LLA×LLA=>[(8,.p 0)]) (fun s=>[.bx 300 7 [.view V,.J gap,.J inner,.B G,.own 1,.own 2,.J s.1.2.2],.rw ⟨4,1,s.2.2⟩,.rw ⟨3,1,s.2.1⟩])
   (fun s=>s.2.1=vw ao s.1.1∧s.2.2=vw kg s.1.2.1∧s.1.1.length=xs.length∧s.1.2.1.length=xs.length) (fun k s=>X.runS k s.1.1 s.1.2.1) r 13 ((SL,HL,0),eS,eH) hrS ⟨k3,k2,hSl,hHl⟩ (Wk.weak (wkG [some 0,some 1,some 2] ⟨rfl,trivial⟩ ⟨⟨_,_,rfl,rfl,rfl,rfl,.inr ⟨⟨rfl,rfl,rfl,rfl,rfl,rfl,rfl,trivial⟩,trivial⟩⟩,wqE rfl pH,wqE rfl pS,trivial⟩ (by decide) aI)) (fun s k B h0 hi hB=> ?_)
  obtain⟨⟨sz,fr,p⟩,eZ,eR⟩:=s
  obtain⟨k1,k2,k3,k4⟩:=hi
  dsimp only at k1 k2 k3 k4 h0
  cases k with
  |zero=>cases h0
  |succ k=>
   rw [Fx.runS]at h0
   have cp:=rg X hXo sz fr (by rw [hXx];exact k3) (by rw [hXx];exact k4) p
   have qZ:aj eZ=true:=by rw [k1];exact ag _ _
   have qR:aj eR=true:=by rw [k2];exact ag _ _
   obtain⟨rt,hrt⟩:=nmE (uO X.xs sz X.gap X.inner X.gr)
   have hXg:X.gap=gap:=by rw [hX];rfl
   have hXi:X.inner=inner:=by rw [hX];rfl
   have hXr:X.gr=G:=by rw [hX,hG];rfl
   rw [←hrt]at cp h0
   simp only [Fx.bx,hXx,hXg,hXi,hXr,←hV,←k1,←k2]at cp
   cbv
   refine Cm hg [0,1,2] cp (by decide) (fun r hr=>by simp only [List.mem_cons,List.not_mem_nil,or_false]at hr;simp only [zqx,List.length_nil];omega) ⟨⟨_,_,rfl,rfl,rfl,rfl,.inr ⟨⟨rfl,rfl,rfl,rfl,rfl,rfl,rfl,trivial⟩,trivial⟩⟩,⟨_,_,rfl,rfl,rfl,rfl,.inl ⟨rfl,qR⟩⟩,⟨_,_,rfl,rfl,rfl,rfl,.inl ⟨rfl,qZ⟩⟩,trivial⟩ ⟨rfl,trivial⟩ fun res eh hq=> ?_
   obtain⟨p',sz',fr',rfl,rfl,h1,h2⟩:=hq
   obtain⟨Z',hZ'⟩:=nmE (vw ao sz')
   obtain⟨R',hR'⟩:=nmE (vw kg fr')
   have pZ':aj Z'=true:=by rw [hZ'];exact ag _ _
   have pR':aj R'=true:=by rw [hR'];exact ag _ _
   rw [←hZ',←hR']
   simp only [dg,EE.mv,tN pZ',tN pR']
   by_cases hn:fre 0 fr=[]
   ·rw [if_pos hn]at h0 h1 h2
    rw [show decide (fre 0 fr≠[])=false by simp [hn]]
    cbv
    subst h1 h2
    exact xT hF rfl (by rw [hZ',hDr];cases h0;rfl)
   ·rw [if_neg hn]at h0 h1 h2
    rw [show decide (fre 0 fr≠[])=true by simp [hn]]
    cbv
    refine hB k ((sz',fr',p'),Z',R') _ _ (Nat.lt_succ_self k) (by rw [h1,h2];exact h0) ⟨hZ',hR',by rw [h1,m7];exact k3,by rw [h2,m8];exact k4⟩ (Wk.weak (wkG [some 0,some 1,some 2] ⟨rfl,trivial⟩ ⟨⟨_,_,rfl,rfl,rfl,rfl,.inr ⟨⟨rfl,rfl,rfl,rfl,rfl,rfl,rfl,trivial⟩,trivial⟩⟩,⟨_,_,rfl,rfl,rfl,rfl,.inl ⟨rfl,pR'⟩⟩,⟨_,_,rfl,rfl,rfl,rfl,.inl ⟨rfl,pZ'⟩⟩,trivial⟩ (by decide) aI))
theorem pQ(xs:List ah)(gap inner:Int)(hl:xs.length≤1048576):cY prog 247 [.c (.view (vw ah.c xs)),ai gap,ai inner] fun res rows=>res= .o 0∧rows=[⟨3,1,vw ao (flx xs gap inner)⟩]:=by
 have cf:=rj xs gap inner hl
 obtain⟨V,hV⟩:=nmE (vw ah.c xs)
 obtain⟨D,hD⟩:=nmE (vw ao (flx xs gap inner))
 have pD:aj D=true:=by rw [hD];exact ag _ _
 rw [←hV,←hD]at cf
 rw [←hV,←hD]
 refine ae (aK f247) aD func247 fun g F hg hF=> ?_
 cbv
 refine sa hg (fj cf rfl fun res rows hq=> ?_)
 obtain⟨p,rfl,rfl⟩:=hq
 refine⟨[.rw ⟨3,1,D⟩],by simp only [zqA,List.map_nil,fA (ab:=⟨3,1,D⟩) pD];rfl,?_⟩
 cbv
 exact bP hF rfl pD
theorem uX(a:Int):wrap64 (wrap64 a)=wrap64 a:=by unfold wrap64;omega
theorem dx(a b:Int):(a !=b)=decide (¬a=b):=by by_cases h:a=b<;>simp [h]
def elZ(l:List Int)(i:Int):Int:=if 0≤i then l[i.toNat]?.getD 0 else 0
def evm(many:Int):Nat:=if many≤64 then many.toNat else 0
def evn(n many:Int):List Int:=shr n (List.replicate (evm many) 1)
theorem zX(m:Nat)(h:m≤64):zd (List.replicate m 1)=true:=by
 simp only [zd,zqs,zqp,zqf,List.length_replicate]
 exact⟨fun w hw=>by rw [List.eq_of_mem_replicate hw];decide,by omega⟩
theorem oL(many:Int):evm many≤64:=by unfold evm;split<;>omega
theorem nN{many:Int}(h0:0≤many)(h1:many≤64):(evm many:Int)=many:=by unfold evm;rw [if_pos h1];omega
theorem gQ(n many:Int):(evn n many).length=evm many:=by rw [evn,shr,if_pos (zX _ (oL many)),wt,List.length_replicate]
theorem nP{l:List Int}{i:Nat}{x:Int}(h:l[i]? =some x):elZ l (i:Int)=x:=by
 unfold elZ;rw [if_pos (by omega),Int.toNat_natCast,h];rfl
theorem AG{l:List Int}{i:Int}(h:i<0∨(l.length:Int)≤i):elZ l i=0:=by
 unfold elZ
 split
 ·rw [zqz (by omega)];rfl
 ·rfl
theorem jZ{l:List Int}{i:Int}(h0:0≤i)(h1:i<(l.length:Int)):l[i.toNat]? =some (elZ l i):=by
 unfold elZ
 rw [if_pos h0,zqc (by omega)];rfl
theorem AI(i:Int):elZ [] i=0:=by unfold elZ;split<;>rfl
def led(free many js:Int):Int:=
 if rng many 1 12=false then 0 else if js=2 then free else if js=3 then fdv free 2
 else if js=5 then(if free<0 then fdv free 2 else elZ (evn free (2*many)) 0)
 else if js=6 then(if free<0 then fdv free 2 else elZ (evn free (many+1)) 0)else 0
def btw(free many js i:Int):Int:=
 if free<0 then 0 else if js=4 then elZ (evn free (many-1)) i
 else if js=5 then wrap64 (elZ (evn free (2*many)) (2*i+1)+elZ (evn free (2*many)) (2*i+2))
 else if js=6 then elZ (evn free (many+1)) (i+1)else 0
def auN:List ah→Int
 | []=>0
 |x::r=>((if x.autoBefore then 1 else 0)+(if x.autoBehind then 1 else 0))+auN r
theorem yh:∀xs:List ah,0≤auN xs∧auN xs≤2*xs.length
 | []=>by simp [auN]
 |x::r=>by
  obtain⟨h1,h2⟩:=yh r
  simp only [auN,zqx]
  split<;>split<;>omega
def auT(ex:List Int)(k:Int)(b:Bool):Int:=if b then elZ ex k else 0
def auK(k:Int)(b:Bool):Int:=if b then k+1 else k
def Gj(ex:List Int)(a k:Int)(x:ah):Int:=wrap64 (a+wrap64 (x.before+auT ex k x.autoBefore))
def GI(ex:List Int)(sp:Int→Int)(gap many i a k:Int)(x:ah)(s:Int):Int:=
 let q:=wrap64 (Gj ex a k x+wrap64 (wrap64 (s+x.behind)+auT ex (auK k x.autoBefore) x.autoBehind))
 if i+1<many then wrap64 (wrap64 (q+gap)+sp i)else q
def wi(ex:List Int)(sp:Int→Int)(gap many:Int):Int→Int→Int→List (ah×Int)→List Int
 |_,_,_,[]=>[]
 |i,a,k,(x,s)::r=>Gj ex a k x::wi ex sp gap many (i+1) (GI ex sp gap many i a k x s) (auK (auK k x.autoBefore) x.autoBehind) r
def al5(xs:List ah)(ss:List Int)(gap inner:Int):Bool:=ss.all (fun s=>rng s 0 1048576)&&(dT xs&&(decide (ss.length=xs.length)&&(rng gap 0 1048576&&rng inner 0 1048576)))
def alF(xs:List ah)(ss:List Int)(gap inner:Int):Int:=sg (wrap64 (inner-wrap64 (ic xs ss gap)))
def alE(xs:List ah)(ss:List Int)(gap inner:Int):List Int:=if 0<auN xs∧0<alF xs ss gap inner then evn (alF xs ss gap inner) (auN xs)else []
def alS(xs:List ah)(free js i:Int):Int:=if auN xs=0 then btw free (xs.length:Int) js i else 0
def al0(xs:List ah)(free js:Int):Int:=if auN xs=0 then led free (xs.length:Int) js else 0
def alg(xs:List ah)(ss:List Int)(gap inner js:Int):List Int:=
 if al5 xs ss gap inner=false then []else wi (alE xs ss gap inner) (alS xs (alF xs ss gap inner) js) gap (xs.length:Int) 0 (al0 xs (alF xs ss gap inner) js) 0 (xs.zip ss)
def yu:Int→List Int→Int
 |a,[]=>a
 |a,c::r=>yu (wrap64 (a+sg c)) r
def crt(cs:List Int)(gap:Int):Int:=if cs=[]then 0 else wrap64 (yu 0 cs+wrap64 (gap*((cs.length:Int)-1)))
def acr(cs:List Int)(gap inner:Int):Bool:=cs.all (fun c=>rng c 0 1048576)&&(decide ((cs.length:Int)≤12)&&(rng gap 0 1048576&&rng inner 0 1048576))
def we(cs:List Int)(gap inner ct:Int):List Int:=if acr cs gap inner=true∧ct=1∧0<wrap64 (inner-crt cs gap)then(cs.zip (evn (wrap64 (inner-crt cs gap)) (cs.length:Int))).map (fun p=>wrap64 (p.1+p.2))else cs
def plG(sp:Int→Int)(gap:Int):Int→Int→List Int→List Int
 |_,_,[]=>[]
 |i,a,c::r=>a::plG sp gap (i+1) (wrap64 (a+wrap64 (wrap64 (c+gap)+sp i))) r
def pll(cs:List Int)(gap inner ct:Int):List Int:=
 if acr cs gap inner=false then []else plG (btw (sg (wrap64 (inner-crt cs gap))) (cs.length:Int) (uP ct)) gap 0 (led (sg (wrap64 (inner-crt cs gap))) (cs.length:Int) (uP ct)) cs
def Bf:Int→Bool→List av→Int
 |m,_,[]=>m
 |m,f,x::r=>if onB x=true∧(f=false∨m<wrap64 (x.before+x.base))then Bf (wrap64 (x.before+x.base)) true r else Bf m f r
def bas(xs:List av):Int:=Bf 0 false xs
def mx2(a b:Int):Int:=if a<b then b else a
def GF(b:Int)(x:av):Int:=if onB x then wrap64 (wrap64 (wrap64 (b+x.size)+x.behind)-x.base)else wrap64 (wrap64 (x.size+x.before)+x.behind)
def Db(b:Int):Int→List av→Int
 |m,[]=>m
 |m,x::r=>Db b (mx2 m (GF b x)) r
def cro(xs:List av):Int:=if(decide ((xs.length:Int)≤12)&&xs.all tf)=false then 0 else cl (Db (bas xs) 0 xs)
def cr2:Int→Int→Bool→List av→Int×Int×Bool
 |n,b,s,[]=>(n,b,s)
 |n,b,s,x::r=>if onB x then cr2 n (if s=false∨b<wrap64 (wrap64 (x.size+x.behind)-x.base)then wrap64 (wrap64 (x.size+x.behind)-x.base)else b) true r
  else cr2 (if n<wrap64 (wrap64 (x.size+x.before)+x.behind)then wrap64 (wrap64 (x.size+x.before)+x.behind)else n) b s r
theorem siB{x:av}(h:tf x=true):(0≤x.size∧x.size≤1048576)∧(0≤x.base∧x.base≤1048576)∧(-1048576≤x.before∧x.before≤1048576)∧ -1048576≤x.behind∧x.behind≤1048576:=by
 simp only [tf,rng,zqs,zqp]at h
 omega
theorem wX:∀(xs:List av)(m:Int)(f:Bool),xs.all tf=true→ -2097152≤m→m≤2097152→ -2097152≤Bf m f xs∧Bf m f xs≤2097152
 | [],m,f,_,h1,h2=>⟨h1,h2⟩
 |x::r,m,f,h,h1,h2=>by
  simp only [zqD,zqs]at h
  have hb:=siB h.1
  have e:=aC (x.before+x.base) (by omega)
  simp only [Bf]
  split
  ·exact wX r _ true h.2 (by omega) (by omega)
  ·exact wX r m f h.2 h1 h2
theorem AO(b:Int)(hb: -2097152≤b∧b≤2097152):∀(xs:List av)(n be:Int)(s:Bool),xs.all tf=true→ -4194304≤be→be≤4194304→
  (if(cr2 n be s xs).2.2=true∧(cr2 n be s xs).1<wrap64 (b+(cr2 n be s xs).2.1)then wrap64 (b+(cr2 n be s xs).2.1)else(cr2 n be s xs).1)=Db b (if s=true∧n<wrap64 (b+be)then wrap64 (b+be)else n) xs
 | [],n,be,s,_,_,_=>rfl
 |x::r,n,be,s,h,h1,h2=>by
  simp only [zqD,zqs]at h
  have hx:=siB h.1
  have e1:=aC (x.size+x.behind) (by omega)
  have e2:=aC (x.size+x.behind-x.base) (by omega)
  have e3:=aC (b+be) (by omega)
  have e4:=aC (b+x.size) (by omega)
  have e5:=aC (b+x.size+x.behind) (by omega)
  have e6:=aC (b+x.size+x.behind-x.base) (by omega)
  have e7:=aC (b+(x.size+x.behind-x.base)) (by omega)
  simp only [cr2,Db,GF,mx2]
  rcases Bool.eq_false_or_eq_true (onB x)with ho|ho
  ·simp only [ho,if_true]
   rw [AO b hb r _ _ _ h.2 (by rw [e1,e2];split<;>omega) (by rw [e1,e2];split<;>omega)]
   congr 1
   simp only [e1,e2,e3,e4,e5,e6]
   cases s
   ·simp only [Bool.false_eq_true,false_and,if_false,true_or,if_true,true_and,e7]
    split<;>split<;>omega
   ·simp only [Bool.true_eq_false,false_or,true_and]
    by_cases hc:be<x.size+x.behind-x.base
    ·rw [if_pos hc,e7];split<;>split<;>(try split)<;>omega
    ·rw [if_neg hc,e3];split<;>split<;>(try split)<;>omega
  ·simp only [ho,Bool.false_eq_true,if_false]
   rw [AO b hb r _ _ _ h.2 h1 h2]
   congr 1
   cases s
   ·simp
   ·simp only [true_and,e3]
    split<;>split<;>(try split)<;>(try split)<;>omega
theorem Ec{xs:List av}(h:xs.all tf=true):(if(cr2 0 0 false xs).2.2=true∧(cr2 0 0 false xs).1<wrap64 (bas xs+(cr2 0 0 false xs).2.1)then wrap64 (bas xs+(cr2 0 0 false xs).2.1)else(cr2 0 0 false xs).1)=Db (bas xs) 0 xs:=by
 have:=AO (bas xs) (wX xs 0 false h (by omega) (by omega)) xs 0 0 false h (by omega) (by omega)
 simpa using this
def lit(xs:List ah)(ln:List Int):List ah:=ln.filterMap fun i=>if 0≤i then xs[i.toNat]? else none
def lou(xs:List ah)(gap:Int)(ln:List Int):Int:=wrap64 (ic (lit xs ln) ((lit xs ln).map hyp) gap)
def lnS(xs:List ah)(gap room:Int)(one:Bool)(out:List (List Int))(i:Int):List (List Int):=
 match out.getLast? with
 |some ln=>if one=true∨lou xs gap (ln++[i])≤room then out.dropLast++[ln++[i]]else out++[[i]]
 |none=>[[i]]
def lnG(xs:List ah)(gap room:Int)(one:Bool):List (List Int)→Int→List ah→List (List Int)
 |out,_,[]=>out
 |out,i,_::r=>lnG xs gap room one (lnS xs gap room one out i) (i+1) r
def lns(xs:List ah)(gap room:Int)(wr:Bool):List (List Int):=lnG xs gap room (!wr||(decide (room<0)|| !dT xs)) [] 0 xs
def lng(xs:List ah)(gap room:Int)(wr:Bool):Int:=(lns xs gap room wr).foldl (fun m l=>mx2 m (lou xs gap l)) 0
def lsz(xs:List ah)(gap room:Int)(wr:Bool)(inner:Int):List Int:=(lns xs gap room wr).flatMap fun l=>flx (lit xs l) gap inner
def ixs:Int→Nat→List Int
 |_,0=>[]
 |i,n+1=>i::ixs (i+1) n
theorem bW:∀(n:Nat)(i:Int),(ixs i n).length=n
 |0,_=>rfl
 |n+1,i=>by simp [ixs,bW n]
theorem k6:∀(n:Nat)(i j:Int),j∈ixs i n↔i≤j∧j<i+n
 |0,i,j=>by simp only [ixs,List.not_mem_nil,false_iff];omega
 |n+1,i,j=>by simp only [ixs,List.mem_cons,k6 n];omega
theorem jx:∀(a b:Nat)(i:Int),ixs i (a+b)=ixs i a++ixs (i+a) b
 |0,b,i=>by simp [ixs]
 |a+1,b,i=>by
  rw [show a+1+b=a+b+1 by omega]
  simp only [ixs,List.cons_append]
  rw [jx a b (i+1),show i+1+(a:Int)=i+((a+1:Nat):Int) by omega]
theorem tQ(xs:List ah)(gap room:Int)(one:Bool)(out:List (List Int))(i:Int):(lnS xs gap room one out i).flatten=out.flatten++[i]∧((∀l∈out,l≠[])→∀l∈lnS xs gap room one out i,l≠[]):=by
 unfold lnS
 rcases List.eq_nil_or_concat out with rfl|⟨o,y,rfl⟩
 ·simp
 ·rw [List.concat_eq_append,List.getLast?_append,List.getLast?_singleton]
  simp only [Option.some_or]
  split
  ·rw [List.dropLast_concat]
   refine⟨by simp,fun h l hl=> ?_⟩
   rcases List.mem_append.1 hl with h1|h1
   ·exact h l (by simp [h1])
   ·rw [List.mem_singleton.1 h1];simp
  ·refine⟨by simp,fun h l hl=> ?_⟩
   rcases List.mem_append.1 hl with h1|h1
   ·exact h l h1
   ·rw [List.mem_singleton.1 h1];simp
theorem tR(xs:List ah)(gap room:Int)(one:Bool):∀(r:List ah)(out:List (List Int))(i:Int),(lnG xs gap room one out i r).flatten=out.flatten++ixs i r.length∧((∀l∈out,l≠[])→∀l∈lnG xs gap room one out i r,l≠[])
 | [],out,i=>by simp [lnG,ixs]
 |x::r,out,i=>by
  obtain⟨h1,h2⟩:=tQ xs gap room one out i
  obtain⟨h3,h4⟩:=tR xs gap room one r (lnS xs gap room one out i) (i+1)
  refine⟨?_,fun h=>h4 (h2 h)⟩
  simp only [lnG,zqx,ixs]
  rw [h3,h1];simp
theorem lC(xs:List ah)(gap room:Int)(wr:Bool):(lns xs gap room wr).flatten=ixs 0 xs.length:=by
 have:=(tR xs gap room (!wr||(decide (room<0)|| !dT xs)) xs [] 0).1
 simpa [lns]using this
theorem E5(xs:List ah)(gap room:Int)(wr:Bool):∀l∈lns xs gap room wr,l≠[]:=(tR xs gap room _ xs [] 0).2 (by simp)
theorem tP{xs:List ah}{gap room:Int}{wr:Bool}{l:List Int}(hl:l∈lns xs gap room wr){i:Int}(hi:i∈l):0≤i∧i<(xs.length:Int):=by
 have:i∈(lns xs gap room wr).flatten:=List.mem_flatten.2 ⟨l,hl,hi⟩
 rw [lC,k6]at this
 omega
theorem jF:∀(ls:List (List Int)),(∀l∈ls,l≠[])→ls.length≤ls.flatten.length
 | [],_=>by simp
 |l::ls,h=>by
  have h1:=jF ls (fun x hx=>h x (List.mem_cons_of_mem _ hx))
  have h2:0<l.length:=List.length_pos_iff.2 (h l (List.mem_cons_self ..))
  simp only [List.flatten_cons,zqe,zqx]
  omega
theorem mw(xs:List ah)(gap room:Int)(wr:Bool):(lns xs gap room wr).length≤xs.length:=by
 have:=jF _ (E5 xs gap room wr)
 rwa [lC,bW]at this
theorem mz{ls:List (List Int)}{l:List Int}(hl:l∈ls):l.length≤ls.flatten.length:=by
 induction ls with
 |nil=>simp at hl
 |cons a ls ih=>
  simp only [List.flatten_cons,zqe]
  rcases List.mem_cons.1 hl with rfl|h
  ·omega
  ·have:=ih h;omega
theorem ju{xs:List ah}{gap room:Int}{wr:Bool}{l:List Int}(hl:l∈lns xs gap room wr):l.length≤xs.length:=by
 have:=mz hl
 rwa [lC,bW]at this
theorem wH{xs:List ah}:∀{ln:List Int},(∀i∈ln,0≤i∧i<(xs.length:Int))→(lit xs ln).length=ln.length
 | [],_=>rfl
 |i::ln,h=>by
  have h1:=h i (List.mem_cons_self ..)
  have:=wH (ln:=ln) fun j hj=>h j (List.mem_cons_of_mem _ hj)
  unfold lit at this⊢
  rw [List.filterMap_cons,if_pos h1.1,zqc (by omega)]
  simp [this]
theorem qw{xs:List ah}{ln:List Int}:(lit xs ln).length≤ln.length:=by unfold lit;exact List.length_filterMap_le _ _
theorem Ab{xs:List ah}{ln:List Int}{x:ah}(h:x∈lit xs ln):x∈xs:=by
 unfold lit at h
 obtain⟨i,_,hi⟩:=List.mem_filterMap.1 h
 split at hi
 ·exact zqd hi
 ·cases hi
theorem wF(xs:List ah)(gap room:Int)(wr:Bool)(inner:Int):(lsz xs gap room wr inner).length=xs.length:=by
 have key:∀ls:List (List Int),(∀l∈ls,∀i∈l,0≤i∧i<(xs.length:Int))→(ls.flatMap fun l=>flx (lit xs l) gap inner).length=ls.flatten.length:=by
  intro ls
  induction ls with
  |nil=>intro _;rfl
  |cons l ls ih=>
   intro h
   simp only [List.flatMap_cons,List.flatten_cons,zqe]
   rw [ih fun x hx=>h x (List.mem_cons_of_mem _ hx),D4,wH (h l (List.mem_cons_self ..))]
 unfold lsz
 rw [key _ fun l hl i hi=>tP hl hi,lC,bW]
theorem nz(n:Nat)(i:Int):ixs i (n+1)=ixs i n++[i+n]:=by rw [jx n 1 i];rfl
theorem vH:∀(n j:Nat)(i:Int),j<n→(ixs i n)[j]? =some (i+j)
 |0,_,_,h=>by omega
 |n+1,0,i,_=>by simp [ixs]
 |n+1,j+1,i,h=>by
  simp only [ixs,List.getElem?_cons_succ]
  rw [vH n j (i+1) (by omega)]
  congr 1;omega
def spc(free many js:Int):List Int:=(ixs 0 many.toNat).map fun i=>if i+1<many then btw free many js i else 0
def spL(b:Int→Int)(m z:Nat):List Int:=(ixs 0 z).map b++List.replicate (m-z) 0
theorem DB(b:Int→Int){m z:Nat}(h:z≤m):(spL b m z).length=m:=by simp [spL,bW];omega
theorem wq(b:Int→Int){m z:Nat}(h:z<m):spL b m z=(ixs 0 z).map b++0::List.replicate (m-(z+1)) 0:=by
 rw [spL,show m-z=(m-(z+1))+1 by omega,List.replicate_succ]
theorem xm(b:Int→Int){m z:Nat}(h:z<m):spL b m (z+1)=(ixs 0 z).map b++b z::List.replicate (m-(z+1)) 0:=by
 rw [spL,nz,List.map_append,zqC];simp
theorem DA(b:Int→Int){m z:Nat}(h:z<m):(spL b m z).set z (b z)=spL b m (z+1):=by
 rw [wq b h,xm b h,List.set_append_right _ _ (by simp [bW])]
 simp [bW]
theorem Bn(b:Int→Int){m z:Nat}(h:z<m)(hb:b z=0):spL b m z=spL b m (z+1):=by rw [wq b h,xm b h,hb]
theorem Ez(b:Int→Int){m z:Nat}(h:z<m):(spL b m z)[z]? =some 0:=by
 rw [wq b h,zqg (by simp [bW])]
 simp [bW]
theorem Dz(free many js:Int){z:Nat}(h0:0≤many)(hz:z=0∨(z:Int)<many)(h:¬(z:Int)+1<many):spL (btw free many js) many.toNat z=spc free many js:=by
 have key:∀n:Nat,(n:Int)+1≤many→(ixs 0 n).map (btw free many js)=(ixs 0 n).map fun i=>if i+1<many then btw free many js i else 0:=fun n hn=>
  List.map_congr_left fun i hi=>by rw [k6]at hi;rw [if_pos (by omega)]
 unfold spc
 by_cases hm:many=0
 ·subst hm
  obtain rfl:z=0:=by omega
  simp [spL,ixs]
 obtain rfl:many=(z:Int)+1:=by omega
 rw [show((z:Int)+1).toNat=z+1 by omega,nz,List.map_append,spL,key z (by omega)]
 simp
theorem Dy(free many js:Int)(h:free<0):spc free many js=List.replicate many.toNat 0:=by
 unfold spc
 have:∀(n:Nat)(j:Int),(ixs j n).map (fun i=>if i+1<many then btw free many js i else 0)=List.replicate n 0:=by
  intro n
  induction n with
  |zero=>intro j;rfl
  |succ n ih=>
   intro j
   simp only [ixs,zqA,List.replicate_succ]
   rw [ih (j+1)]
   congr 1
   split
   ·unfold btw;rw [if_pos h]
   ·rfl
 exact this _ 0
theorem CJ(free many js:Int){i:Int}(h0:0≤i)(h1:i<many):(spc free many js)[i.toNat]? =some (if i+1<many then btw free many js i else 0):=by
 unfold spc
 rw [zqi,vH _ _ _ (show i.toNat<many.toNat by omega)]
 simp only [Option.map_some]
 rw [show(0:Int)+(i.toNat:Int)=i by omega]
structure fu(G es:LLA)(z:Int):Prop where
 z0:0≤z
 z1:z≤bg G
 eq:es=G.take z.toNat
section
variable {P : Program} {n0 N : Nat} {g : Gd}
theorem GQ(hg:g=G0 P n0 N){xs:LLA}{z:Int}{j k:Nat}{K:Nat→Prop}(hz:0≤z)(hj:j=z.toNat)(hy:j<xs.length)(hK:K j):g .Y k xs z K:=by subst hg hj;exact⟨hz,hy,hK⟩
end
def m3(k:Int):Bool:=k.tmod 3==0
theorem qn{E:LLA}{j:Nat}{y:List AC}(h:aj E=true)(hy:y.all dz=true):aj (E.set j y)=true:=by
 rw [aj,zqf]at h⊢
 intro x hx
 rcases List.mem_or_eq_of_mem_set hx with hx|rfl
 ·exact h x hx
 ·exact hy
section
variable {P : Program} {n0 N : Nat} {g : Gd}
theorem uy{F:List AT→EH→Prop}{w h b:Int}{r:Nat}{eh:EH}{ab:AB}(hF:F=nR 0 (fun res h'=>∃rows,h'=rows.map .live∧(res= .t (.agg [.J w,.J h,.J b,.own 0])∧rows=[ab])))(hr:nth eh r=some (.rw ab))(hp:aj ab.es=true):
  F [.agg [.J w,.J h,.J b,.own r]] eh:=by
 subst hF
 refine .inl ⟨.t (.agg [.J w,.J h,.J b,.own 0]),[.live ab],[some r],⟨Nat.zero_le _,fun i hi=>absurd hi (Nat.not_lt_zero _),by simp,?_,?_⟩,[ab],rfl,rfl,rfl⟩
 ·simp only [rnH,zqw,fk hr]
  exact⟨fun h=>absurd h (Nat.not_lt_zero _),⟨by first|trivial|rfl,by first|trivial|rfl,.inl ⟨by first|trivial|rfl,hp⟩⟩,trivial⟩
 ·exact⟨.inr ⟨rfl,rfl,rfl,rfl,trivial⟩,trivial⟩
theorem uI{β:BP}(hg:g=G0 P n0 N){h:EH}{f:FuncId}{args:List AT}{K:AV→EH→Prop}{a b c:Int}{ab:AB}(hc:cY P f args fun res rows=>res= .t (.agg [.J a,.J b,.J c,.own 0])∧rows=[ab])(hd:i7 args=true)(hp:aj ab.es=true)
  (hK:K (.t (.agg [.J a,.J b,.J c,.own (lG h)])) (h++[.rw ab])):g .C f h args K:=
 sa hg (fj hc hd fun res rows hpost=>by
  obtain⟨rfl,rfl⟩:=hpost
  rw [dh]at hK
  refine⟨[.rw ab],by simp only [zqA,List.map_nil,fA hp];rfl,?_⟩
  rw [bT];exact hK)
end
def EV(n:Int)(w h:aw)(rtl:Bool)(m:ov):Bool:=(m.node==n)&&decide (m.wide=w)&&decide (m.high=h)&&(m.rtl==rtl)
def DQ(n:Int)(w h:aw)(rtl:Bool):List ov→jK×Bool
 | []=>(⟨0,0,0,[]⟩,false)
 |m::ms=>if EV n w h rtl m then(m.box,true)else DQ n w h rtl ms
structure Pl where
 s:ar
 row:Bool
 w:aw
 h:aw
 wide:aw
 high:aw
 al:aw
 ac:aw
 kids:List Int
def GN:ar:=ar.of (fun _=>0) (fun _=>false)
def kst(ns:List ak)(k:Int):ar:=match ns[(k-1).toNat]? with|some y=>y.style|none=>GN
def plO(ns:List ak)(n:Int)(w h:aw):Pl:=
 ⟨kst ns n,jq (kst ns n),w,h,inW (kst ns n) w,inH (kst ns n) h,if jq (kst ns n)then inW (kst ns n) w else inH (kst ns n) h,if jq (kst ns n)then inH (kst ns n) h else inW (kst ns n) w,flK ns n⟩
abbrev St:=List ov×List j8
abbrev Bx:=Int→aw→aw→St→jK×St
def kcX(p:Pl)(k:ar)(rtl:Bool):aw:=Eb p.s k rtl p.row p.ac (knS p.wide)
def xy(p:Pl)(k:ar)(rtl main:Bool):av:=sdB p.s k rtl main (knS p.wide)
def Eg(p:Pl)(k:ar)(rtl:Bool):aw:=if p.row then BG (pk p.al (wrap64 ((xy p k rtl true).before+(xy p k rtl true).behind)))else⟨1,0⟩
def Ct(p:Pl)(k:ar)(rtl:Bool):Int:=
 if sq k.basis (knS p.al)≠ -1 then sq k.basis (knS p.al)else if qM k p.row (knS p.al)≠ -1 then qM k p.row (knS p.al)
 else if(kcX p k rtl).mode=3 then rC k p.row (kcX p k rtl).n else-1
def sW(bx:Bx)(row:Bool)(kid:Int)(al ac:aw)(st:St):jK×St:=if row then bx kid al ac st else bx kid ac al st
def alB(row:Bool)(b:jK):Int:=if row then b.wide else b.high
def wa(bx:Bx)(p:Pl)(rtl:Bool)(ns:List ak)(kid:Int)(st:St):Int×St:=
 if Ct p (kst ns kid) rtl≠ -1 then(Ct p (kst ns kid) rtl,st)else
 (alB p.row (sW bx p.row kid (Eg p (kst ns kid) rtl) (kcX p (kst ns kid) rtl) st).1,(sW bx p.row kid (Eg p (kst ns kid) rtl) (kcX p (kst ns kid) rtl) st).2)
def Fd(p:Pl)(k:ar)(rtl:Bool)(b:Int):ah:=
 ⟨b,z6 k p.row (knS p.al),Ba k p.row (knS p.al),k.grow,k.shrink,(xy p k rtl true).before,(xy p k rtl true).behind,(xy p k rtl true).autoBefore,(xy p k rtl true).autoBehind⟩
def j9(bx:Bx)(p:Pl)(rtl:Bool)(ns:List ak):List Int→St→List ah×St
 | [],st=>([],st)
 |k::r,st=>(Fd p (kst ns k) rtl (wa bx p rtl ns k st).1::(j9 bx p rtl ns r (wa bx p rtl ns k st).2).1,(j9 bx p rtl ns r (wa bx p rtl ns k st).2).2)
def Bc(p:Pl):Int:=fP p.s p.row
def sM(p:Pl):Int:=fP p.s (!p.row)
def wrP(p:Pl):Bool:= !decide (p.s.wrap=1)
def Bb(p:Pl)(xs:List ah):Int:=tak p.al (lng xs (Bc p) (gW p.al) (wrP p))
def pb(p:Pl)(xs:List ah):List Int:=lsz xs (Bc p) (gW p.al) (wrP p) (Bb p xs)
def my(p:Pl)(xs:List ah):List (List Int):=lns xs (Bc p) (gW p.al) (wrP p)
def y9(p:Pl)(k:ar)(rtl:Bool)(size:Int):aw:=
 if(kcX p k rtl).mode≠3∧qM k (!p.row) (knS p.ac)= -1∧rC k (!p.row) size≠ -1 then⟨3,oM k (!p.row) (knS p.ac) (rC k (!p.row) size)⟩else kcX p k rtl
def rF(a b:Int):Int:=if b<a then b else a
def FS(p:Pl)(k:ar)(rtl:Bool)(b:jK):av:=
 ⟨oM k (!p.row) (knS p.ac) (alB (!p.row) b),(xy p k rtl false).before,(xy p k rtl false).behind,(xy p k rtl false).autoBefore,(xy p k rtl false).autoBehind,yZ p.s k,rF b.base (oM k (!p.row) (knS p.ac) (alB (!p.row) b))⟩
def tu(bx:Bx)(p:Pl)(rtl:Bool)(ns:List ak):List (Int×Int)→St→List av×St
 | [],st=>([],st)
 |(k,z)::r,st=>
  (FS p (kst ns k) rtl (sW bx p.row k ⟨3,z⟩ (y9 p (kst ns k) rtl z) st).1::(tu bx p rtl ns r (sW bx p.row k ⟨3,z⟩ (y9 p (kst ns k) rtl z) st).2).1,(tu bx p rtl ns r (sW bx p.row k ⟨3,z⟩ (y9 p (kst ns k) rtl z) st).2).2)
def pck(sides:List av)(ln:List Int):List av:=ln.filterMap fun i=>if 0≤i then sides[i.toNat]? else none
def Gg(p:Pl)(sides:List av)(ln:List Int):Int:=if p.s.wrap=1∧p.ac.mode=3 then p.ac.n else cro (pck sides ln)
def wS(p:Pl)(lines:List (List Int))(sides:List av):List Int:=
 if¬p.s.wrap=1∧p.ac.mode=3 then we (lines.map (Gg p sides)) (sM p) p.ac.n p.s.content else lines.map (Gg p sides)
def yl(p:Pl)(cs:List Int):Int:=tak p.ac (crt cs (sM p))
def ctP(p:Pl):Int:=if p.s.wrap=1 then 2 else p.s.content
def El(p:Pl)(cs:List Int):List Int:=pll cs (sM p) (yl p cs) (ctP p)
def sdZ(sides:List av)(i:Int):av:=(if 0≤i then sides[i.toNat]? else none).getD ⟨0,0,0,false,false,0,0⟩
def Ay(x:av)(z:Int):av:=⟨z,x.before,x.behind,x.autoBefore,x.autoBehind,x.align,rF x.base z⟩
def wP(p:Pl)(ns:List ak)(sides:List av)(sizes:List Int)(c i:Int):av:=
 if xW (sdZ sides i)=true∧qM (kst ns (elZ p.kids i)) (!p.row) (knS p.ac)= -1∧rC (kst ns (elZ p.kids i)) (!p.row) (elZ sizes i)= -1 then
  Ay (sdZ sides i) (oM (kst ns (elZ p.kids i)) (!p.row) (knS p.ac) (wrap64 (c-wrap64 ((sdZ sides i).before+(sdZ sides i).behind))))
 else sdZ sides i
def AA(p:Pl)(ns:List ak)(sides:List av)(sizes:List Int)(ls:List (List Int×Int)):List av:=ls.flatMap fun q=>q.1.map (wP p ns sides sizes q.2)
def D3(p:Pl)(rtl:Bool)(inner across:Int)(sizes:List Int)(sides:List av)(st c lb a0 i:Int):aV:=
 let a:=CT inner a0 (elZ sizes i) (kO p.s rtl)
 let b:=CT across (wrap64 (st+DN (sdZ sides i) c lb)) (sdZ sides i).size (ll p.s rtl)
 if p.row then⟨elZ p.kids i,wrap64 (a+(nL p.s).left),wrap64 (b+(nL p.s).top),elZ sizes i,(sdZ sides i).size⟩
 else⟨elZ p.kids i,wrap64 (b+(nL p.s).left),wrap64 (a+(nL p.s).top),(sdZ sides i).size,elZ sizes i⟩
def qY(p:Pl)(rtl:Bool)(inner across:Int)(sizes:List Int)(sides:List av)(st c lb:Int)(ps:List Int):Int→List Int→List aV
 |_,[]=>[]
 |j,i::r=>D3 p rtl inner across sizes sides st c lb (elZ ps j) i::qY p rtl inner across sizes sides st c lb ps (j+1) r
def EO(p:Pl)(items:List ah)(inner:Int)(sizes:List Int)(ln:List Int):List Int:=alg (lit items ln) (ln.map (elZ sizes)) (Bc p) inner p.s.justify
def wh(p:Pl)(rtl:Bool)(items:List ah)(inner across:Int)(sizes:List Int)(sides:List av)(sts:List Int):Int→List (List Int×Int)→List aV
 |_,[]=>[]
 |k,(ln,c)::r=>qY p rtl inner across sizes sides (elZ sts k) c (bas (pck sides ln)) (EO p items inner sizes ln) 0 ln++wh p rtl items inner across sizes sides sts (k+1) r
def Dh(p:Pl)(inner across:Int)(frames:List aV)(sides:List av):jK:=
 ⟨tak p.w (wrap64 ((if p.row then inner else across)+adE (nL p.s).left (nL p.s).right)),tak p.h (wrap64 ((if p.row then across else inner)+adE (nL p.s).top (nL p.s).bottom)),
  cl (wrap64 ((match frames with|f::_=>f.y| []=>0)+(sdZ sides 0).base)),frames⟩
def Ga(p:Pl)(rtl:Bool)(ns:List ak)(items:List ah)(sides0:List av):jK:=
 let lines:=my p items
 let sizes:=pb p items
 let cs:=wS p lines sides0
 let sides:=AA p ns sides0 sizes (lines.zip cs)
 Dh p (Bb p items) (yl p cs) (wh p rtl items (Bb p items) (yl p cs) sizes sides (El p cs) 0 (lines.zip cs)) sides
def B5(bx:Bx)(p:Pl)(rtl:Bool)(ns:List ak)(st:St):jK×St:=
 let a:=j9 bx p rtl ns p.kids st
 let b:=tu bx p rtl ns (p.kids.zip (pb p a.1)) a.2
 (Ga p rtl ns a.1 b.1,b.2)
def yJ(s:ar)(w h:aw)(q:Int×Int):jK:=
 ⟨tak w (wrap64 (q.1+adE (nL s).left (nL s).right)),tak h (wrap64 (q.2+adE (nL s).top (nL s).bottom)),tak h (wrap64 (q.2+adE (nL s).top (nL s).bottom)),[]⟩
def wnt(rs:List aJ)(room:Int):Int×Int:=
 match rs.find? fun r=>decide (room= -1)||decide (r.room≤room)with|some r=>(cl r.wide,cl r.high)|none=>(0,0)
def nod(ns:List ak)(n:Int):ak:=(ns[(n-1).toNat]?).getD ⟨0,[],GN,false,⟨[]⟩⟩
def wD(bx:Bx)(ns:List ak)(rtl:Bool)(n:Int)(w h:aw)(st:St):jK×St:=
 if(nod ns n).measured then(yJ (kst ns n) w h (wnt (nod ns n).table.rules (gW (inW (kst ns n) w))),(st.1,st.2++[⟨n,w,h,rtl⟩]))
 else if flK ns n=[]then(yJ (kst ns n) w h (0,0),st)else B5 bx (plO ns n w h) rtl ns st
def kpF(keeps:Bool)(rtl:Bool)(bx:Bx):Bx:=fun n w h st=>
 if keeps=false then bx n w h st else
 if(DQ n w h rtl st.1).2 then((DQ n w h rtl st.1).1,st)else((bx n w h st).1,((bx n w h st).2.1++[⟨n,w,h,rtl,(bx n w h st).1⟩],(bx n w h st).2.2))
def uR(keeps:Bool)(ns:List ak)(rtl:Bool):Nat→Bx
 |0=>fun _ _ _ st=>(⟨0,0,0,[]⟩,st)
 |f+1=>kpF keeps rtl (wD (uR keeps ns rtl f) ns rtl)
abbrev Bv:=Int→aw→aw→jK
def Bg(b:Bv)(row:Bool)(kid:Int)(al ac:aw):jK:=if row then b kid al ac else b kid ac al
def Cs(b:Bv)(p:Pl)(rtl:Bool)(ns:List ak)(kid:Int):Int:=
 if Ct p (kst ns kid) rtl≠ -1 then Ct p (kst ns kid) rtl else alB p.row (Bg b p.row kid (Eg p (kst ns kid) rtl) (kcX p (kst ns kid) rtl))
def uh(b:Bv)(p:Pl)(rtl:Bool)(ns:List ak)(kids:List Int):List ah:=kids.map fun k=>Fd p (kst ns k) rtl (Cs b p rtl ns k)
def CK(b:Bv)(p:Pl)(rtl:Bool)(ns:List ak)(ks:List (Int×Int)):List av:=ks.map fun q=>FS p (kst ns q.1) rtl (Bg b p.row q.1 ⟨3,q.2⟩ (y9 p (kst ns q.1) rtl q.2))
def F9(b:Bv)(p:Pl)(rtl:Bool)(ns:List ak):jK:=
 Ga p rtl ns (uh b p rtl ns p.kids) (CK b p rtl ns (p.kids.zip (pb p (uh b p rtl ns p.kids))))
def EY(b:Bv)(ns:List ak)(rtl:Bool):Bv:=fun n w h=>
 if(nod ns n).measured then yJ (kst ns n) w h (wnt (nod ns n).table.rules (gW (inW (kst ns n) w)))
 else if flK ns n=[]then yJ (kst ns n) w h (0,0)else F9 b (plO ns n w h) rtl ns
def uQ(ns:List ak)(rtl:Bool):Nat→Bv
 |0=>fun _ _ _=>⟨0,0,0,[]⟩
 |f+1=>EY (uQ ns rtl f) ns rtl
def Dj(bx:Bx)(b:Bv):Prop:=∀k w h st,(bx k w h st).1=b k w h
theorem yi{bx:Bx}{b:Bv}(hf:Dj bx b)(row:Bool)(kid:Int)(al ac:aw)(st:St):(sW bx row kid al ac st).1=Bg b row kid al ac:=by
 unfold sW Bg
 split<;>exact hf ..
theorem Cr{bx:Bx}{b:Bv}(hf:Dj bx b)(p:Pl)(rtl:Bool)(ns:List ak)(kid:Int)(st:St):(wa bx p rtl ns kid st).1=Cs b p rtl ns kid:=by
 unfold wa Cs
 split
 ·rfl
 ·dsimp only;rw [yi hf]
theorem ug{bx:Bx}{b:Bv}(hf:Dj bx b)(p:Pl)(rtl:Bool)(ns:List ak):∀(ks:List Int)(st:St),(j9 bx p rtl ns ks st).1=uh b p rtl ns ks
 | [],_=>rfl
 |k::r,st=>by
  simp only [j9,uh,zqA]
  rw [Cr hf,ug hf p rtl ns r];rfl
theorem xx{bx:Bx}{b:Bv}(hf:Dj bx b)(p:Pl)(rtl:Bool)(ns:List ak):∀(ks:List (Int×Int))(st:St),(tu bx p rtl ns ks st).1=CK b p rtl ns ks
 | [],_=>rfl
 |(k,z)::r,st=>by
  simp only [tu,CK,zqA]
  rw [yi hf,xx hf p rtl ns r];rfl
theorem B4{bx:Bx}{b:Bv}(hf:Dj bx b)(p:Pl)(rtl:Bool)(ns:List ak)(st:St):(B5 bx p rtl ns st).1=F9 b p rtl ns:=by
 simp only [B5,F9]
 rw [ug hf,xx hf]
theorem BF{bx:Bx}{b:Bv}(hf:Dj bx b)(ns:List ak)(rtl:Bool):Dj (wD bx ns rtl) (EY b ns rtl):=fun k w h st=>by
 unfold wD EY
 split
 ·rfl
 ·split
  ·rfl
  ·exact B4 hf ..
theorem yf(ns:List ak)(rtl:Bool):∀f:Nat,Dj (uR false ns rtl f) (uQ ns rtl f)
 |0=>fun _ _ _ _=>rfl
 |f+1=>fun k w h st=>by
  have:=BF (yf ns rtl f) ns rtl k w h st
  simpa [uR,uQ,kpF]using this
end Go.Proofs.YtdnnffbbhijmkaaGreat
