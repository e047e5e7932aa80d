/- The layout without a state. -/
import Derived.Test.YtdnnffbbhijmkaaGreatRbg
set_option linter.unusedVariables false
set_option linter.unusedSimpArgs false
set_option maxHeartbeats 3200000
namespace Go.Proofs.YtdnnffbbhijmkaaGreat
open Go.ChangeShapes Go.WideShapes Go.ChangeAt Go.RowKit Am Go.Proofs.Tryz
set_option maxRecDepth 100000
def szo(G:Bool)(x:aj):Int:=if mg G x then hyp x else x.base
theorem yM(G:Bool):∀(xs:List aj),mix xs (xs.map (mg G)) (xs.map hyp)=xs.map (szo G)
 | []=>rfl
 |x::xs=>by simp only [zqA,mix,yM G xs];rfl
theorem xx{F:List AT→EH→Prop}{eh:EH}{z:List (List AC)}{p:Int}{t r:Nat}{D:List Int}
  (hF:F=ny 0 (fun res h'=>∃rows,h'=rows.map .live∧∃(p:Int),res= .tup [.c (.own 0),.c (.J p)]∧rows=[⟨t,1,vw ao D⟩]))
  (h1:nth eh r=some (.rw ⟨t,1,z⟩)) (hz:z=vw ao D):F [.c (.own r),.c (.J p)] eh:=by
 subst hF hz
 exact .inl ⟨.tup [.c (.own 0),.c (.J p)],toH [.rw ⟨t,1,vw ao D⟩],[some r],
  wkG [some r] ⟨⟨rfl,rfl,trivial⟩,trivial⟩ ⟨⟨_,_,fB h1,rfl,rfl,rfl,.inl ⟨rfl,ag _ _⟩⟩,trivial⟩ (by simp) aG,_,rfl,p,rfl,rfl⟩
theorem uE(xs:List aj)(gap inner:Int)(hl:xs.length≤1048576):PC0 340 [.c (.view (vw aj.c xs)),ai gap,ai inner] (.t (abl (zT xs gap inner))):=by
 obtain⟨V,hV⟩:=nmE (vw aj.c xs)
 have hVl:V.length=xs.length:=by rw [hV,af]
 have iV:bQ V=true:=by rw [hV];exact aI _ _
 have kV:∀y∈V,y.length=9:=by rw [hV];exact bL (c:=aj.c) (k:=9) fun _=>rfl
 have dV:∀y∈V,y.all dat=true:=by rw [hV];exact az
 have c1:=ix xs hl
 have c2:=fV xs (xs.map hyp) gap hl (by simpa using hl)
 obtain⟨H,hH⟩:=nmE (vw ao (xs.map hyp))
 have iH:bQ H=true:=by rw [hH];exact aI _ _
 have kH:∀y∈H,y.length=1:=by rw [hH];exact bL (c:=ao) (k:=1) fun _=>rfl
 have dH:∀y∈H,y.all dat=true:=by rw [hH];exact az
 obtain⟨O,hO⟩:=nmE (wrap64 (gU xs (xs.map hyp) gap))
 rw [←hV,←hH]at c1 c2
 rw [←hO]at c2
 rw [←hV]
 refine ae (aN f340) aB func340 fun g F hg hF=> ?_
 cbv
 first|(refine bM hg c1 (bE rfl) iH ?_;cbv)|(refine bX hg c1 (bE rfl) iH ?_;cbv)
 first|(refine gI hg c2 (ar (aw rfl) (ar (bi (ab:=⟨_,_,H⟩) rfl kH dH) (ar (aw rfl) (aC)))) rfl ?_;cbv)|(refine eJ hg c2 (ar (aw rfl) (ar (bi (ab:=⟨_,_,H⟩) rfl kH dH) (ar (aw rfl) (aC)))) rfl ?_;cbv)
 exact bn hF (by rw [bk hg,zT,hO])
theorem qM(xs:List aj)(gap inner:Int)(hl:xs.length≤1048576):dg prog 309 [.c (.view (vw aj.c xs)),ai gap,ai inner] fun res rows=>∃(p:Int),res= .tup [.c (.own 0),.c (.J p)]∧rows=[⟨3,1,vw ao (flx xs gap inner)⟩]:=by
 have c1:=ix xs hl
 have c2:=iA xs hl
 have c3:=uE xs gap inner hl
 have cw:=fun(gr:Bool)(i:Int)(h0:0≤i)(h1:i<xs.length)(c1 c2 c4 c5 c6:AC)=>jF xs gr i h0 h1 c1 c2 c4 c5 c6
 obtain⟨V,hV⟩:=nmE (vw aj.c xs)
 have hVl:V.length=xs.length:=by rw [hV,af]
 have iV:bQ V=true:=by rw [hV];exact aI _ _
 have kV:∀y∈V,y.length=9:=by rw [hV];exact bL (c:=aj.c) (k:=9) fun _=>rfl
 have dV:∀y∈V,y.all dat=true:=by rw [hV];exact az
 obtain⟨Z,hZ⟩:=nmE (vw ao (xs.map hyp))
 have iZ:bQ Z=true:=by rw [hZ];exact aI _ _
 have pZ:ah Z=true:=i9 iZ
 obtain⟨D,hD⟩:=nmE (flx xs gap inner)
 obtain⟨IO,hIO⟩:=nmE (dX xs)
 obtain⟨G,hG⟩:=nmE (zT xs gap inner)
 simp only [←hV]at c1 c2 c3 cw
 rw [←hZ]at c1
 rw [←hIO]at c2
 rw [←hG]at c3
 rw [←hV,←hD]
 obtain⟨HL,hHL⟩:=nmE (xs.map (mg G))
 obtain⟨SL,hSL⟩:=nmE (xs.map (szo G))
 refine ae (aN f309) aB func309 fun g F hg hF=> ?_
 cbv
 repeat'(first|(refine br hg c2 rfl (fun R0 hR0=> ?_);cases R0<;>cbv)|(refine aZ hg c2 rfl (fun R0 hR0=> ?_);cases R0<;>cbv))
 ·first|(refine bM hg c1 (bE rfl) iZ ?_;cbv)|(refine bX hg c1 (bE rfl) iZ ?_;cbv)
  exact xx hF rfl (by rw [hZ,hD,flx,if_neg (by rw [←hIO,←hR0];simp)])
 (first|refine br hg (bG _ _ _) rfl (fun I1 hI1=> ?_)|refine aZ hg (bG _ _ _) rfl (fun I1 hI1=> ?_));cbv
 cases I1<;>cbv
 ·first|(refine bM hg c1 (bE rfl) iZ ?_;cbv)|(refine bX hg c1 (bE rfl) iZ ?_;cbv)
  exact xx hF rfl (by rw [hZ,hD,flx,if_neg (by rw [inL,←hI1];simp)])
 (first|refine br hg (bG _ _ _) rfl (fun I2 hI2=> ?_)|refine aZ hg (bG _ _ _) rfl (fun I2 hI2=> ?_));cbv
 cases I2<;>cbv
 ·first|(refine bM hg c1 (bE rfl) iZ ?_;cbv)|(refine bX hg c1 (bE rfl) iZ ?_;cbv)
  exact xx hF rfl (by rw [hZ,hD,flx,if_neg (by rw [inL,inL,←hI1,←hI2];simp)])
 have hok:(dX xs&&inL gap&&inL inner)=true:=by rw [inL,inL,←hI1,←hI2,←hIO,←hR0];rfl
 first|(refine br hg c3 rfl (fun R hR=> ?_);cbv)|(refine aZ hg c3 rfl (fun R hR=> ?_);cbv)
 obtain rfl:G=R:=hR.symm
 refine ba hg aB (by kernel_rfl) V (fun x=>lc (aj.c x)) xs hV hl (fun z(s:Int×(List Bool×List Int)×List (List AC)×List (List AC))=>[(0,.v V),(8,.p 0),(9,.t (ai (z)))]) (fun z(s:Int×(List Bool×List Int)×List (List AC)×List (List AC))=>[.bx 300 7 [.view V,.J gap,.J inner,.B G,.own 1,.own 2,.J 0],.rw ⟨4,1,s.2.2.1⟩,.rw ⟨3,1,s.2.2.2⟩]) (fun z(s:Int×(List Bool×List Int)×List (List AC)×List (List AC))=>s.1=z∧s.2.2.1=vw j7 s.2.1.1∧s.2.2.2=vw ao s.2.1.2∧(s.2.1.1.length:Int)=z∧(s.2.1.2.length:Int)=z) (fun(s:Int×(List Bool×List Int)×List (List AC)×List (List AC)) rest=>(s.2.1.1++rest.map (mg G),s.2.1.2++rest.map (szo G))) ((HL,SL)) (0,([],[]),[],[]) (by rw [hHL,hSL];rfl) ⟨rfl,rfl,rfl,rfl,rfl⟩ (Wk.weak (wkG [some 0,none,none] ⟨rfl,rfl,rfl,trivial⟩ ⟨⟨_,_,rfl,rfl,rfl,rfl,.inr ⟨⟨rfl,rfl,rfl,rfl,rfl,rfl,rfl,trivial⟩,trivial⟩⟩,⟨_,rfl,rfl⟩,⟨_,rfl,rfl⟩,trivial⟩ (by decide) aG)) (fun z s B hz h0 hi he=> ?_) (fun z s x rest B z0 z1 z2 hx hy h0 hi hc e1 hB=> ?_)
 rotate_left
 ·obtain⟨i,⟨H,S⟩,eH,eS⟩:=s
  obtain⟨k1,k2,k3,k4,k5⟩:=hi
  dsimp only at k1 k2 k3 k4 k5 h0
  subst k1
  have hVx:bg V=(xs.length:Int):=by rw [hV,aM]
  have hxl2:i<(xs.length:Int):=hVx▸z1
  have pH:ah eH=true:=by rw [k2];exact ag _ _
  have pS:ah eS=true:=by rw [k3];exact ag _ _
  have lH:eH.length≤1048576:=by rw [k2,af];omega
  have lS:eS.length≤1048576:=by rw [k3,af];omega
  have kH:∀y∈eH,y.length=1:=by rw [k2];exact bL (c:=j7) (k:=1) fun _=>rfl
  have dH:∀y∈eH,y.all dat=true:=by rw [k2];exact az
  have kS:∀y∈eS,y.length=1:=by rw [k3];exact bL (c:=ao) (k:=1) fun _=>rfl
  have dS:∀y∈eS,y.all dat=true:=by rw [k3];exact az
  have cw1:=fun c1 c2 c4 c5 c6=>cw G i z0 hxl2 c1 c2 c4 c5 c6
  have hix:itA xs i=x:=by unfold itA;rw [hx];rfl
  obtain⟨Q0,hQ0⟩:=nmE (wgt G (itA xs i))
  simp only [←hQ0]at cw1
  rw [hix]at hQ0
  obtain⟨y0,y1,y2,y3,y4,y5,y6,y7,y8⟩:=x
  obtain⟨HV,hHV⟩:=nmE (mg G ⟨y0,y1,y2,y3,y4,y5,y6,y7,y8⟩)
  obtain⟨SV,hSV⟩:=nmE (szo G ⟨y0,y1,y2,y3,y4,y5,y6,y7,y8⟩)
  have hel:HV=if wgt G ⟨y0,y1,y2,y3,y4,y5,y6,y7,y8⟩=0 then true else if G then decide (hyp ⟨y0,y1,y2,y3,y4,y5,y6,y7,y8⟩<y0)else decide (y0<hyp ⟨y0,y1,y2,y3,y4,y5,y6,y7,y8⟩):=hHV
  have hsv:SV=if HV then hyp ⟨y0,y1,y2,y3,y4,y5,y6,y7,y8⟩else y0:=by rw [hSV,szo,←hHV]
  cbv
  rw [hc]
  cbv
  refine goX hg _ z0 hy rfl ?_
  cbv
  (first|refine bm hg (ig ⟨y0,y1,y2,y3,y4,y5,y6,y7,y8⟩) rfl (fun HY hHY=> ?_)|refine aU hg (ig ⟨y0,y1,y2,y3,y4,y5,y6,y7,y8⟩) rfl (fun HY hHY=> ?_));cbv
  refine goX hg _ z0 hy rfl ?_
  cbv
  first|refine gI hg (cw1 _ _ (.view eH) (.view eS) _) (dq (uS rfl ⟨aw rfl,aw rfl,aw rfl,aw rfl,bi (ab:=⟨_,_,eH⟩) rfl kH dH,bi (ab:=⟨_,_,eS⟩) rfl kS dS,aw rfl,trivial⟩) (ar (aw rfl) aC)) rfl ?_|refine eJ hg (cw1 _ _ (.view eH) (.view eS) _) (dq (uS rfl ⟨aw rfl,aw rfl,aw rfl,aw rfl,bi (ab:=⟨_,_,eH⟩) rfl kH dH,bi (ab:=⟨_,_,eS⟩) rfl kS dS,aw rfl,trivial⟩) (ar (aw rfl) aC)) rfl ?_
  cbv
  rw [←hHY,←hQ0]at hel
  rw [←hHY]at hsv
  have t0:g .q .eql Q0 0=decide (Q0=0):=by rw [bv hg];rfl
  by_cases hq:Q0=0
  ·rw [t0,zqu hq]
   rw [if_pos hq]at hel
   rw [hel,if_pos rfl]at hsv
   cbv
   have s1:eH++[[.B (true)]]=vw j7 (H++[HV]):=by rw [bz,k2,hel];rfl
   have s2:eS++[[.J HY]]=vw ao (S++[SV]):=by rw [bz,k3,hsv];rfl
   refine dp hg rfl (by decide) lH ?_
   cbv
   refine dp hg rfl (by decide) lS ?_
   cbv
   rw [e1]
   simp only [gy hg]
   exact hB ((i+1,(H++[HV],S++[SV]),_,_)) _ _ ⟨(by simpa [hHV,hSV]using h0),⟨rfl,s1,s2,by simp;omega,by simp;omega⟩⟩ (Wk.weak (wkG [some _,some _,some _] ⟨rfl,rfl,rfl,trivial⟩ ⟨⟨_,_,rfl,rfl,rfl,rfl,.inr ⟨⟨rfl,rfl,rfl,rfl,rfl,rfl,rfl,trivial⟩,trivial⟩⟩,⟨_,_,rfl,rfl,rfl,rfl,.inl ⟨rfl,s1.symm▸ag _ _⟩⟩,⟨_,_,rfl,rfl,rfl,rfl,.inl ⟨rfl,s2.symm▸ag _ _⟩⟩,trivial⟩ (by decide) aG))
  ·rw [t0,zqt hq]
   rw [if_neg hq]at hel
   cases hGc:G
   ·rw [hGc]at hel
    cbv
    cases hqq:g .q .lss y0 HY
    ·have hel2:HV=false:=by rw [hel];rw [bk hg]at hqq;exact hqq
     rw [hel2]at hsv
     cbv
     have s1:eH++[[.B (false)]]=vw j7 (H++[HV]):=by rw [bz,k2,hel2];rfl
     have s2:eS++[[.J y0]]=vw ao (S++[SV]):=by rw [bz,k3,hsv];rfl
     refine dp hg rfl (by decide) lH ?_
     cbv
     refine dp hg rfl (by decide) lS ?_
     cbv
     rw [e1]
     simp only [gy hg]
     exact hB ((i+1,(H++[HV],S++[SV]),_,_)) _ _ ⟨(by simpa [hHV,hSV]using h0),⟨rfl,s1,s2,by simp;omega,by simp;omega⟩⟩ (Wk.weak (wkG [some _,some _,some _] ⟨rfl,rfl,rfl,trivial⟩ ⟨⟨_,_,rfl,rfl,rfl,rfl,.inr ⟨⟨rfl,rfl,rfl,(by rw [hGc];exact rfl),rfl,rfl,rfl,trivial⟩,trivial⟩⟩,⟨_,_,rfl,rfl,rfl,rfl,.inl ⟨rfl,s1.symm▸ag _ _⟩⟩,⟨_,_,rfl,rfl,rfl,rfl,.inl ⟨rfl,s2.symm▸ag _ _⟩⟩,trivial⟩ (by decide) aG))
    ·have hel2:HV=true:=by rw [hel];rw [bk hg]at hqq;exact hqq
     rw [hel2]at hsv
     cbv
     have s1:eH++[[.B (true)]]=vw j7 (H++[HV]):=by rw [bz,k2,hel2];rfl
     have s2:eS++[[.J HY]]=vw ao (S++[SV]):=by rw [bz,k3,hsv];rfl
     refine dp hg rfl (by decide) lH ?_
     cbv
     refine dp hg rfl (by decide) lS ?_
     cbv
     rw [e1]
     simp only [gy hg]
     exact hB ((i+1,(H++[HV],S++[SV]),_,_)) _ _ ⟨(by simpa [hHV,hSV]using h0),⟨rfl,s1,s2,by simp;omega,by simp;omega⟩⟩ (Wk.weak (wkG [some _,some _,some _] ⟨rfl,rfl,rfl,trivial⟩ ⟨⟨_,_,rfl,rfl,rfl,rfl,.inr ⟨⟨rfl,rfl,rfl,(by rw [hGc];exact rfl),rfl,rfl,rfl,trivial⟩,trivial⟩⟩,⟨_,_,rfl,rfl,rfl,rfl,.inl ⟨rfl,s1.symm▸ag _ _⟩⟩,⟨_,_,rfl,rfl,rfl,rfl,.inl ⟨rfl,s2.symm▸ag _ _⟩⟩,trivial⟩ (by decide) aG))
   ·rw [hGc]at hel
    cbv
    cases hqq:g .q .gtr y0 HY
    ·have hel2:HV=false:=by rw [hel];rw [cu hg]at hqq;exact hqq
     rw [hel2]at hsv
     cbv
     have s1:eH++[[.B (false)]]=vw j7 (H++[HV]):=by rw [bz,k2,hel2];rfl
     have s2:eS++[[.J y0]]=vw ao (S++[SV]):=by rw [bz,k3,hsv];rfl
     refine dp hg rfl (by decide) lH ?_
     cbv
     refine dp hg rfl (by decide) lS ?_
     cbv
     rw [e1]
     simp only [gy hg]
     exact hB ((i+1,(H++[HV],S++[SV]),_,_)) _ _ ⟨(by simpa [hHV,hSV]using h0),⟨rfl,s1,s2,by simp;omega,by simp;omega⟩⟩ (Wk.weak (wkG [some _,some _,some _] ⟨rfl,rfl,rfl,trivial⟩ ⟨⟨_,_,rfl,rfl,rfl,rfl,.inr ⟨⟨rfl,rfl,rfl,(by rw [hGc];exact rfl),rfl,rfl,rfl,trivial⟩,trivial⟩⟩,⟨_,_,rfl,rfl,rfl,rfl,.inl ⟨rfl,s1.symm▸ag _ _⟩⟩,⟨_,_,rfl,rfl,rfl,rfl,.inl ⟨rfl,s2.symm▸ag _ _⟩⟩,trivial⟩ (by decide) aG))
    ·have hel2:HV=true:=by rw [hel];rw [cu hg]at hqq;exact hqq
     rw [hel2]at hsv
     cbv
     have s1:eH++[[.B (true)]]=vw j7 (H++[HV]):=by rw [bz,k2,hel2];rfl
     have s2:eS++[[.J HY]]=vw ao (S++[SV]):=by rw [bz,k3,hsv];rfl
     refine dp hg rfl (by decide) lH ?_
     cbv
     refine dp hg rfl (by decide) lS ?_
     cbv
     rw [e1]
     simp only [gy hg]
     exact hB ((i+1,(H++[HV],S++[SV]),_,_)) _ _ ⟨(by simpa [hHV,hSV]using h0),⟨rfl,s1,s2,by simp;omega,by simp;omega⟩⟩ (Wk.weak (wkG [some _,some _,some _] ⟨rfl,rfl,rfl,trivial⟩ ⟨⟨_,_,rfl,rfl,rfl,rfl,.inr ⟨⟨rfl,rfl,rfl,(by rw [hGc];exact rfl),rfl,rfl,rfl,trivial⟩,trivial⟩⟩,⟨_,_,rfl,rfl,rfl,rfl,.inl ⟨rfl,s1.symm▸ag _ _⟩⟩,⟨_,_,rfl,rfl,rfl,rfl,.inl ⟨rfl,s2.symm▸ag _ _⟩⟩,trivial⟩ (by decide) aG))
 ·obtain⟨i,⟨H,S⟩,eH,eS⟩:=s
  obtain⟨k1,k2,k3,k4,k5⟩:=hi
  dsimp only at k1 k2 k3 k4 k5 h0
  simp only [List.map_nil,List.append_nil,Prod.mk.injEq]at h0
  obtain rfl:HL=H:=h0.1.symm
  obtain rfl:SL=S:=h0.2.symm
  have pH:ah eH=true:=by rw [k2];exact ag _ _
  have pS:ah eS=true:=by rw [k3];exact ag _ _
  have hHl:HL.length=xs.length:=by rw [hHL,zql]
  have hSl:SL.length=xs.length:=by rw [hSL,zql]
  obtain⟨X,hX⟩:=nmE (Fx.of xs gap inner)
  have hXo:dX X.xs=true:=by
   rw [hX]
   simp only [zqs]at hok
   exact hok.1.1
  have hx12:=(eG hXo).2
  have hXx:X.xs=xs:=by rw [hX];rfl
  obtain⟨r,hr1,hr2⟩:=Fx.run_some hXo 13 (xs.map hyp) HL (by rw [hXx];exact hHl) (by have:=jv HL 0;rw [hXx]at hx12;omega)
  have hDr:D=r:=by rw [hD,flx,if_pos hok,←hG,←hHL,←hX,hr1];rfl
  have hrS:X.runS 13 SL HL=some r:=by
   have:=Fx.run_eq hXo 13 (xs.map hyp) HL (by rw [hXx];exact hHl) (by rw [hXx,zql])
   rw [hr1,hXx,hHL,yM,←hSL,←hHL]at this
   exact this
  cbv;rw [he];cbv
  refine zC hg aB (by kernel_rfl) (fun s:(List Int×List Bool×Int)×List (List AC)×List (List AC)=>[(8,.p 0)]) (fun s=>[.bx 300 7 [.view V,.J gap,.J inner,.B G,.own 1,.own 2,.J s.1.2.2],.rw ⟨4,1,s.2.2⟩,.rw ⟨3,1,s.2.1⟩])
   (fun s=>s.2.1=vw ao s.1.1∧s.2.2=vw j7 s.1.2.1∧s.1.1.length=xs.length∧s.1.2.1.length=xs.length) (fun k s=>X.runS k s.1.1 s.1.2.1) r 13 ((SL,HL,0),eS,eH) hrS ⟨k3,k2,hSl,hHl⟩ (Wk.weak (wkG [some 0,some 1,some 2] ⟨rfl,trivial⟩ ⟨⟨_,_,rfl,rfl,rfl,rfl,.inr ⟨⟨rfl,rfl,rfl,rfl,rfl,rfl,rfl,trivial⟩,trivial⟩⟩,wqE rfl pH,wqE rfl pS,trivial⟩ (by decide) aG)) (fun s k B h0 hi hB=> ?_)
  obtain⟨⟨sz,fr,p⟩,eZ,eR⟩:=s
  obtain⟨k1,k2,k3,k4⟩:=hi
  dsimp only at k1 k2 k3 k4 h0
  cases k with
  |zero=>cases h0
  |succ k=>
   rw [Fx.runS]at h0
   have cp:=qJ X hXo sz fr (by rw [hXx];exact k3) (by rw [hXx];exact k4) p
   have qZ:ah eZ=true:=by rw [k1];exact ag _ _
   have qR:ah eR=true:=by rw [k2];exact ag _ _
   obtain⟨rt,hrt⟩:=nmE (uk X.xs sz X.gap X.inner X.gr)
   have hXg:X.gap=gap:=by rw [hX];rfl
   have hXi:X.inner=inner:=by rw [hX];rfl
   have hXr:X.gr=G:=by rw [hX,hG];rfl
   rw [←hrt]at cp h0
   simp only [Fx.bx,hXx,hXg,hXi,hXr,←hV,←k1,←k2]at cp
   cbv
   refine BK hg [0,1,2] cp (by decide) (fun r hr=>by simp only [List.mem_cons,List.not_mem_nil,or_false]at hr;simp only [zqx,List.length_nil];omega) ⟨⟨_,_,rfl,rfl,rfl,rfl,.inr ⟨⟨rfl,rfl,rfl,rfl,rfl,rfl,rfl,trivial⟩,trivial⟩⟩,⟨_,_,rfl,rfl,rfl,rfl,.inl ⟨rfl,qR⟩⟩,⟨_,_,rfl,rfl,rfl,rfl,.inl ⟨rfl,qZ⟩⟩,trivial⟩ ⟨rfl,trivial⟩ fun res eh hq=> ?_
   obtain⟨p',sz',fr',rfl,rfl,h1,h2⟩:=hq
   obtain⟨Z',hZ'⟩:=nmE (vw ao sz')
   obtain⟨R',hR'⟩:=nmE (vw j7 fr')
   have pZ':ah Z'=true:=by rw [hZ'];exact ag _ _
   have pR':ah R'=true:=by rw [hR'];exact ag _ _
   rw [←hZ',←hR']
   simp only [di,EE.mv,s4 pZ',s4 pR']
   by_cases hn:fre 0 fr=[]
   ·rw [if_pos hn]at h0 h1 h2
    rw [show decide (fre 0 fr≠[])=false by simp [hn]]
    cbv
    subst h1 h2
    exact xx hF rfl (by rw [hZ',hDr];cases h0;rfl)
   ·rw [if_neg hn]at h0 h1 h2
    rw [show decide (fre 0 fr≠[])=true by simp [hn]]
    cbv
    refine hB k ((sz',fr',p'),Z',R') _ _ (Nat.lt_succ_self k) (by rw [h1,h2];exact h0) ⟨hZ',hR',by rw [h1,mH];exact k3,by rw [h2,mI];exact k4⟩ (Wk.weak (wkG [some 0,some 1,some 2] ⟨rfl,trivial⟩ ⟨⟨_,_,rfl,rfl,rfl,rfl,.inr ⟨⟨rfl,rfl,rfl,rfl,rfl,rfl,rfl,trivial⟩,trivial⟩⟩,⟨_,_,rfl,rfl,rfl,rfl,.inl ⟨rfl,pR'⟩⟩,⟨_,_,rfl,rfl,rfl,rfl,.inl ⟨rfl,pZ'⟩⟩,trivial⟩ (by decide) aG))
theorem pi(xs:List aj)(gap inner:Int)(hl:xs.length≤1048576):dg prog 247 [.c (.view (vw aj.c xs)),ai gap,ai inner] fun res rows=>res= .o 0∧rows=[⟨3,1,vw ao (flx xs gap inner)⟩]:=by
 have cf:=qM xs gap inner hl
 obtain⟨V,hV⟩:=nmE (vw aj.c xs)
 obtain⟨D,hD⟩:=nmE (vw ao (flx xs gap inner))
 have pD:ah D=true:=by rw [hD];exact ag _ _
 rw [←hV,←hD]at cf
 rw [←hV,←hD]
 refine ae (aN f247) aB func247 fun g F hg hF=> ?_
 cbv
 refine ud hg (fh cf rfl fun res rows hq=> ?_)
 obtain⟨p,rfl,rfl⟩:=hq
 refine⟨[.rw ⟨3,1,D⟩],by simp only [zqA,List.map_nil,gY (ab:=⟨3,1,D⟩) pD];rfl,?_⟩
 cbv
 exact bR hF rfl pD
theorem uv(a:Int):wrap64 (wrap64 a)=wrap64 a:=by unfold wrap64;omega
theorem dF(a b:Int):(a !=b)=decide (¬a=b):=by by_cases h:a=b<;>simp [h]
def elZ(l:List Int)(i:Int):Int:=if 0≤i then l[i.toNat]?.getD 0 else 0
def evm(many:Int):Nat:=if many≤64 then many.toNat else 0
def evn(n many:Int):List Int:=shr n (List.replicate (evm many) 1)
theorem zt(m:Nat)(h:m≤64):yG (List.replicate m 1)=true:=by
 simp only [yG,zqs,zqp,zqf,List.length_replicate]
 exact⟨fun w hw=>by rw [List.eq_of_mem_replicate hw];decide,by omega⟩
theorem om(many:Int):evm many≤64:=by unfold evm;split<;>omega
theorem nq{many:Int}(h0:0≤many)(h1:many≤64):(evm many:Int)=many:=by unfold evm;rw [if_pos h1];omega
theorem gH(n many:Int):(evn n many).length=evm many:=by rw [evn,shr,if_pos (zt _ (om many)),vK,List.length_replicate]
theorem nt{l:List Int}{i:Nat}{x:Int}(h:l[i]? =some x):elZ l (i:Int)=x:=by
 unfold elZ;rw [if_pos (by omega),Int.toNat_natCast,h];rfl
theorem z8{l:List Int}{i:Int}(h:i<0∨(l.length:Int)≤i):elZ l i=0:=by
 unfold elZ
 split
 ·rw [zqz (by omega)];rfl
 ·rfl
theorem jQ{l:List Int}{i:Int}(h0:0≤i)(h1:i<(l.length:Int)):l[i.toNat]? =some (elZ l i):=by
 unfold elZ
 rw [if_pos h0,zqc (by omega)];rfl
theorem z9(i:Int):elZ [] i=0:=by unfold elZ;split<;>rfl
def led(free many js:Int):Int:=
 if rng many 1 12=false then 0 else if js=2 then free else if js=3 then fdv free 2
 else if js=5 then(if free<0 then fdv free 2 else elZ (evn free (2*many)) 0)
 else if js=6 then(if free<0 then fdv free 2 else elZ (evn free (many+1)) 0)else 0
def btw(free many js i:Int):Int:=
 if free<0 then 0 else if js=4 then elZ (evn free (many-1)) i
 else if js=5 then wrap64 (elZ (evn free (2*many)) (2*i+1)+elZ (evn free (2*many)) (2*i+2))
 else if js=6 then elZ (evn free (many+1)) (i+1)else 0
def auN:List aj→Int
 | []=>0
 |x::r=>((if x.autoBefore then 1 else 0)+(if x.autoBehind then 1 else 0))+auN r
theorem xK:∀xs:List aj,0≤auN xs∧auN xs≤2*xs.length
 | []=>by simp [auN]
 |x::r=>by
  obtain⟨h1,h2⟩:=xK r
  simp only [auN,zqx]
  split<;>split<;>omega
def auT(ex:List Int)(k:Int)(b:Bool):Int:=if b then elZ ex k else 0
def auK(k:Int)(b:Bool):Int:=if b then k+1 else k
def Fy(ex:List Int)(a k:Int)(x:aj):Int:=wrap64 (a+wrap64 (x.before+auT ex k x.autoBefore))
def FZ(ex:List Int)(sp:Int→Int)(gap many i a k:Int)(x:aj)(s:Int):Int:=
 let q:=wrap64 (Fy ex a k x+wrap64 (wrap64 (s+x.behind)+auT ex (auK k x.autoBefore) x.autoBehind))
 if i+1<many then wrap64 (wrap64 (q+gap)+sp i)else q
def vy(ex:List Int)(sp:Int→Int)(gap many:Int):Int→Int→Int→List (aj×Int)→List Int
 |_,_,_,[]=>[]
 |i,a,k,(x,s)::r=>Fy ex a k x::vy ex sp gap many (i+1) (FZ ex sp gap many i a k x s) (auK (auK k x.autoBefore) x.autoBehind) r
def al5(xs:List aj)(ss:List Int)(gap inner:Int):Bool:=ss.all (fun s=>rng s 0 1048576)&&(dX xs&&(decide (ss.length=xs.length)&&(rng gap 0 1048576&&rng inner 0 1048576)))
def alF(xs:List aj)(ss:List Int)(gap inner:Int):Int:=sg (wrap64 (inner-wrap64 (gU xs ss gap)))
def alE(xs:List aj)(ss:List Int)(gap inner:Int):List Int:=if 0<auN xs∧0<alF xs ss gap inner then evn (alF xs ss gap inner) (auN xs)else []
def alS(xs:List aj)(free js i:Int):Int:=if auN xs=0 then btw free (xs.length:Int) js i else 0
def al0(xs:List aj)(free js:Int):Int:=if auN xs=0 then led free (xs.length:Int) js else 0
def alg(xs:List aj)(ss:List Int)(gap inner js:Int):List Int:=
 if al5 xs ss gap inner=false then []else vy (alE xs ss gap inner) (alS xs (alF xs ss gap inner) js) gap (xs.length:Int) 0 (al0 xs (alF xs ss gap inner) js) 0 (xs.zip ss)
def xU:Int→List Int→Int
 |a,[]=>a
 |a,c::r=>xU (wrap64 (a+sg c)) r
def crt(cs:List Int)(gap:Int):Int:=if cs=[]then 0 else wrap64 (xU 0 cs+wrap64 (gap*((cs.length:Int)-1)))
def acr(cs:List Int)(gap inner:Int):Bool:=cs.all (fun c=>rng c 0 1048576)&&(decide ((cs.length:Int)≤12)&&(rng gap 0 1048576&&rng inner 0 1048576))
def vu(cs:List Int)(gap inner ct:Int):List Int:=if acr cs gap inner=true∧ct=1∧0<wrap64 (inner-crt cs gap)then(cs.zip (evn (wrap64 (inner-crt cs gap)) (cs.length:Int))).map (fun p=>wrap64 (p.1+p.2))else cs
def plG(sp:Int→Int)(gap:Int):Int→Int→List Int→List Int
 |_,_,[]=>[]
 |i,a,c::r=>a::plG sp gap (i+1) (wrap64 (a+wrap64 (wrap64 (c+gap)+sp i))) r
def pll(cs:List Int)(gap inner ct:Int):List Int:=
 if acr cs gap inner=false then []else plG (btw (sg (wrap64 (inner-crt cs gap))) (cs.length:Int) (ul ct)) gap 0 (led (sg (wrap64 (inner-crt cs gap))) (cs.length:Int) (ul ct)) cs
def Ay:Int→Bool→List av→Int
 |m,_,[]=>m
 |m,f,x::r=>if onB x=true∧(f=false∨m<wrap64 (x.before+x.base))then Ay (wrap64 (x.before+x.base)) true r else Ay m f r
def bas(xs:List av):Int:=Ay 0 false xs
def mx2(a b:Int):Int:=if a<b then b else a
def FU(b:Int)(x:av):Int:=if onB x then wrap64 (wrap64 (wrap64 (b+x.size)+x.behind)-x.base)else wrap64 (wrap64 (x.size+x.before)+x.behind)
def CE(b:Int):Int→List av→Int
 |m,[]=>m
 |m,x::r=>CE b (mx2 m (FU b x)) r
def cro(xs:List av):Int:=if(decide ((xs.length:Int)≤12)&&xs.all sE)=false then 0 else cl (CE (bas xs) 0 xs)
def cr2:Int→Int→Bool→List av→Int×Int×Bool
 |n,b,s,[]=>(n,b,s)
 |n,b,s,x::r=>if onB x then cr2 n (if s=false∨b<wrap64 (wrap64 (x.size+x.behind)-x.base)then wrap64 (wrap64 (x.size+x.behind)-x.base)else b) true r
  else cr2 (if n<wrap64 (wrap64 (x.size+x.before)+x.behind)then wrap64 (wrap64 (x.size+x.before)+x.behind)else n) b s r
theorem siB{x:av}(h:sE x=true):(0≤x.size∧x.size≤1048576)∧(0≤x.base∧x.base≤1048576)∧(-1048576≤x.before∧x.before≤1048576)∧ -1048576≤x.behind∧x.behind≤1048576:=by
 simp only [sE,rng,zqs,zqp]at h
 omega
theorem wy:∀(xs:List av)(m:Int)(f:Bool),xs.all sE=true→ -2097152≤m→m≤2097152→ -2097152≤Ay m f xs∧Ay m f xs≤2097152
 | [],m,f,_,h1,h2=>⟨h1,h2⟩
 |x::r,m,f,h,h1,h2=>by
  simp only [zqD,zqs]at h
  have hb:=siB h.1
  have e:=ay (x.before+x.base) (by omega)
  simp only [Ay]
  split
  ·exact wy r _ true h.2 (by omega) (by omega)
  ·exact wy r m f h.2 h1 h2
theorem Ad(b:Int)(hb: -2097152≤b∧b≤2097152):∀(xs:List av)(n be:Int)(s:Bool),xs.all sE=true→ -4194304≤be→be≤4194304→
  (if(cr2 n be s xs).2.2=true∧(cr2 n be s xs).1<wrap64 (b+(cr2 n be s xs).2.1)then wrap64 (b+(cr2 n be s xs).2.1)else(cr2 n be s xs).1)=CE b (if s=true∧n<wrap64 (b+be)then wrap64 (b+be)else n) xs
 | [],n,be,s,_,_,_=>rfl
 |x::r,n,be,s,h,h1,h2=>by
  simp only [zqD,zqs]at h
  have hx:=siB h.1
  have e1:=ay (x.size+x.behind) (by omega)
  have e2:=ay (x.size+x.behind-x.base) (by omega)
  have e3:=ay (b+be) (by omega)
  have e4:=ay (b+x.size) (by omega)
  have e5:=ay (b+x.size+x.behind) (by omega)
  have e6:=ay (b+x.size+x.behind-x.base) (by omega)
  have e7:=ay (b+(x.size+x.behind-x.base)) (by omega)
  simp only [cr2,CE,FU,mx2]
  rcases Bool.eq_false_or_eq_true (onB x)with ho|ho
  ·simp only [ho,if_true]
   rw [Ad b hb r _ _ _ h.2 (by rw [e1,e2];split<;>omega) (by rw [e1,e2];split<;>omega)]
   congr 1
   simp only [e1,e2,e3,e4,e5,e6]
   cases s
   ·simp only [Bool.false_eq_true,false_and,if_false,true_or,if_true,true_and,e7]
    split<;>split<;>omega
   ·simp only [Bool.true_eq_false,false_or,true_and]
    by_cases hc:be<x.size+x.behind-x.base
    ·rw [if_pos hc,e7];split<;>split<;>(try split)<;>omega
    ·rw [if_neg hc,e3];split<;>split<;>(try split)<;>omega
  ·simp only [ho,Bool.false_eq_true,if_false]
   rw [Ad b hb r _ _ _ h.2 h1 h2]
   congr 1
   cases s
   ·simp
   ·simp only [true_and,e3]
    split<;>split<;>(try split)<;>(try split)<;>omega
theorem DC{xs:List av}(h:xs.all sE=true):(if(cr2 0 0 false xs).2.2=true∧(cr2 0 0 false xs).1<wrap64 (bas xs+(cr2 0 0 false xs).2.1)then wrap64 (bas xs+(cr2 0 0 false xs).2.1)else(cr2 0 0 false xs).1)=CE (bas xs) 0 xs:=by
 have:=Ad (bas xs) (wy xs 0 false h (by omega) (by omega)) xs 0 0 false h (by omega) (by omega)
 simpa using this
def lit(xs:List aj)(ln:List Int):List aj:=ln.filterMap fun i=>if 0≤i then xs[i.toNat]? else none
def lou(xs:List aj)(gap:Int)(ln:List Int):Int:=wrap64 (gU (lit xs ln) ((lit xs ln).map hyp) gap)
def lnS(xs:List aj)(gap room:Int)(one:Bool)(out:List (List Int))(i:Int):List (List Int):=
 match out.getLast? with
 |some ln=>if one=true∨lou xs gap (ln++[i])≤room then out.dropLast++[ln++[i]]else out++[[i]]
 |none=>[[i]]
def lnG(xs:List aj)(gap room:Int)(one:Bool):List (List Int)→Int→List aj→List (List Int)
 |out,_,[]=>out
 |out,i,_::r=>lnG xs gap room one (lnS xs gap room one out i) (i+1) r
def lns(xs:List aj)(gap room:Int)(wr:Bool):List (List Int):=lnG xs gap room (!wr||(decide (room<0)|| !dX xs)) [] 0 xs
def lng(xs:List aj)(gap room:Int)(wr:Bool):Int:=(lns xs gap room wr).foldl (fun m l=>mx2 m (lou xs gap l)) 0
def lsz(xs:List aj)(gap room:Int)(wr:Bool)(inner:Int):List Int:=(lns xs gap room wr).flatMap fun l=>flx (lit xs l) gap inner
def ixs:Int→Nat→List Int
 |_,0=>[]
 |i,n+1=>i::ixs (i+1) n
theorem bW:∀(n:Nat)(i:Int),(ixs i n).length=n
 |0,_=>rfl
 |n+1,i=>by simp [ixs,bW n]
theorem kF:∀(n:Nat)(i j:Int),j∈ixs i n↔i≤j∧j<i+n
 |0,i,j=>by simp only [ixs,List.not_mem_nil,false_iff];omega
 |n+1,i,j=>by simp only [ixs,List.mem_cons,kF n];omega
theorem jp:∀(a b:Nat)(i:Int),ixs i (a+b)=ixs i a++ixs (i+a) b
 |0,b,i=>by simp [ixs]
 |a+1,b,i=>by
  rw [show a+1+b=a+b+1 by omega]
  simp only [ixs,List.cons_append]
  rw [jp a b (i+1),show i+1+(a:Int)=i+((a+1:Nat):Int) by omega]
theorem s6(xs:List aj)(gap room:Int)(one:Bool)(out:List (List Int))(i:Int):(lnS xs gap room one out i).flatten=out.flatten++[i]∧((∀l∈out,l≠[])→∀l∈lnS xs gap room one out i,l≠[]):=by
 unfold lnS
 rcases List.eq_nil_or_concat out with rfl|⟨o,y,rfl⟩
 ·simp
 ·rw [List.concat_eq_append,List.getLast?_append,List.getLast?_singleton]
  simp only [Option.some_or]
  split
  ·rw [List.dropLast_concat]
   refine⟨by simp,fun h l hl=> ?_⟩
   rcases List.mem_append.1 hl with h1|h1
   ·exact h l (by simp [h1])
   ·rw [List.mem_singleton.1 h1];simp
  ·refine⟨by simp,fun h l hl=> ?_⟩
   rcases List.mem_append.1 hl with h1|h1
   ·exact h l h1
   ·rw [List.mem_singleton.1 h1];simp
theorem s7(xs:List aj)(gap room:Int)(one:Bool):∀(r:List aj)(out:List (List Int))(i:Int),(lnG xs gap room one out i r).flatten=out.flatten++ixs i r.length∧((∀l∈out,l≠[])→∀l∈lnG xs gap room one out i r,l≠[])
 | [],out,i=>by simp [lnG,ixs]
 |x::r,out,i=>by
  obtain⟨h1,h2⟩:=s6 xs gap room one out i
  obtain⟨h3,h4⟩:=s7 xs gap room one r (lnS xs gap room one out i) (i+1)
  refine⟨?_,fun h=>h4 (h2 h)⟩
  simp only [lnG,zqx,ixs]
  rw [h3,h1];simp
theorem ll(xs:List aj)(gap room:Int)(wr:Bool):(lns xs gap room wr).flatten=ixs 0 xs.length:=by
 have:=(s7 xs gap room (!wr||(decide (room<0)|| !dX xs)) xs [] 0).1
 simpa [lns]using this
theorem Ek(xs:List aj)(gap room:Int)(wr:Bool):∀l∈lns xs gap room wr,l≠[]:=(s7 xs gap room _ xs [] 0).2 (by simp)
theorem s5{xs:List aj}{gap room:Int}{wr:Bool}{l:List Int}(hl:l∈lns xs gap room wr){i:Int}(hi:i∈l):0≤i∧i<(xs.length:Int):=by
 have:i∈(lns xs gap room wr).flatten:=List.mem_flatten.2 ⟨l,hl,hi⟩
 rw [ll,kF]at this
 omega
theorem jx:∀(ls:List (List Int)),(∀l∈ls,l≠[])→ls.length≤ls.flatten.length
 | [],_=>by simp
 |l::ls,h=>by
  have h1:=jx ls (fun x hx=>h x (List.mem_cons_of_mem _ hx))
  have h2:0<l.length:=List.length_pos_iff.2 (h l (List.mem_cons_self ..))
  simp only [List.flatten_cons,zqe,zqx]
  omega
theorem l8(xs:List aj)(gap room:Int)(wr:Bool):(lns xs gap room wr).length≤xs.length:=by
 have:=jx _ (Ek xs gap room wr)
 rwa [ll,bW]at this
theorem ma{ls:List (List Int)}{l:List Int}(hl:l∈ls):l.length≤ls.flatten.length:=by
 induction ls with
 |nil=>simp at hl
 |cons a ls ih=>
  simp only [List.flatten_cons,zqe]
  rcases List.mem_cons.1 hl with rfl|h
  ·omega
  ·have:=ih h;omega
theorem jn{xs:List aj}{gap room:Int}{wr:Bool}{l:List Int}(hl:l∈lns xs gap room wr):l.length≤xs.length:=by
 have:=ma hl
 rwa [ll,bW]at this
theorem wb{xs:List aj}:∀{ln:List Int},(∀i∈ln,0≤i∧i<(xs.length:Int))→(lit xs ln).length=ln.length
 | [],_=>rfl
 |i::ln,h=>by
  have h1:=h i (List.mem_cons_self ..)
  have:=wb (ln:=ln) fun j hj=>h j (List.mem_cons_of_mem _ hj)
  unfold lit at this⊢
  rw [List.filterMap_cons,if_pos h1.1,zqc (by omega)]
  simp [this]
theorem qd{xs:List aj}{ln:List Int}:(lit xs ln).length≤ln.length:=by unfold lit;exact List.length_filterMap_le _ _
theorem zG{xs:List aj}{ln:List Int}{x:aj}(h:x∈lit xs ln):x∈xs:=by
 unfold lit at h
 obtain⟨i,_,hi⟩:=List.mem_filterMap.1 h
 split at hi
 ·exact zqd hi
 ·cases hi
theorem v9(xs:List aj)(gap room:Int)(wr:Bool)(inner:Int):(lsz xs gap room wr inner).length=xs.length:=by
 have key:∀ls:List (List Int),(∀l∈ls,∀i∈l,0≤i∧i<(xs.length:Int))→(ls.flatMap fun l=>flx (lit xs l) gap inner).length=ls.flatten.length:=by
  intro ls
  induction ls with
  |nil=>intro _;rfl
  |cons l ls ih=>
   intro h
   simp only [List.flatMap_cons,List.flatten_cons,zqe]
   rw [ih fun x hx=>h x (List.mem_cons_of_mem _ hx),Du,wb (h l (List.mem_cons_self ..))]
 unfold lsz
 rw [key _ fun l hl i hi=>s5 hl hi,ll,bW]
theorem m6(n:Nat)(i:Int):ixs i (n+1)=ixs i n++[i+n]:=by rw [jp n 1 i];rfl
theorem u9:∀(n j:Nat)(i:Int),j<n→(ixs i n)[j]? =some (i+j)
 |0,_,_,h=>by omega
 |n+1,0,i,_=>by simp [ixs]
 |n+1,j+1,i,h=>by
  simp only [ixs,List.getElem?_cons_succ]
  rw [u9 n j (i+1) (by omega)]
  congr 1;omega
def spc(free many js:Int):List Int:=(ixs 0 many.toNat).map fun i=>if i+1<many then btw free many js i else 0
def spL(b:Int→Int)(m z:Nat):List Int:=(ixs 0 z).map b++List.replicate (m-z) 0
theorem C1(b:Int→Int){m z:Nat}(h:z≤m):(spL b m z).length=m:=by simp [spL,bW];omega
theorem vJ(b:Int→Int){m z:Nat}(h:z<m):spL b m z=(ixs 0 z).map b++0::List.replicate (m-(z+1)) 0:=by
 rw [spL,show m-z=(m-(z+1))+1 by omega,List.replicate_succ]
theorem wN(b:Int→Int){m z:Nat}(h:z<m):spL b m (z+1)=(ixs 0 z).map b++b z::List.replicate (m-(z+1)) 0:=by
 rw [spL,m6,List.map_append,zqC];simp
theorem C0(b:Int→Int){m z:Nat}(h:z<m):(spL b m z).set z (b z)=spL b m (z+1):=by
 rw [vJ b h,wN b h,List.set_append_right _ _ (by simp [bW])]
 simp [bW]
theorem AJ(b:Int→Int){m z:Nat}(h:z<m)(hb:b z=0):spL b m z=spL b m (z+1):=by rw [vJ b h,wN b h,hb]
theorem DZ(b:Int→Int){m z:Nat}(h:z<m):(spL b m z)[z]? =some 0:=by
 rw [vJ b h,zqg (by simp [bW])]
 simp [bW]
theorem CZ(free many js:Int){z:Nat}(h0:0≤many)(hz:z=0∨(z:Int)<many)(h:¬(z:Int)+1<many):spL (btw free many js) many.toNat z=spc free many js:=by
 have key:∀n:Nat,(n:Int)+1≤many→(ixs 0 n).map (btw free many js)=(ixs 0 n).map fun i=>if i+1<many then btw free many js i else 0:=fun n hn=>
  List.map_congr_left fun i hi=>by rw [kF]at hi;rw [if_pos (by omega)]
 unfold spc
 by_cases hm:many=0
 ·subst hm
  obtain rfl:z=0:=by omega
  simp [spL,ixs]
 obtain rfl:many=(z:Int)+1:=by omega
 rw [show((z:Int)+1).toNat=z+1 by omega,m6,List.map_append,spL,key z (by omega)]
 simp
theorem CY(free many js:Int)(h:free<0):spc free many js=List.replicate many.toNat 0:=by
 unfold spc
 have:∀(n:Nat)(j:Int),(ixs j n).map (fun i=>if i+1<many then btw free many js i else 0)=List.replicate n 0:=by
  intro n
  induction n with
  |zero=>intro j;rfl
  |succ n ih=>
   intro j
   simp only [ixs,zqA,List.replicate_succ]
   rw [ih (j+1)]
   congr 1
   split
   ·unfold btw;rw [if_pos h]
   ·rfl
 exact this _ 0
theorem Cc(free many js:Int){i:Int}(h0:0≤i)(h1:i<many):(spc free many js)[i.toNat]? =some (if i+1<many then btw free many js i else 0):=by
 unfold spc
 rw [zqi,u9 _ _ _ (show i.toNat<many.toNat by omega)]
 simp only [Option.map_some]
 rw [show(0:Int)+(i.toNat:Int)=i by omega]
structure fu(G es:List (List AC))(z:Int):Prop where
 z0:0≤z
 z1:z≤bg G
 eq:es=G.take z.toNat
section
variable {P : Program} {n0 N : Nat} {g : Gd}
theorem Ga(hg:g=G0 P n0 N){xs:List (List AC)}{z:Int}{j k:Nat}{K:Nat→Prop}(hz:0≤z)(hj:j=z.toNat)(hy:j<xs.length)(hK:K j):g .Y k xs z K:=by subst hg hj;exact⟨hz,hy,hK⟩
end
def m3(k:Int):Bool:=k.tmod 3==0
theorem pU{E:List (List AC)}{j:Nat}{y:List AC}(h:ah E=true)(hy:y.all dx=true):ah (E.set j y)=true:=by
 rw [ah,zqf]at h⊢
 intro x hx
 rcases List.mem_or_eq_of_mem_set hx with hx|rfl
 ·exact h x hx
 ·exact hy
section
variable {P : Program} {n0 N : Nat} {g : Gd}
theorem tS{F:List AT→EH→Prop}{w h b:Int}{r:Nat}{eh:EH}{ab:AB}(hF:F=ny 0 (fun res h'=>∃rows,h'=rows.map .live∧(res= .t (.agg [.J w,.J h,.J b,.own 0])∧rows=[ab])))(hr:nth eh r=some (.rw ab))(hp:ah ab.es=true):
  F [.agg [.J w,.J h,.J b,.own r]] eh:=by
 subst hF
 refine .inl ⟨.t (.agg [.J w,.J h,.J b,.own 0]),[.live ab],[some r],⟨Nat.zero_le _,fun i hi=>absurd hi (Nat.not_lt_zero _),by simp,?_,?_⟩,[ab],rfl,rfl,rfl⟩
 ·simp only [rnH,zqw,fB hr]
  exact⟨fun h=>absurd h (Nat.not_lt_zero _),⟨by first|trivial|rfl,by first|trivial|rfl,.inl ⟨by first|trivial|rfl,hp⟩⟩,trivial⟩
 ·exact⟨.inr ⟨rfl,rfl,rfl,rfl,trivial⟩,trivial⟩
theorem ue{β:BP}(hg:g=G0 P n0 N){h:EH}{f:FuncId}{args:List AT}{K:AV→EH→Prop}{a b c:Int}{ab:AB}(hc:dg P f args fun res rows=>res= .t (.agg [.J a,.J b,.J c,.own 0])∧rows=[ab])(hd:iO args=true)(hp:ah ab.es=true)
  (hK:K (.t (.agg [.J a,.J b,.J c,.own (lw h)])) (h++[.rw ab])):g .C f h args K:=
 ud hg (fh hc hd fun res rows hpost=>by
  obtain⟨rfl,rfl⟩:=hpost
  rw [dr]at hK
  refine⟨[.rw ab],by simp only [zqA,List.map_nil,gY hp];rfl,?_⟩
  rw [bV];exact hK)
end
def Ef(n:Int)(w h:aF)(rtl:Bool)(m:n4):Bool:=(m.node==n)&&decide (m.wide=w)&&decide (m.high=h)&&(m.rtl==rtl)
def Dg(n:Int)(w h:aF)(rtl:Bool):List n4→jC×Bool
 | []=>(⟨0,0,0,[]⟩,false)
 |m::ms=>if Ef n w h rtl m then(m.box,true)else Dg n w h rtl ms
structure Pl where
 s:aq
 row:Bool
 w:aF
 h:aF
 wide:aF
 high:aF
 al:aF
 ac:aF
 kids:List Int
def F8:aq:=aq.of (fun _=>0) (fun _=>false)
def kst(ns:List ak)(k:Int):aq:=match ns[(k-1).toNat]? with|some y=>y.style|none=>F8
def plO(ns:List ak)(n:Int)(w h:aF):Pl:=
 ⟨kst ns n,jk (kst ns n),w,h,inW (kst ns n) w,inH (kst ns n) h,if jk (kst ns n)then inW (kst ns n) w else inH (kst ns n) h,if jk (kst ns n)then inH (kst ns n) h else inW (kst ns n) w,flK ns n⟩
abbrev St:=List n4×List jT
abbrev Bx:=Int→aF→aF→St→jC×St
def kcX(p:Pl)(k:aq)(rtl:Bool):aF:=DB p.s k rtl p.row p.ac (knS p.wide)
def wY(p:Pl)(k:aq)(rtl main:Bool):av:=sdB p.s k rtl main (knS p.wide)
def DG(p:Pl)(k:aq)(rtl:Bool):aF:=if p.row then A6 (oY p.al (wrap64 ((wY p k rtl true).before+(wY p k rtl true).behind)))else⟨1,0⟩
def BS(p:Pl)(k:aq)(rtl:Bool):Int:=
 if rK k.basis (knS p.al)≠ -1 then rK k.basis (knS p.al)else if oQ k p.row (knS p.al)≠ -1 then oQ k p.row (knS p.al)
 else if(kcX p k rtl).mode=3 then qX k p.row (kcX p k rtl).n else-1
def sn(bx:Bx)(row:Bool)(kid:Int)(al ac:aF)(st:St):jC×St:=if row then bx kid al ac st else bx kid ac al st
def alB(row:Bool)(b:jC):Int:=if row then b.wide else b.high
def vp(bx:Bx)(p:Pl)(rtl:Bool)(ns:List ak)(kid:Int)(st:St):Int×St:=
 if BS p (kst ns kid) rtl≠ -1 then(BS p (kst ns kid) rtl,st)else
 (alB p.row (sn bx p.row kid (DG p (kst ns kid) rtl) (kcX p (kst ns kid) rtl) st).1,(sn bx p.row kid (DG p (kst ns kid) rtl) (kcX p (kst ns kid) rtl) st).2)
def Es(p:Pl)(k:aq)(rtl:Bool)(b:Int):aj:=
 ⟨b,zA k p.row (knS p.al),Au k p.row (knS p.al),k.grow,k.shrink,(wY p k rtl true).before,(wY p k rtl true).behind,(wY p k rtl true).autoBefore,(wY p k rtl true).autoBehind⟩
def lq(bx:Bx)(p:Pl)(rtl:Bool)(ns:List ak):List Int→St→List aj×St
 | [],st=>([],st)
 |k::r,st=>(Es p (kst ns k) rtl (vp bx p rtl ns k st).1::(lq bx p rtl ns r (vp bx p rtl ns k st).2).1,(lq bx p rtl ns r (vp bx p rtl ns k st).2).2)
def Aw(p:Pl):Int:=iP p.s p.row
def r7(p:Pl):Int:=iP p.s (!p.row)
def wrP(p:Pl):Bool:= !decide (p.s.wrap=1)
def Av(p:Pl)(xs:List aj):Int:=tak p.al (lng xs (Aw p) (jU p.al) (wrP p))
def qD(p:Pl)(xs:List aj):List Int:=lsz xs (Aw p) (jU p.al) (wrP p) (Av p xs)
def l9(p:Pl)(xs:List aj):List (List Int):=lns xs (Aw p) (jU p.al) (wrP p)
def yD(p:Pl)(k:aq)(rtl:Bool)(size:Int):aF:=
 if(kcX p k rtl).mode≠3∧oQ k (!p.row) (knS p.ac)= -1∧qX k (!p.row) size≠ -1 then⟨3,jR k (!p.row) (knS p.ac) (qX k (!p.row) size)⟩else kcX p k rtl
def q8(a b:Int):Int:=if b<a then b else a
def Fd(p:Pl)(k:aq)(rtl:Bool)(b:jC):av:=
 ⟨jR k (!p.row) (knS p.ac) (alB (!p.row) b),(wY p k rtl false).before,(wY p k rtl false).behind,(wY p k rtl false).autoBefore,(wY p k rtl false).autoBehind,yC p.s k,q8 b.base (jR k (!p.row) (knS p.ac) (alB (!p.row) b))⟩
def sJ(bx:Bx)(p:Pl)(rtl:Bool)(ns:List ak):List (Int×Int)→St→List av×St
 | [],st=>([],st)
 |(k,z)::r,st=>
  (Fd p (kst ns k) rtl (sn bx p.row k ⟨3,z⟩ (yD p (kst ns k) rtl z) st).1::(sJ bx p rtl ns r (sn bx p.row k ⟨3,z⟩ (yD p (kst ns k) rtl z) st).2).1,(sJ bx p rtl ns r (sn bx p.row k ⟨3,z⟩ (yD p (kst ns k) rtl z) st).2).2)
def pck(sides:List av)(ln:List Int):List av:=ln.filterMap fun i=>if 0≤i then sides[i.toNat]? else none
def Fu(p:Pl)(sides:List av)(ln:List Int):Int:=if p.s.wrap=1∧p.ac.mode=3 then p.ac.n else cro (pck sides ln)
def wt(p:Pl)(lines:List (List Int))(sides:List av):List Int:=
 if¬p.s.wrap=1∧p.ac.mode=3 then vu (lines.map (Fu p sides)) (r7 p) p.ac.n p.s.content else lines.map (Fu p sides)
def xO(p:Pl)(cs:List Int):Int:=tak p.ac (crt cs (r7 p))
def ctP(p:Pl):Int:=if p.s.wrap=1 then 2 else p.s.content
def DL(p:Pl)(cs:List Int):List Int:=pll cs (r7 p) (xO p cs) (ctP p)
def sdZ(sides:List av)(i:Int):av:=(if 0≤i then sides[i.toNat]? else none).getD ⟨0,0,0,false,false,0,0⟩
def zY(x:av)(z:Int):av:=⟨z,x.before,x.behind,x.autoBefore,x.autoBehind,x.align,q8 x.base z⟩
def wn(p:Pl)(ns:List ak)(sides:List av)(sizes:List Int)(c i:Int):av:=
 if xA (sdZ sides i)=true∧oQ (kst ns (elZ p.kids i)) (!p.row) (knS p.ac)= -1∧qX (kst ns (elZ p.kids i)) (!p.row) (elZ sizes i)= -1 then
  zY (sdZ sides i) (jR (kst ns (elZ p.kids i)) (!p.row) (knS p.ac) (wrap64 (c-wrap64 ((sdZ sides i).before+(sdZ sides i).behind))))
 else sdZ sides i
def z5(p:Pl)(ns:List ak)(sides:List av)(sizes:List Int)(ls:List (List Int×Int)):List av:=ls.flatMap fun q=>q.1.map (wn p ns sides sizes q.2)
def Ds(p:Pl)(rtl:Bool)(inner across:Int)(sizes:List Int)(sides:List av)(st c lb a0 i:Int):aV:=
 let a:=Ck inner a0 (elZ sizes i) (kz p.s rtl)
 let b:=Ck across (wrap64 (st+De (sdZ sides i) c lb)) (sdZ sides i).size (k6 p.s rtl)
 if p.row then⟨elZ p.kids i,wrap64 (a+(np p.s).left),wrap64 (b+(np p.s).top),elZ sizes i,(sdZ sides i).size⟩
 else⟨elZ p.kids i,wrap64 (b+(np p.s).left),wrap64 (a+(np p.s).top),(sdZ sides i).size,elZ sizes i⟩
def qA(p:Pl)(rtl:Bool)(inner across:Int)(sizes:List Int)(sides:List av)(st c lb:Int)(ps:List Int):Int→List Int→List aV
 |_,[]=>[]
 |j,i::r=>Ds p rtl inner across sizes sides st c lb (elZ ps j) i::qA p rtl inner across sizes sides st c lb ps (j+1) r
def Eb(p:Pl)(items:List aj)(inner:Int)(sizes:List Int)(ln:List Int):List Int:=alg (lit items ln) (ln.map (elZ sizes)) (Aw p) inner p.s.justify
def vx(p:Pl)(rtl:Bool)(items:List aj)(inner across:Int)(sizes:List Int)(sides:List av)(sts:List Int):Int→List (List Int×Int)→List aV
 |_,[]=>[]
 |k,(ln,c)::r=>qA p rtl inner across sizes sides (elZ sts k) c (bas (pck sides ln)) (Eb p items inner sizes ln) 0 ln++vx p rtl items inner across sizes sides sts (k+1) r
def CK(p:Pl)(inner across:Int)(frames:List aV)(sides:List av):jC:=
 ⟨tak p.w (wrap64 ((if p.row then inner else across)+adE (np p.s).left (np p.s).right)),tak p.h (wrap64 ((if p.row then across else inner)+adE (np p.s).top (np p.s).bottom)),
  cl (wrap64 ((match frames with|f::_=>f.y| []=>0)+(sdZ sides 0).base)),frames⟩
def Fp(p:Pl)(rtl:Bool)(ns:List ak)(items:List aj)(sides0:List av):jC:=
 let lines:=l9 p items
 let sizes:=qD p items
 let cs:=wt p lines sides0
 let sides:=z5 p ns sides0 sizes (lines.zip cs)
 CK p (Av p items) (xO p cs) (vx p rtl items (Av p items) (xO p cs) sizes sides (DL p cs) 0 (lines.zip cs)) sides
def Bq(bx:Bx)(p:Pl)(rtl:Bool)(ns:List ak)(st:St):jC×St:=
 let a:=lq bx p rtl ns p.kids st
 let b:=sJ bx p rtl ns (p.kids.zip (qD p a.1)) a.2
 (Fp p rtl ns a.1 b.1,b.2)
def yk(s:aq)(w h:aF)(q:Int×Int):jC:=
 ⟨tak w (wrap64 (q.1+adE (np s).left (np s).right)),tak h (wrap64 (q.2+adE (np s).top (np s).bottom)),tak h (wrap64 (q.2+adE (np s).top (np s).bottom)),[]⟩
def wnt(rs:List aJ)(room:Int):Int×Int:=
 match rs.find? fun r=>decide (room= -1)||decide (r.room≤room)with|some r=>(cl r.wide,cl r.high)|none=>(0,0)
def nod(ns:List ak)(n:Int):ak:=(ns[(n-1).toNat]?).getD ⟨0,[],F8,false,⟨[]⟩⟩
def v7(bx:Bx)(ns:List ak)(rtl:Bool)(n:Int)(w h:aF)(st:St):jC×St:=
 if(nod ns n).measured then(yk (kst ns n) w h (wnt (nod ns n).table.rules (jU (inW (kst ns n) w))),(st.1,st.2++[⟨n,w,h,rtl⟩]))
 else if flK ns n=[]then(yk (kst ns n) w h (0,0),st)else Bq bx (plO ns n w h) rtl ns st
def kpF(keeps:Bool)(rtl:Bool)(bx:Bx):Bx:=fun n w h st=>
 if keeps=false then bx n w h st else
 if(Dg n w h rtl st.1).2 then((Dg n w h rtl st.1).1,st)else((bx n w h st).1,((bx n w h st).2.1++[⟨n,w,h,rtl,(bx n w h st).1⟩],(bx n w h st).2.2))
def wv(keeps:Bool)(ns:List ak)(rtl:Bool):Nat→Bx
 |0=>fun _ _ _ st=>(⟨0,0,0,[]⟩,st)
 |f+1=>kpF keeps rtl (v7 (wv keeps ns rtl f) ns rtl)
abbrev Bv:=Int→aF→aF→jC
def Az(b:Bv)(row:Bool)(kid:Int)(al ac:aF):jC:=if row then b kid al ac else b kid ac al
def BR(b:Bv)(p:Pl)(rtl:Bool)(ns:List ak)(kid:Int):Int:=
 if BS p (kst ns kid) rtl≠ -1 then BS p (kst ns kid) rtl else alB p.row (Az b p.row kid (DG p (kst ns kid) rtl) (kcX p (kst ns kid) rtl))
def Bg(b:Bv)(p:Pl)(rtl:Bool)(ns:List ak)(kids:List Int):List aj:=kids.map fun k=>Es p (kst ns k) rtl (BR b p rtl ns k)
def Cd(b:Bv)(p:Pl)(rtl:Bool)(ns:List ak)(ks:List (Int×Int)):List av:=ks.map fun q=>Fd p (kst ns q.1) rtl (Az b p.row q.1 ⟨3,q.2⟩ (yD p (kst ns q.1) rtl q.2))
def Fo(b:Bv)(p:Pl)(rtl:Bool)(ns:List ak):jC:=
 Fp p rtl ns (Bg b p rtl ns p.kids) (Cd b p rtl ns (p.kids.zip (qD p (Bg b p rtl ns p.kids))))
def Eh(b:Bv)(ns:List ak)(rtl:Bool):Bv:=fun n w h=>
 if(nod ns n).measured then yk (kst ns n) w h (wnt (nod ns n).table.rules (jU (inW (kst ns n) w)))
 else if flK ns n=[]then yk (kst ns n) w h (0,0)else Fo b (plO ns n w h) rtl ns
def Af(ns:List ak)(rtl:Bool):Nat→Bv
 |0=>fun _ _ _=>⟨0,0,0,[]⟩
 |f+1=>Eh (Af ns rtl f) ns rtl
def CM(bx:Bx)(b:Bv):Prop:=∀k w h st,(bx k w h st).1=b k w h
theorem xL{bx:Bx}{b:Bv}(hf:CM bx b)(row:Bool)(kid:Int)(al ac:aF)(st:St):(sn bx row kid al ac st).1=Az b row kid al ac:=by
 unfold sn Az
 split<;>exact hf ..
theorem BQ{bx:Bx}{b:Bv}(hf:CM bx b)(p:Pl)(rtl:Bool)(ns:List ak)(kid:Int)(st:St):(vp bx p rtl ns kid st).1=BR b p rtl ns kid:=by
 unfold vp BR
 split
 ·rfl
 ·dsimp only;rw [xL hf]
theorem xp{bx:Bx}{b:Bv}(hf:CM bx b)(p:Pl)(rtl:Bool)(ns:List ak):∀(ks:List Int)(st:St),(lq bx p rtl ns ks st).1=Bg b p rtl ns ks
 | [],_=>rfl
 |k::r,st=>by
  simp only [lq,Bg,zqA]
  rw [BQ hf,xp hf p rtl ns r];rfl
theorem wX{bx:Bx}{b:Bv}(hf:CM bx b)(p:Pl)(rtl:Bool)(ns:List ak):∀(ks:List (Int×Int))(st:St),(sJ bx p rtl ns ks st).1=Cd b p rtl ns ks
 | [],_=>rfl
 |(k,z)::r,st=>by
  simp only [sJ,Cd,zqA]
  rw [xL hf,wX hf p rtl ns r];rfl
theorem Bp{bx:Bx}{b:Bv}(hf:CM bx b)(p:Pl)(rtl:Bool)(ns:List ak)(st:St):(Bq bx p rtl ns st).1=Fo b p rtl ns:=by
 simp only [Bq,Fo]
 rw [xp hf,wX hf]
theorem A5{bx:Bx}{b:Bv}(hf:CM bx b)(ns:List ak)(rtl:Bool):CM (v7 bx ns rtl) (Eh b ns rtl):=fun k w h st=>by
 unfold v7 Eh
 split
 ·rfl
 ·split
  ·rfl
  ·exact Bp hf ..
theorem xI(ns:List ak)(rtl:Bool):∀f:Nat,CM (wv false ns rtl f) (Af ns rtl f)
 |0=>fun _ _ _ _=>rfl
 |f+1=>fun k w h st=>by
  have:=A5 (xI ns rtl f) ns rtl k w h st
  simpa [wv,Af,kpF]using this
end Go.Proofs.YtdnnffbbhijmkaaGreat
