/- Frames on a grid: one and all. -/
import Derived.Test.YtkicjdeddpihaaaGreatS4bg
set_option linter.unusedVariables false
set_option linter.unusedSimpArgs false
set_option maxHeartbeats 3200000
namespace Go.Proofs.YtkicjdeddpihaaaGreat
open Go.ChangeShapes Go.WideShapes Go.ChangeAt Go.RowKit Am Go.Proofs.Tryz
set_option maxRecDepth 100000
def szo(G:Bool)(x:af):Int:=if l8 G x then hyp x else x.base
theorem Bt(G:Bool):∀(xs:List af),mix xs (xs.map (l8 G)) (xs.map hyp)=xs.map (szo G)
 | []=>rfl
 |x::xs=>by simp only [zqA,mix,Bt G xs];rfl
theorem zN{F:List AT->EH->Prop}{eh:EH}{z:LLA}{p:Int}{t r:Nat}{D:List Int}
  (hF:F=m6 0 (fun res h'=>∃rows,h'=rows.map .live/\∃(p:Int),res= .tup [.c (.own 0),.c (.J p)]/\rows=[⟨t,1,vw aj D⟩]))
  (h1:nth eh r=some (.rw ⟨t,1,z⟩)) (hz:z=vw aj D):F [.c (.own r),.c (.J p)] eh:=by
 subst hF hz
 exact .inl ⟨.tup [.c (.own 0),.c (.J p)],toH [.rw ⟨t,1,vw aj D⟩],[some r],
  wkG [some r] ⟨zr2,trivial⟩ ⟨⟨_,_,fM h1,rfl,rfl,rfl,.inl ⟨rfl,aI _ _⟩⟩,trivial⟩ (by simp) aG,_,rfl,p,rfl,rfl⟩
theorem wB(xs:List af)(gap inner:Int)(hl:xs.length<=1048576):PC0 258 [.c (.view (vw af.c xs)),ai gap,ai inner] (.t (abl (CE xs gap inner))):=by
 obtain⟨V,hV⟩:=nmE (vw af.c xs)
 have ha:=lmV hV
 have iV:=imV hV
 have kV:=kmV (k:=9) hV fun _=>rfl
 have dV:=dmV hV
 have c1:=jf xs hl
 have c2:=gv xs (xs.map hyp) gap hl (by simpa using hl)
 obtain⟨H,hH⟩:=nmE (vw aj (xs.map hyp))
 have iH:=imV hH
 have kH:=kmV (k:=1) hH fun _=>rfl
 have dH:=dmV hH
 obtain⟨O,hO⟩:=nmE (wrap64 (iv xs (xs.map hyp) gap))
 rw [<-hV,<-hH]at c1 c2
 rw [<-hO]at c2
 rw [<-hV]
 refine ad (aM f258) ay func258 fun g F hg hF=> ?_
 cbv
 first|(refine bK hg c1 (bA rfl) iH ?_;cbv)|(refine bW hg c1 (bA rfl) iH ?_;cbv)
 first|(refine ij hg c2 (aq (aw rfl) (aq (bf (ab:=⟨_,_,H⟩) rfl kH dH) (aq (aw rfl) (aC)))) rfl ?_;cbv)|(refine fg hg c2 (aq (aw rfl) (aq (bf (ab:=⟨_,_,H⟩) rfl kH dH) (aq (aw rfl) (aC)))) rfl ?_;cbv)
 exact bk hF (by rw [bg hg,CE,hO])
theorem sC(xs:List af)(gap inner:Int)(hl:xs.length<=1048576):da prog 201 [.c (.view (vw af.c xs)),ai gap,ai inner] fun res hL=>∃(p:Int),res= .tup [.c (.own 0),.c (.J p)]/\hL=[⟨3,1,vw aj (flx xs gap inner)⟩]:=by
 have c1:=jf xs hl
 have c2:=ji xs hl
 have c3:=wB xs gap inner hl
 have cw:=fun(gr:Bool)(i:Int)(h0:0<=i)(h1:i<xs.length)(c1 c2 c4 c5 c6:AC)=>ki xs gr i h0 h1 c1 c2 c4 c5 c6
 obtain⟨V,hV⟩:=nmE (vw af.c xs)
 have h6:=lmV hV
 have iV:=imV hV
 have kV:=kmV (k:=9) hV fun _=>rfl
 have dV:=dmV hV
 obtain⟨Z,hZ⟩:=nmE (vw aj (xs.map hyp))
 have iZ:=imV hZ
 have pZ:aB Z=true:=eU iZ
 obtain⟨D,hD⟩:=nmE (flx xs gap inner)
 obtain⟨IO,hw⟩:=nmE (ep xs)
 obtain⟨G,hG⟩:=nmE (CE xs gap inner)
 simp only [<-hV]at c1 c2 c3 cw
 rw [<-hZ]at c1
 rw [<-hw]at c2
 rw [<-hG]at c3
 rw [<-hV,<-hD]
 obtain⟨HL,hk⟩:=nmE (xs.map (l8 G))
 obtain⟨SL,hH⟩:=nmE (xs.map (szo G))
 refine ad (aM f201) ay func201 fun g F hg hF=> ?_
 cbv
 repeat'(first|(refine bv hg c2 rfl (fun R0 hE=> ?_);cases R0<;>cbv))
 ·first|(refine bK hg c1 (bA rfl) iZ ?_;cbv)|(refine bW hg c1 (bA rfl) iZ ?_;cbv)
  exact zN hF rfl (by rw [hZ,hD,flx,if_neg (by rw [<-hw,<-hE];simp)])
 (first|refine bv hg (bH _ _ _) rfl (fun I1 hm=> ?_)|refine bd hg (bH _ _ _) rfl (fun I1 hm=> ?_));cbv
 cases I1<;>cbv
 ·first|(refine bK hg c1 (bA rfl) iZ ?_;cbv)|(refine bW hg c1 (bA rfl) iZ ?_;cbv)
  exact zN hF rfl (by rw [hZ,hD,flx,if_neg (by rw [inL,<-hm];simp)])
 (first|refine bv hg (bH _ _ _) rfl (fun I2 hv=> ?_)|refine bd hg (bH _ _ _) rfl (fun I2 hv=> ?_));cbv
 cases I2<;>cbv
 ·first|(refine bK hg c1 (bA rfl) iZ ?_;cbv)|(refine bW hg c1 (bA rfl) iZ ?_;cbv)
  exact zN hF rfl (by rw [hZ,hD,flx,if_neg (by rw [inL,inL,<-hm,<-hv];simp)])
 have hI:(ep xs&&inL gap&&inL inner)=true:=by rw [inL,inL,<-hm,<-hv,<-hw,<-hE];rfl
 first|(refine bv hg c3 rfl (fun R hR=> ?_);cbv)|(refine bd hg c3 rfl (fun R hR=> ?_);cbv)
 obtain rfl:G=R:=hR.symm
 refine aY hg ay (by kernel_rfl) V (fun x=>lc (af.c x)) xs hV hl (fun z(s:Int×(List Bool×List Int)×LLA×LLA)=>[(0,.v V),(8,.p 0),(9,.i (z))]) (fun z(s:Int×(List Bool×List Int)×LLA×LLA)=>[.bx 253 7 [.view V,.J gap,.J inner,.B G,.own 1,.own 2,.J 0],.rw ⟨4,1,s.2.2.1⟩,.rw ⟨3,1,s.2.2.2⟩]) (fun z(s:Int×(List Bool×List Int)×LLA×LLA)=>s.1=z/\s.2.2.1=vw mc s.2.1.1/\s.2.2.2=vw aj s.2.1.2/\(s.2.1.1.length:Int)=z/\(s.2.1.2.length:Int)=z) (fun(s:Int×(List Bool×List Int)×LLA×LLA) rest=>(s.2.1.1++rest.map (l8 G),s.2.1.2++rest.map (szo G))) ((HL,SL)) (0,([],[]),[],[]) (by rw [hk,hH];rfl) ⟨rfl,rfl,rfl,rfl,rfl⟩ (Wk.weak (wkG [some 0,none,none] zr3 ⟨⟨_,_,rfl,rfl,rfl,rfl,.inr ⟨zr7,trivial⟩⟩,⟨_,rfl,rfl⟩,⟨_,rfl,rfl⟩,trivial⟩ (by decide) aG)) (fun z s B hz h0 hi he=> ?_) (fun z s x rest B z0 z1 z2 hx hy h0 hi hc e1 hB=> ?_)
 rotate_left
 ·obtain⟨i,⟨H,S⟩,eH,eS⟩:=s
  obtain⟨k1,k2,k3,k4,k5⟩:=hi
  dsimp only at k1 k2 k3 k4 k5 h0
  subst k1
  have hT:aN V=(xs.length:Int):=by rw [hV,aO]
  have hK:i<(xs.length:Int):=hT▸z1
  have pH:=pmV k2
  have pS:=pmV k3
  have lH:eH.length<=1048576:=by rw [k2,ar];omega
  have lS:eS.length<=1048576:=by rw [k3,ar];omega
  have kH:=kmV (k:=1) k2 fun _=>rfl
  have dH:=dmV k2
  have kS:=kmV (k:=1) k3 fun _=>rfl
  have dS:=dmV k3
  have hs:=fun c1 c2 c4 c5 c6=>cw G i z0 hK c1 c2 c4 c5 c6
  have h3:itA xs i=x:=by unfold itA;rw [hx];rfl
  obtain⟨Q0,hA⟩:=nmE (wgt G (itA xs i))
  simp only [<-hA]at hs
  rw [h3]at hA
  obtain⟨y0,y1,y2,y3,y4,y5,y6,y7,y8⟩:=x
  obtain⟨HV,hh⟩:=nmE (l8 G ⟨y0,y1,y2,y3,y4,y5,y6,y7,y8⟩)
  obtain⟨SV,hj⟩:=nmE (szo G ⟨y0,y1,y2,y3,y4,y5,y6,y7,y8⟩)
  have hb:HV=if wgt G ⟨y0,y1,y2,y3,y4,y5,y6,y7,y8⟩=0 then true else if G then decide (hyp ⟨y0,y1,y2,y3,y4,y5,y6,y7,y8⟩<y0)else decide (y0<hyp ⟨y0,y1,y2,y3,y4,y5,y6,y7,y8⟩):=hh
  have hd:SV=if HV then hyp ⟨y0,y1,y2,y3,y4,y5,y6,y7,y8⟩else y0:=by rw [hj,szo,<-hh]
  cbv
  rw [hc]
  cbv
  refine goX hg _ z0 hy rfl ?_
  cbv
  (first|refine bm hg (iU ⟨y0,y1,y2,y3,y4,y5,y6,y7,y8⟩) rfl (fun HY ht=> ?_)|refine aX hg (iU ⟨y0,y1,y2,y3,y4,y5,y6,y7,y8⟩) rfl (fun HY ht=> ?_));cbv
  refine goX hg _ z0 hy rfl ?_
  cbv
  first|refine ij hg (hs _ _ (.view eH) (.view eS) _) (dB (wN rfl ⟨aw rfl,aw rfl,aw rfl,aw rfl,bf (ab:=⟨_,_,eH⟩) rfl kH dH,bf (ab:=⟨_,_,eS⟩) rfl kS dS,aw rfl,trivial⟩) (aq (aw rfl) aC)) rfl ?_|refine fg hg (hs _ _ (.view eH) (.view eS) _) (dB (wN rfl ⟨aw rfl,aw rfl,aw rfl,aw rfl,bf (ab:=⟨_,_,eH⟩) rfl kH dH,bf (ab:=⟨_,_,eS⟩) rfl kS dS,aw rfl,trivial⟩) (aq (aw rfl) aC)) rfl ?_
  cbv
  rw [<-ht,<-hA]at hb
  rw [<-ht]at hd
  have t0:g .q .eql Q0 0=decide (Q0=0):=by rw [bn hg];rfl
  by_cases hq:Q0=0
  ·rw [t0,zqu hq]
   rw [if_pos hq]at hb
   rw [hb,if_pos rfl]at hd
   cbv
   have s1:eH++[[.B (true)]]=vw mc (H++[HV]):=by rw [br,k2,hb];rfl
   have s2:eS++[[.J HY]]=vw aj (S++[SV]):=by rw [br,k3,hd];rfl
   refine dz hg rfl (by decide) lH ?_
   cbv
   refine dz hg rfl (by decide) lS ?_
   cbv
   rw [e1]
   simp only [gW hg]
   exact hB ((i+1,(H++[HV],S++[SV]),_,_)) _ _ ⟨(by simpa [hh,hj]using h0),⟨rfl,s1,s2,by simp;omega,by simp;omega⟩⟩ (Wk.weak (wkG [some _,some _,some _] zr3 ⟨⟨_,_,rfl,rfl,rfl,rfl,.inr ⟨zr7,trivial⟩⟩,⟨_,_,rfl,rfl,rfl,rfl,.inl ⟨rfl,s1.symm▸aI _ _⟩⟩,⟨_,_,rfl,rfl,rfl,rfl,.inl ⟨rfl,s2.symm▸aI _ _⟩⟩,trivial⟩ (by decide) aG))
  ·rw [t0,zqt hq]
   rw [if_neg hq]at hb
   cases hGc:G
   ·rw [hGc]at hb
    cbv
    cases hqq:g .q .lss y0 HY
    ·have ha:HV=false:=by rw [hb];rw [bg hg]at hqq;exact hqq
     rw [ha]at hd
     cbv
     have s1:eH++[[.B (false)]]=vw mc (H++[HV]):=by rw [br,k2,ha];rfl
     have s2:eS++[[.J y0]]=vw aj (S++[SV]):=by rw [br,k3,hd];rfl
     refine dz hg rfl (by decide) lH ?_
     cbv
     refine dz hg rfl (by decide) lS ?_
     cbv
     rw [e1]
     simp only [gW hg]
     exact hB ((i+1,(H++[HV],S++[SV]),_,_)) _ _ ⟨(by simpa [hh,hj]using h0),⟨rfl,s1,s2,by simp;omega,by simp;omega⟩⟩ (Wk.weak (wkG [some _,some _,some _] zr3 ⟨⟨_,_,rfl,rfl,rfl,rfl,.inr ⟨⟨rfl,rfl,rfl,(by rw [hGc];exact rfl),rfl,rfl,rfl,trivial⟩,trivial⟩⟩,⟨_,_,rfl,rfl,rfl,rfl,.inl ⟨rfl,s1.symm▸aI _ _⟩⟩,⟨_,_,rfl,rfl,rfl,rfl,.inl ⟨rfl,s2.symm▸aI _ _⟩⟩,trivial⟩ (by decide) aG))
    ·have ha:HV=true:=by rw [hb];rw [bg hg]at hqq;exact hqq
     rw [ha]at hd
     cbv
     have s1:eH++[[.B (true)]]=vw mc (H++[HV]):=by rw [br,k2,ha];rfl
     have s2:eS++[[.J HY]]=vw aj (S++[SV]):=by rw [br,k3,hd];rfl
     refine dz hg rfl (by decide) lH ?_
     cbv
     refine dz hg rfl (by decide) lS ?_
     cbv
     rw [e1]
     simp only [gW hg]
     exact hB ((i+1,(H++[HV],S++[SV]),_,_)) _ _ ⟨(by simpa [hh,hj]using h0),⟨rfl,s1,s2,by simp;omega,by simp;omega⟩⟩ (Wk.weak (wkG [some _,some _,some _] zr3 ⟨⟨_,_,rfl,rfl,rfl,rfl,.inr ⟨⟨rfl,rfl,rfl,(by rw [hGc];exact rfl),rfl,rfl,rfl,trivial⟩,trivial⟩⟩,⟨_,_,rfl,rfl,rfl,rfl,.inl ⟨rfl,s1.symm▸aI _ _⟩⟩,⟨_,_,rfl,rfl,rfl,rfl,.inl ⟨rfl,s2.symm▸aI _ _⟩⟩,trivial⟩ (by decide) aG))
   ·rw [hGc]at hb
    cbv
    cases hqq:g .q .gtr y0 HY
    ·have ha:HV=false:=by rw [hb];rw [cj hg]at hqq;exact hqq
     rw [ha]at hd
     cbv
     have s1:eH++[[.B (false)]]=vw mc (H++[HV]):=by rw [br,k2,ha];rfl
     have s2:eS++[[.J y0]]=vw aj (S++[SV]):=by rw [br,k3,hd];rfl
     refine dz hg rfl (by decide) lH ?_
     cbv
     refine dz hg rfl (by decide) lS ?_
     cbv
     rw [e1]
     simp only [gW hg]
     exact hB ((i+1,(H++[HV],S++[SV]),_,_)) _ _ ⟨(by simpa [hh,hj]using h0),⟨rfl,s1,s2,by simp;omega,by simp;omega⟩⟩ (Wk.weak (wkG [some _,some _,some _] zr3 ⟨⟨_,_,rfl,rfl,rfl,rfl,.inr ⟨⟨rfl,rfl,rfl,(by rw [hGc];exact rfl),rfl,rfl,rfl,trivial⟩,trivial⟩⟩,⟨_,_,rfl,rfl,rfl,rfl,.inl ⟨rfl,s1.symm▸aI _ _⟩⟩,⟨_,_,rfl,rfl,rfl,rfl,.inl ⟨rfl,s2.symm▸aI _ _⟩⟩,trivial⟩ (by decide) aG))
    ·have ha:HV=true:=by rw [hb];rw [cj hg]at hqq;exact hqq
     rw [ha]at hd
     cbv
     have s1:eH++[[.B (true)]]=vw mc (H++[HV]):=by rw [br,k2,ha];rfl
     have s2:eS++[[.J HY]]=vw aj (S++[SV]):=by rw [br,k3,hd];rfl
     refine dz hg rfl (by decide) lH ?_
     cbv
     refine dz hg rfl (by decide) lS ?_
     cbv
     rw [e1]
     simp only [gW hg]
     exact hB ((i+1,(H++[HV],S++[SV]),_,_)) _ _ ⟨(by simpa [hh,hj]using h0),⟨rfl,s1,s2,by simp;omega,by simp;omega⟩⟩ (Wk.weak (wkG [some _,some _,some _] zr3 ⟨⟨_,_,rfl,rfl,rfl,rfl,.inr ⟨⟨rfl,rfl,rfl,(by rw [hGc];exact rfl),rfl,rfl,rfl,trivial⟩,trivial⟩⟩,⟨_,_,rfl,rfl,rfl,rfl,.inl ⟨rfl,s1.symm▸aI _ _⟩⟩,⟨_,_,rfl,rfl,rfl,rfl,.inl ⟨rfl,s2.symm▸aI _ _⟩⟩,trivial⟩ (by decide) aG))
 ·obtain⟨i,⟨H,S⟩,eH,eS⟩:=s
  obtain⟨k1,k2,k3,k4,k5⟩:=hi
  dsimp only at k1 k2 k3 k4 k5 h0
  simp only [List.map_nil,List.append_nil,Prod.mk.injEq]at h0
  obtain rfl:HL=H:=h0.1.symm
  obtain rfl:SL=S:=h0.2.symm
  have pH:=pmV k2
  have pS:=pmV k3
  have hu:HL.length=xs.length:=by rw [hk,zql]
  have hS:SL.length=xs.length:=by rw [hH,zql]
  obtain⟨X,hX⟩:=nmE (Fx.of xs gap inner)
  have ho:ep X.xs=true:=by
   rw [hX]
   simp only [zqs]at hI
   exact hI.1.1
  have hJ:=(ff ho).2
  have hf:X.xs=xs:=by rw [hX];rfl
  obtain⟨r,hr1,h7⟩:=Fx.run_some ho 13 (xs.map hyp) HL (by rw [hf];exact hu) (by have:=j7 HL 0;rw [hf]at hJ;omega)
  have hQ:D=r:=by rw [hD,flx,if_pos hI,<-hG,<-hk,<-hX,hr1];rfl
  have h4:X.runS 13 SL HL=some r:=by
   have:=Fx.run_eq ho 13 (xs.map hyp) HL (by rw [hf];exact hu) (by rw [hf,zql])
   rw [hr1,hf,hk,Bt,<-hH,<-hk]at this
   exact this
  cbv;rw [he];cbv
  refine Ci hg ay (by kernel_rfl) (fun s:(List Int×List Bool×Int)×LLA×LLA=>[(8,.p 0)]) (fun s=>[.bx 253 7 [.view V,.J gap,.J inner,.B G,.own 1,.own 2,.J s.1.2.2],.rw ⟨4,1,s.2.2⟩,.rw ⟨3,1,s.2.1⟩])
   (fun s=>s.2.1=vw aj s.1.1/\s.2.2=vw mc s.1.2.1/\s.1.1.length=xs.length/\s.1.2.1.length=xs.length) (fun k s=>X.runS k s.1.1 s.1.2.1) r 13 ((SL,HL,0),eS,eH) h4 ⟨k3,k2,hS,hu⟩ (Wk.weak (wkG [some 0,some 1,some 2] zr1 ⟨⟨_,_,rfl,rfl,rfl,rfl,.inr ⟨zr7,trivial⟩⟩,wqE rfl pH,wqE rfl pS,trivial⟩ (by decide) aG)) (fun s k B h0 hi hB=> ?_)
  obtain⟨⟨sz,fr,p⟩,eZ,eR⟩:=s
  obtain⟨k1,k2,k3,k4⟩:=hi
  dsimp only at k1 k2 k3 k4 h0
  cases k with
  |zero=>cases h0
  |succ k=>
   rw [Fx.runS]at h0
   have cp:=sw X ho sz fr (by rw [hf];exact k3) (by rw [hf];exact k4) p
   have qZ:=pmV k1
   have qR:=pmV k2
   obtain⟨rt,h5⟩:=nmE (wg X.xs sz X.gap X.inner X.gr)
   have hU:X.gap=gap:=by rw [hX];rfl
   have hW:X.inner=inner:=by rw [hX];rfl
   have hY:X.gr=G:=by rw [hX,hG];rfl
   rw [<-h5]at cp h0
   simp only [Fx.bx,hf,hU,hW,hY,<-hV,<-k1,<-k2]at cp
   cbv
   refine AY hg [0,1,2] cp (by decide) (fun r hr=>by simp only [List.mem_cons,List.not_mem_nil,or_false]at hr;simp only [zqx,List.length_nil];omega) ⟨⟨_,_,rfl,rfl,rfl,rfl,.inr ⟨zr7,trivial⟩⟩,⟨_,_,rfl,rfl,rfl,rfl,.inl ⟨rfl,qR⟩⟩,⟨_,_,rfl,rfl,rfl,rfl,.inl ⟨rfl,qZ⟩⟩,trivial⟩ zr1 fun res eh hq=> ?_
   obtain⟨p',hP,hM,rfl,rfl,h1,h2⟩:=hq
   obtain⟨Z',hp⟩:=nmE (vw aj hP)
   obtain⟨R',hC⟩:=nmE (vw mc hM)
   have hO:=pmV hp
   have hN:=pmV hC
   rw [<-hp,<-hC]
   simp only [dc,EE.mv,uZ hO,uZ hN]
   by_cases hn:fre 0 fr=[]
   ·rw [if_pos hn]at h0 h1 h2
    rw [show decide (fre 0 fr≠[])=false by simp [hn]]
    cbv
    subst h1 h2
    exact zN hF rfl (by rw [hp,hQ];cases h0;rfl)
   ·rw [if_neg hn]at h0 h1 h2
    rw [show decide (fre 0 fr≠[])=true by simp [hn]]
    cbv
    refine hB k ((hP,hM,p'),Z',R') _ _ (Nat.lt_succ_self k) (by rw [h1,h2];exact h0) ⟨hp,hC,by rw [h1,nw];exact k3,by rw [h2,nx];exact k4⟩ (Wk.weak (wkG [some 0,some 1,some 2] zr1 ⟨⟨_,_,rfl,rfl,rfl,rfl,.inr ⟨zr7,trivial⟩⟩,⟨_,_,rfl,rfl,rfl,rfl,.inl ⟨rfl,hN⟩⟩,⟨_,_,rfl,rfl,rfl,rfl,.inl ⟨rfl,hO⟩⟩,trivial⟩ (by decide) aG))
theorem qM(xs:List af)(gap inner:Int)(hl:xs.length<=1048576):da prog 129 [.c (.view (vw af.c xs)),ai gap,ai inner] fun res ha=>res= .o 0/\ha=[⟨3,1,vw aj (flx xs gap inner)⟩]:=by
 have cf:=sC xs gap inner hl
 obtain⟨V,hV⟩:=nmE (vw af.c xs)
 obtain⟨D,hD⟩:=nmE (vw aj (flx xs gap inner))
 have pD:=pmV hD
 rw [<-hV,<-hD]at cf
 rw [<-hV,<-hD]
 refine ad (aM f129) ay func129 fun g F hg hF=> ?_
 cbv
 refine r6 hg (fC cf rfl fun res ha hq=> ?_)
 obtain⟨p,rfl,rfl⟩:=hq
 refine⟨[.rw ⟨3,1,D⟩],by simp only [zqA,List.map_nil,fL (ab:=⟨3,1,D⟩) pD];rfl,?_⟩
 cbv
 exact bV hF rfl pD
theorem wo(a:Int):wrap64 (wrap64 a)=wrap64 a:=by unfold wrap64;omega
theorem dX(a b:Int):(a !=b)=decide (¬a=b):=by by_cases h:a=b<;>simp [h]
def elZ(l:List Int)(i:Int):Int:=if 0<=i then l[i.toNat]?.getD 0 else 0
def evm(many:Int):Nat:=if many<=64 then many.toNat else 0
def evn(n many:Int):List Int:=shr n (List.replicate (evm many) 1)
theorem Cc(m:Nat)(h:m<=64):Bl (List.replicate m 1)=true:=by
 simp only [Bl,zqs,zqp,zqf,List.length_replicate]
 exact⟨fun w hw=>by rw [List.eq_of_mem_replicate hw];decide,by omega⟩
theorem pg(many:Int):evm many<=64:=by unfold evm;split<;>omega
theorem od{many:Int}(h0:0<=many)(h1:many<=64):(evm many:Int)=many:=by unfold evm;rw [if_pos h1];omega
theorem ii(n many:Int):(evn n many).length=evm many:=by rw [evn,shr,if_pos (Cc _ (pg many)),xN,List.length_replicate]
variable {l:List Int}
theorem og{i:Nat}{x:Int}(h:l[i]? =some x):elZ l (i:Int)=x:=by
 unfold elZ;rw [if_pos (by omega),Int.toNat_natCast,h];rfl
theorem CR{i:Int}(h:i<0\/(l.length:Int)<=i):elZ l i=0:=by
 unfold elZ
 split
 ·rw [zqz (by omega)];rfl
 ·rfl
theorem ky{i:Int}(h0:0<=i)(h1:i<(l.length:Int)):l[i.toNat]? =some (elZ l i):=by
 unfold elZ
 rw [if_pos h0,zqc (by omega)];rfl
theorem CS(i:Int):elZ [] i=0:=by unfold elZ;split<;>rfl
def led(free many js:Int):Int:=
 if rng many 1 12=false then 0 else if js=2 then free else if js=3 then fdv free 2
 else if js=5 then(if free<0 then fdv free 2 else elZ (evn free (2*many)) 0)
 else if js=6 then(if free<0 then fdv free 2 else elZ (evn free (many+1)) 0)else 0
def btw(free many js i:Int):Int:=
 if free<0 then 0 else if js=4 then elZ (evn free (many-1)) i
 else if js=5 then wrap64 (elZ (evn free (2*many)) (2*i+1)+elZ (evn free (2*many)) (2*i+2))
 else if js=6 then elZ (evn free (many+1)) (i+1)else 0
def auN:List af->Int
 | []=>0
 |x::r=>((if x.autoBefore then 1 else 0)+(if x.autoBehind then 1 else 0))+auN r
theorem Ab:∀xs:List af,0<=auN xs/\auN xs<=2*xs.length
 | []=>by simp [auN]
 |x::r=>by
  obtain⟨h1,h2⟩:=Ab r
  simp only [auN,zqx]
  split<;>split<;>omega
def auT(ex:List Int)(k:Int)(b:Bool):Int:=if b then elZ ex k else 0
def auK(k:Int)(b:Bool):Int:=if b then k+1 else k
def Jf(ex:List Int)(a k:Int)(x:af):Int:=wrap64 (a+wrap64 (x.before+auT ex k x.autoBefore))
def JE(ex:List Int)(sp:Int->Int)(gap many i a k:Int)(x:af)(s:Int):Int:=
 let q:=wrap64 (Jf ex a k x+wrap64 (wrap64 (s+x.behind)+auT ex (auK k x.autoBefore) x.autoBehind))
 if i+1<many then wrap64 (wrap64 (q+gap)+sp i)else q
def xF(ex:List Int)(sp:Int->Int)(gap many:Int):Int->Int->Int->List (af×Int)->List Int
 |_,_,_,[]=>[]
 |i,a,k,(x,s)::r=>Jf ex a k x::xF ex sp gap many (i+1) (JE ex sp gap many i a k x s) (auK (auK k x.autoBefore) x.autoBehind) r
def al5(xs:List af)(ss:List Int)(gap inner:Int):Bool:=ss.all (fun s=>rng s 0 1048576)&&(ep xs&&(decide (ss.length=xs.length)&&(rng gap 0 1048576&&rng inner 0 1048576)))
def alF(xs:List af)(ss:List Int)(gap inner:Int):Int:=sg (wrap64 (inner-wrap64 (iv xs ss gap)))
def alE(xs:List af)(ss:List Int)(gap inner:Int):List Int:=if 0<auN xs/\0<alF xs ss gap inner then evn (alF xs ss gap inner) (auN xs)else []
def alS(xs:List af)(free js i:Int):Int:=if auN xs=0 then btw free (xs.length:Int) js i else 0
def al0(xs:List af)(free js:Int):Int:=if auN xs=0 then led free (xs.length:Int) js else 0
def alg(xs:List af)(ss:List Int)(gap inner js:Int):List Int:=
 if al5 xs ss gap inner=false then []else xF (alE xs ss gap inner) (alS xs (alF xs ss gap inner) js) gap (xs.length:Int) 0 (al0 xs (alF xs ss gap inner) js) 0 (xs.zip ss)
def Al:Int->List Int->Int
 |a,[]=>a
 |a,c::r=>Al (wrap64 (a+sg c)) r
def crt(cs:List Int)(gap:Int):Int:=if cs=[]then 0 else wrap64 (Al 0 cs+wrap64 (gap*((cs.length:Int)-1)))
def acr(cs:List Int)(gap inner:Int):Bool:=cs.all (fun c=>rng c 0 1048576)&&(decide ((cs.length:Int)<=12)&&(rng gap 0 1048576&&rng inner 0 1048576))
def xD(cs:List Int)(gap inner ct:Int):List Int:=if acr cs gap inner=true/\ct=1/\0<wrap64 (inner-crt cs gap)then(cs.zip (evn (wrap64 (inner-crt cs gap)) (cs.length:Int))).map (fun p=>wrap64 (p.1+p.2))else cs
def plG(sp:Int->Int)(gap:Int):Int->Int->List Int->List Int
 |_,_,[]=>[]
 |i,a,c::r=>a::plG sp gap (i+1) (wrap64 (a+wrap64 (wrap64 (c+gap)+sp i))) r
def pll(cs:List Int)(gap inner ct:Int):List Int:=
 if acr cs gap inner=false then []else plG (btw (sg (wrap64 (inner-crt cs gap))) (cs.length:Int) (wh ct)) gap 0 (led (sg (wrap64 (inner-crt cs gap))) (cs.length:Int) (wh ct)) cs
def Dr:Int->Bool->List av->Int
 |m,_,[]=>m
 |m,f,x::r=>if onB x=true/\(f=false\/m<wrap64 (x.before+x.base))then Dr (wrap64 (x.before+x.base)) true r else Dr m f r
def bas(xs:List av):Int:=Dr 0 false xs
def mx2(a b:Int):Int:=if a<b then b else a
def Jz(b:Int)(x:av):Int:=if onB x then wrap64 (wrap64 (wrap64 (b+x.size)+x.behind)-x.base)else wrap64 (wrap64 (x.size+x.before)+x.behind)
def FH(b:Int):Int->List av->Int
 |m,[]=>m
 |m,x::r=>FH b (mx2 m (Jz b x)) r
def cro(xs:List av):Int:=if(decide ((xs.length:Int)<=12)&&xs.all uH)=false then 0 else cl (FH (bas xs) 0 xs)
def cr2:Int->Int->Bool->List av->Int×Int×Bool
 |n,b,s,[]=>(n,b,s)
 |n,b,s,x::r=>if onB x then cr2 n (if s=false\/b<wrap64 (wrap64 (x.size+x.behind)-x.base)then wrap64 (wrap64 (x.size+x.behind)-x.base)else b) true r
  else cr2 (if n<wrap64 (wrap64 (x.size+x.before)+x.behind)then wrap64 (wrap64 (x.size+x.before)+x.behind)else n) b s r
theorem siB{x:av}(h:uH x=true):(0<=x.size/\x.size<=1048576)/\(0<=x.base/\x.base<=1048576)/\(-1048576<=x.before/\x.before<=1048576)/\ -1048576<=x.behind/\x.behind<=1048576:=by
 simp only [uH,rng,zqs,zqp]at h
 omega
theorem yD:∀(xs:List av)(m:Int)(f:Bool),xs.all uH=true-> -2097152<=m->m<=2097152-> -2097152<=Dr m f xs/\Dr m f xs<=2097152
 | [],m,f,_,h1,h2=>⟨h1,h2⟩
 |x::r,m,f,h,h1,h2=>by
  simp only [zqD,zqs]at h
  have hb:=siB h.1
  have e:=ak (x.before+x.base) (by omega)
  simp only [Dr]
  split
  ·exact yD r _ true h.2 (by omega) (by omega)
  ·exact yD r m f h.2 h1 h2
theorem CX(b:Int)(hb: -2097152<=b/\b<=2097152):∀(xs:List av)(n be:Int)(s:Bool),xs.all uH=true-> -4194304<=be->be<=4194304->
  (if(cr2 n be s xs).2.2=true/\(cr2 n be s xs).1<wrap64 (b+(cr2 n be s xs).2.1)then wrap64 (b+(cr2 n be s xs).2.1)else(cr2 n be s xs).1)=FH b (if s=true/\n<wrap64 (b+be)then wrap64 (b+be)else n) xs
 | [],n,be,s,_,_,_=>rfl
 |x::r,n,be,s,h,h1,h2=>by
  simp only [zqD,zqs]at h
  have hx:=siB h.1
  have e1:=ak (x.size+x.behind) (by omega)
  have e2:=ak (x.size+x.behind-x.base) (by omega)
  have e3:=ak (b+be) (by omega)
  have e4:=ak (b+x.size) (by omega)
  have e5:=ak (b+x.size+x.behind) (by omega)
  have e6:=ak (b+x.size+x.behind-x.base) (by omega)
  have e7:=ak (b+(x.size+x.behind-x.base)) (by omega)
  simp only [cr2,FH,Jz,mx2]
  rcases Bool.eq_false_or_eq_true (onB x)with ho|ho
  ·simp only [ho,if_true]
   rw [CX b hb r _ _ _ h.2 (by rw [e1,e2];split<;>omega) (by rw [e1,e2];split<;>omega)]
   congr 1
   simp only [e1,e2,e3,e4,e5,e6]
   cases s
   ·simp only [Bool.false_eq_true,false_and,if_false,true_or,if_true,true_and,e7]
    split<;>split<;>omega
   ·simp only [Bool.true_eq_false,false_or,true_and]
    by_cases hc:be<x.size+x.behind-x.base
    ·rw [if_pos hc,e7];split<;>split<;>(try split)<;>omega
    ·rw [if_neg hc,e3];split<;>split<;>(try split)<;>omega
  ·simp only [ho,Bool.false_eq_true,if_false]
   rw [CX b hb r _ _ _ h.2 h1 h2]
   congr 1
   cases s
   ·simp
   ·simp only [true_and,e3]
    split<;>split<;>(try split)<;>(try split)<;>omega
theorem G4{xs:List av}(h:xs.all uH=true):(if(cr2 0 0 false xs).2.2=true/\(cr2 0 0 false xs).1<wrap64 (bas xs+(cr2 0 0 false xs).2.1)then wrap64 (bas xs+(cr2 0 0 false xs).2.1)else(cr2 0 0 false xs).1)=FH (bas xs) 0 xs:=by
 have:=CX (bas xs) (yD xs 0 false h (by omega) (by omega)) xs 0 0 false h (by omega) (by omega)
 simpa using this
def lit(xs:List af)(ln:List Int):List af:=ln.filterMap fun i=>if 0<=i then xs[i.toNat]? else none
def lou(xs:List af)(gap:Int)(ln:List Int):Int:=wrap64 (iv (lit xs ln) ((lit xs ln).map hyp) gap)
def lnS(xs:List af)(gap room:Int)(one:Bool)(out:List (List Int))(i:Int):List (List Int):=
 match out.getLast? with
 |some ln=>if one=true\/lou xs gap (ln++[i])<=room then out.dropLast++[ln++[i]]else out++[[i]]
 |none=>[[i]]
def lnG(xs:List af)(gap room:Int)(one:Bool):List (List Int)->Int->List af->List (List Int)
 |out,_,[]=>out
 |out,i,_::r=>lnG xs gap room one (lnS xs gap room one out i) (i+1) r
def lns(xs:List af)(gap room:Int)(wr:Bool):List (List Int):=lnG xs gap room (!wr||(decide (room<0)|| !ep xs)) [] 0 xs
def lng(xs:List af)(gap room:Int)(wr:Bool):Int:=(lns xs gap room wr).foldl (fun m l=>mx2 m (lou xs gap l)) 0
def lsz(xs:List af)(gap room:Int)(wr:Bool)(inner:Int):List Int:=(lns xs gap room wr).flatMap fun l=>flx (lit xs l) gap inner
def ixs:Int->Nat->List Int
 |_,0=>[]
 |i,n+1=>i::ixs (i+1) n
theorem bU:∀(n:Nat)(i:Int),(ixs i n).length=n
 |0,_=>rfl
 |n+1,i=>by simp [ixs,bU n]
theorem lA:∀(n:Nat)(i j:Int),j∈ixs i n↔i<=j/\j<i+n
 |0,i,j=>by simp only [ixs,List.not_mem_nil,false_iff];omega
 |n+1,i,j=>by simp only [ixs,List.mem_cons,lA n];omega
theorem jV:∀(a b:Nat)(i:Int),ixs i (a+b)=ixs i a++ixs (i+a) b
 |0,b,i=>by simp [ixs]
 |a+1,b,i=>by
  rw [show a+1+b=a+b+1 by omega]
  simp only [ixs,List.cons_append]
  rw [jV a b (i+1),show i+1+(a:Int)=i+((a+1:Nat):Int) by omega]
theorem vc(xs:List af)(gap room:Int)(one:Bool)(out:List (List Int))(i:Int):(lnS xs gap room one out i).flatten=out.flatten++[i]/\((∀l∈out,l≠[])->∀l∈lnS xs gap room one out i,l≠[]):=by
 unfold lnS
 rcases List.eq_nil_or_concat out with rfl|⟨o,y,rfl⟩
 ·simp
 ·rw [List.concat_eq_append,List.getLast?_append,List.getLast?_singleton]
  simp only [Option.some_or]
  split
  ·rw [List.dropLast_concat]
   refine⟨by simp,fun h l hl=> ?_⟩
   rcases List.mem_append.1 hl with h1|h1
   ·exact h l (by simp [h1])
   ·rw [List.mem_singleton.1 h1];simp
  ·refine⟨by simp,fun h l hl=> ?_⟩
   rcases List.mem_append.1 hl with h1|h1
   ·exact h l h1
   ·rw [List.mem_singleton.1 h1];simp
theorem vd(xs:List af)(gap room:Int)(one:Bool):∀(r:List af)(out:List (List Int))(i:Int),(lnG xs gap room one out i r).flatten=out.flatten++ixs i r.length/\((∀l∈out,l≠[])->∀l∈lnG xs gap room one out i r,l≠[])
 | [],out,i=>by simp [lnG,ixs]
 |x::r,out,i=>by
  obtain⟨h1,h2⟩:=vc xs gap room one out i
  obtain⟨h3,h4⟩:=vd xs gap room one r (lnS xs gap room one out i) (i+1)
  refine⟨?_,fun h=>h4 (h2 h)⟩
  simp only [lnG,zqx,ixs]
  rw [h3,h1];simp
theorem jT(xs:List af)(gap room:Int)(wr:Bool):(lns xs gap room wr).flatten=ixs 0 xs.length:=by
 have:=(vd xs gap room (!wr||(decide (room<0)|| !ep xs)) xs [] 0).1
 simpa [lns]using this
theorem H4(xs:List af)(gap room:Int)(wr:Bool):∀l∈lns xs gap room wr,l≠[]:=(vd xs gap room _ xs [] 0).2 (by simp)
variable {xs:List af}{gap room:Int}
theorem vb{wr:Bool}(hl:l∈lns xs gap room wr){i:Int}(hi:i∈l):0<=i/\i<(xs.length:Int):=by
 have:i∈(lns xs gap room wr).flatten:=List.mem_flatten.2 ⟨l,hl,hi⟩
 rw [jT,lA]at this
 omega
theorem j8:∀(ls:List (List Int)),(∀l∈ls,l≠[])->ls.length<=ls.flatten.length
 | [],_=>by simp
 |l::ls,h=>by
  have h1:=j8 ls (fun x hx=>h x (List.mem_cons_of_mem _ hx))
  have h2:0<l.length:=List.length_pos_iff.2 (h l (List.mem_cons_self ..))
  simp only [List.flatten_cons,zqe,zqx]
  omega
theorem lx(xs:List af)(gap room:Int)(wr:Bool):(lns xs gap room wr).length<=xs.length:=by
 have:=j8 _ (H4 xs gap room wr)
 rwa [jT,bU]at this
theorem mV{ls:List (List Int)}(hl:l∈ls):l.length<=ls.flatten.length:=by
 induction ls with
 |nil=>simp at hl
 |cons a ls ih=>
  simp only [List.flatten_cons,zqe]
  rcases List.mem_cons.1 hl with rfl|h
  ·omega
  ·have:=ih h;omega
theorem jS{wr:Bool}(hl:l∈lns xs gap room wr):l.length<=xs.length:=by
 have:=mV hl
 rwa [jT,bU]at this
theorem yh{xs:List af}:∀{ln:List Int},(∀i∈ln,0<=i/\i<(xs.length:Int))->(lit xs ln).length=ln.length
 | [],_=>rfl
 |i::ln,h=>by
  have h1:=h i (List.mem_cons_self ..)
  have:=yh (ln:=ln) fun j hj=>h j (List.mem_cons_of_mem _ hj)
  unfold lit at this⊢
  rw [List.filterMap_cons,if_pos h1.1,zqc (by omega)]
  simp [this]
variable {ln:List Int}
theorem rC:(lit xs ln).length<=ln.length:=by unfold lit;exact List.length_filterMap_le _ _
theorem Cm{x:af}(h:x∈lit xs ln):x∈xs:=by
 unfold lit at h
 obtain⟨i,_,hi⟩:=List.mem_filterMap.1 h
 split at hi
 ·exact zqd hi
 ·cases hi
theorem yg(xs:List af)(gap room:Int)(wr:Bool)(inner:Int):(lsz xs gap room wr inner).length=xs.length:=by
 have ha:∀ls:List (List Int),(∀l∈ls,∀i∈l,0<=i/\i<(xs.length:Int))->(ls.flatMap fun l=>flx (lit xs l) gap inner).length=ls.flatten.length:=by
  intro ls
  induction ls with
  |nil=>intro _;rfl
  |cons l ls ih=>
   intro h
   simp only [List.flatMap_cons,List.flatten_cons,zqe]
   rw [ih fun x hx=>h x (List.mem_cons_of_mem _ hx),GN,yh (h l (List.mem_cons_self ..))]
 unfold lsz
 rw [ha _ fun l hl i hi=>vb hl hi,jT,bU]
theorem nR(n:Nat)(i:Int):ixs i (n+1)=ixs i n++[i+n]:=by rw [jV n 1 i];rfl
theorem xd:∀(n j:Nat)(i:Int),j<n->(ixs i n)[j]? =some (i+j)
 |0,_,_,h=>by omega
 |n+1,0,i,_=>by simp [ixs]
 |n+1,j+1,i,h=>by
  simp only [ixs,List.getElem?_cons_succ]
  rw [xd n j (i+1) (by omega)]
  congr 1;omega
def spc(free many js:Int):List Int:=(ixs 0 many.toNat).map fun i=>if i+1<many then btw free many js i else 0
def spL(b:Int->Int)(m z:Nat):List Int:=(ixs 0 z).map b++List.replicate (m-z) 0
variable {m z:Nat}
theorem Gh(b:Int->Int)(h:z<=m):(spL b m z).length=m:=by simp [spL,bU];omega
theorem xM(b:Int->Int)(h:z<m):spL b m z=(ixs 0 z).map b++0::List.replicate (m-(z+1)) 0:=by
 rw [spL,show m-z=(m-(z+1))+1 by omega,List.replicate_succ]
theorem yS(b:Int->Int)(h:z<m):spL b m (z+1)=(ixs 0 z).map b++b z::List.replicate (m-(z+1)) 0:=by
 rw [spL,nR,List.map_append,zqC];simp
theorem Gg(b:Int->Int)(h:z<m):(spL b m z).set z (b z)=spL b m (z+1):=by
 rw [xM b h,yS b h,List.set_append_right _ _ (by simp [bU])]
 simp [bU]
theorem DB(b:Int->Int)(h:z<m)(hb:b z=0):spL b m z=spL b m (z+1):=by rw [xM b h,yS b h,hb]
theorem Hx(b:Int->Int)(h:z<m):(spL b m z)[z]? =some 0:=by
 rw [xM b h,zqg (by simp [bU])]
 simp [bU]
theorem Gf(free many js:Int){z:Nat}(h0:0<=many)(hz:z=0\/(z:Int)<many)(h:¬(z:Int)+1<many):spL (btw free many js) many.toNat z=spc free many js:=by
 have ha:∀n:Nat,(n:Int)+1<=many->(ixs 0 n).map (btw free many js)=(ixs 0 n).map fun i=>if i+1<many then btw free many js i else 0:=fun n hn=>
  List.map_congr_left fun i hi=>by rw [lA]at hi;rw [if_pos (by omega)]
 unfold spc
 by_cases hm:many=0
 ·subst hm
  obtain rfl:z=0:=by omega
  simp [spL,ixs]
 obtain rfl:many=(z:Int)+1:=by omega
 rw [show((z:Int)+1).toNat=z+1 by omega,nR,List.map_append,spL,ha z (by omega)]
 simp
theorem Gc(free many js:Int)(h:free<0):spc free many js=List.replicate many.toNat 0:=by
 unfold spc
 have:∀(n:Nat)(j:Int),(ixs j n).map (fun i=>if i+1<many then btw free many js i else 0)=List.replicate n 0:=by
  intro n
  induction n with
  |zero=>intro j;rfl
  |succ n ih=>
   intro j
   simp only [ixs,zqA,List.replicate_succ]
   rw [ih (j+1)]
   congr 1
   split
   ·unfold btw;rw [if_pos h]
   ·rfl
 exact this _ 0
theorem E7(free many js:Int){i:Int}(h0:0<=i)(h1:i<many):(spc free many js)[i.toNat]? =some (if i+1<many then btw free many js i else 0):=by
 unfold spc
 rw [zqi,xd _ _ _ (show i.toNat<many.toNat by omega)]
 simp only [Option.map_some]
 rw [show(0:Int)+(i.toNat:Int)=i by omega]
def mL(lo:Nat)(bs:List Nat):Prop:=bs.Nodup/\∀b∈bs,lo<=b
theorem mL.mono{lo lo':Nat}{bs:List Nat}(h:lo<=lo')(hn:mL lo' bs):mL lo bs:=⟨hn.1,fun b hb=>Nat.le_trans h (hn.2 b hb)⟩
theorem mL.nil(lo:Nat):mL lo []:=⟨List.nodup_nil,fun b hb=>by simp at hb⟩
theorem mL.app{lo lo':Nat}{ps bs:List Nat}(h:lo<=lo')(ha:mL lo ps)(hb:mL lo' bs)(hlt:∀b∈ps,b<lo'):mL lo (ps++bs):=
 ⟨List.nodup_append.2 ⟨ha.1,hb.1,fun a h1 b h2 he=>by have:=hlt a h1;have:=hb.2 b h2;omega⟩,fun b hc=>(List.mem_append.1 hc).elim (ha.2 b) fun h2=>Nat.le_trans h (hb.2 b h2)⟩
variable {V:LLA}
theorem zI(h:pc V=true):∀y∈V,∀c∈y,∃u,c= .imm u:=fun y hy c hc=>by
 unfold pc at h
 have:=List.all_eq_true.1 (List.all_eq_true.1 h y hy) c hc
 cases c<;>first|exact⟨_,rfl⟩|cases this
theorem Ic(h:pc V=true):V.map (·.map vwC)=V:=by
 refine(List.map_congr_left (g:=id) fun x hx=> ?_).trans (List.map_id V)
 refine(List.map_congr_left (g:=id) fun c hc=> ?_).trans (List.map_id x)
 obtain⟨u,rfl⟩:=zI h x hx c hc
 rfl
theorem Ie(h:pc V=true):fpE V=[]:=by
 unfold fpE
 rw [List.flatMap_eq_nil_iff]
 intro y hy
 unfold fpL
 rw [List.flatMap_eq_nil_iff]
 intro c hc
 obtain⟨u,rfl⟩:=zI h y hy c hc
 rfl
theorem yE{e:List AC}(h:e.all ik=true):e.all dt=true:=List.all_eq_true.2 fun c hc=>by
 have:=List.all_eq_true.1 h c hc
 cases c<;>first|rfl|cases this
theorem bQ{es:LLA}(h:∀e∈es,e.all ik=true):aB es=true:=List.all_eq_true.2 fun e he=>yE (h e he)
variable {h:AH}
theorem Av{bl:Nat->Nat}{c:AC}(hb:ik c=true):wk bl h c c:=by
 cases c<;>first|exact .imm _|exact .fv _ _|cases hb
variable {r:Nat}{ab:AB}
theorem o5{bl:Nat->Nat}(hr:h[r]? =some (.live ab))(hb:∀e∈ab.es,e.all ik=true):wk bl h (.own r) (.fv (hd1 (bl r) ab.es++fpE ab.es) (ab.es.map (·.map vwC))):=
 .row r ab ab.es hr rfl (fun i x y hx hy=>by rw [hx]at hy;cases hy;rfl) fun i x y hx hy j c d hc hd=>by
  rw [hx]at hy
  cases hy
  rw [hc]at hd
  cases hd
  exact Av (List.all_eq_true.1 (hb x (zqd hx)) c (zqd hc))
theorem qV{bl:Nat->Nat}(hr:h[r]? =some (.live ab))(hi:pc ab.es=true):wk bl h (.own r) (.fv (hd1 (bl r) ab.es) ab.es):=by
 have:=o5 (bl:=bl) hr (fun e he=>List.all_eq_true.2 fun c hc=>by obtain⟨u,rfl⟩:=zI hi e he c hc;rfl)
 rwa [Ic hi,Ie hi,List.append_nil]at this
variable {lo:Nat}
theorem r7{bl:Nat->Nat}{xs:List AT}(hb:Df lo bl h xs)(hr:h[r]? =some (.live ab)):mL lo (hd1 (bl r) ab.es):=by
 cases he:ab.es with
 |nil=>exact mL.nil lo
 |cons e es=>exact⟨by simp [hd1],fun b ha=>by simp only [hd1,List.mem_singleton]at ha;subst ha;exact(hb r ab hr (by rw [he];simp)).1⟩
theorem G9{bl:Nat->Nat}{xs:List AT}(hb:Df lo bl h xs)(hr:h[r]? =some (.live ab))(hn:mL lo (fpE ab.es)):mL lo (hd1 (bl r) ab.es++fpE ab.es):=by
 refine⟨List.nodup_append.2 ⟨(r7 hb hr).1,hn.1,fun a h1 b h2 he=> ?_⟩,fun b ha=>(List.mem_append.1 ha).elim ((r7 hb hr).2 b) (hn.2 b)⟩
 subst he
 cases hes:ab.es with
 |nil=>rw [hes]at h1;simp [hd1]at h1
 |cons e es=>
  rw [hes]at h1
  simp only [hd1,List.mem_singleton]at h1
  subst h1
  obtain⟨x,hx,ha⟩:=List.mem_flatMap.1 h2
  obtain⟨c,hc,hd⟩:=List.mem_flatMap.1 ha
  exact(hb r ab hr (by rw [hes];simp)).2.2.1 r ab hr x hx c hc hd
theorem EC{bl:Nat->Nat}{xs:List AT}(hb:Df lo bl h xs)(hr:h[r]? =some (.live ab)){ps:List Nat}{ys:LLA}{x:AT}(hx:x∈xs)(hc: .fv ps ys∈x.cells)(hn:mL lo ps):mL lo (ps++hd1 (bl r) ab.es):=by
 refine⟨List.nodup_append.2 ⟨hn.1,(r7 hb hr).1,fun a h1 b h2 he=> ?_⟩,fun b ha=>(List.mem_append.1 ha).elim (hn.2 b) ((r7 hb hr).2 b)⟩
 subst he
 cases hes:ab.es with
 |nil=>rw [hes]at h2;simp [hd1]at h2
 |cons e es=>
  rw [hes]at h2
  simp only [hd1,List.mem_singleton]at h2
  subst h2
  exact(hb r ab hr (by rw [hes];simp)).2.2.2 x hx _ hc h1
theorem CJ:∀(es:LLA)(j:Nat)(y:List AC),j<es.length->(∀(i:Nat)(e:List AC),j<=i->es[i]? =some e->fpL e=[])->fpE (es.set j y)=fpE es++fpL y
 | [],j,y,hj,_=>by simp at hj
 |e::es,0,y,_,hz=>by
  have h1:fpE es=[]:=by
   unfold fpE
   rw [List.flatMap_eq_nil_iff]
   intro x hx
   obtain⟨i,hi,rfl⟩:=List.getElem_of_mem hx
   exact hz (i+1) _ (Nat.zero_le _) (by simp [hi])
  have h2:=hz 0 e (Nat.le_refl _) rfl
  show fpL y++fpE es=fpL e++fpE es++fpL y
  rw [h1,h2];simp
 |e::es,j+1,y,hj,hz=>by
  have:=CJ es j y (by simpa using hj) (fun i x hi hx=>hz (i+1) x (by omega) (by simpa using hx))
  show fpL e++fpE (es.set j y)=fpL e++fpE es++fpL y
  rw [this,zqC]
structure qj(k:Nat)(V es:LLA)(z:Int)(lo:Nat):Prop where
 z0:0<=z
 z1:z<=aN V
 len:es.length=V.length
 kk:∀e∈es,e.length=k
 bare:∀e∈es,e.all ik=true
 done:∀i:Nat,(i:Int)<z->(es[i]?).map (·.map vwC)=V[i]?
 zero:∀(i:Nat)(e:List AC),z<=(i:Int)->es[i]? =some e->fpL e=[]
 new:mL lo (fpE es)
variable {k:Nat}
theorem qj.start{row:List AC}{n:Int}(hk:row.length=k)(hi:pc [row]=true)(hn:n=aN V):qj k V (List.replicate n.toNat row) 0 lo:=by
 have ha:=zI hi row (by simp)
 have hb:fpL row=[]:=by unfold fpL;rw [List.flatMap_eq_nil_iff];intro c hc;obtain⟨u,rfl⟩:=ha c hc;rfl
 rw [ah]at hn
 refine⟨Int.le_refl 0,by rw [ah];omega,by simp [hn],fun e he=> ?_,fun e he=> ?_,fun i hi=>by omega,fun i e _ he=> ?_,?_⟩
 ·rw [List.eq_of_mem_replicate he];exact hk
 ·rw [List.eq_of_mem_replicate he];exact List.all_eq_true.2 fun c hc=>by obtain⟨u,rfl⟩:=ha c hc;rfl
 ·rw [List.eq_of_mem_replicate (zqd he)];exact hb
 ·have:fpE (List.replicate n.toNat row)=[]:=by unfold fpE;rw [List.flatMap_eq_nil_iff];intro e he;rw [List.eq_of_mem_replicate he];exact hb
  rw [this];exact mL.nil lo
theorem qj.step{V es:LLA}{z:Int}{lo lo' j:Nat}{y v:List AC}(hs:qj k V es z lo)(hc:z<aN V)(hj:j=z.toNat)(hv:V[z.toNat]? =some v)(hy:y.map vwC=v)(hk:y.length=k)(hb:y.all ik=true)(hlo:lo<=lo')(hn:mL lo' (fpL y))(hlt:∀b∈fpE es,b<lo'):qj k V (es.set j y) (z+1) lo:=by
 have h0:=hs.z0
 have ha:j<es.length:=by rw [hs.len];rw [ah]at hc;omega
 subst hj
 refine⟨by omega,by omega,by simp [hs.len],fun e he=> ?_,fun e he=> ?_,fun i hi=> ?_,fun i e hi he=> ?_,?_⟩
 ·rcases List.mem_or_eq_of_mem_set he with h|h
  ·exact hs.kk e h
  ·rw [h];exact hk
 ·rcases List.mem_or_eq_of_mem_set he with h|h
  ·exact hs.bare e h
  ·rw [h];exact hb
 ·by_cases hiz:i=z.toNat
  ·subst hiz
   rw [List.getElem?_set_self ha,Option.map_some,hv,hy]
  ·rw [List.getElem?_set_ne (fun h=>hiz h.symm)]
   exact hs.done i (by omega)
 ·rw [List.getElem?_set_ne (by omega)]at he
  exact hs.zero i e (by omega) he
 ·rw [CJ es z.toNat y ha (fun i e hi he=>hs.zero i e (by omega) he)]
  exact mL.app hlo hs.new hn hlt
theorem qj.all{V es:LLA}{z:Int}(hs:qj k V es z lo)(hz:¬z<aN V):es.map (·.map vwC)=V:=by
 refine List.ext_getElem? fun i=> ?_
 rw [zqi]
 by_cases hi:i<V.length
 ·exact hs.done i (by rw [ah]at hz;omega)
 ·rw [zqz (by rw [hs.len];omega),zqz (by omega)];rfl
theorem qj.mem{V es:LLA}{z:Int}{lo j:Nat}(hs:qj k V es z lo)(hj:j<es.length):∃e,es[j]? =some e/\e.length=k:=⟨es[j],zqc hj,hs.kk _ (List.getElem_mem hj)⟩
theorem yn{P:Program}{n0 N:Nat}{β:BP}{g:Gd}(hg:g=G0 P n0 N){xs:LLA}{z:Int}{j k:Nat}{K:Nat->Prop}(hz:0<=z)(hj:j=z.toNat)(hy:j<xs.length)(hK:K j):g .Y k xs z K:=by subst hg hj;exact⟨hz,hy,hK⟩
structure fu(G es:LLA)(z:Int):Prop where
 z0:0<=z
 z1:z<=aN G
 eq:es=G.take z.toNat
end Go.Proofs.YtkicjdeddpihaaaGreat
