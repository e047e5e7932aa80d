/- The program's flexed lines, as maps of data. -/
import Derived.Test.YtdnnffbbhijmkaaGreatQbd
set_option linter.unusedVariables false
set_option linter.unusedSimpArgs false
set_option maxHeartbeats 3200000
namespace Go.Proofs.YtdnnffbbhijmkaaGreat
open Go.ChangeShapes Go.WideShapes Go.ChangeAt Go.RowKit Am Go.Proofs.Tryz
set_option maxRecDepth 100000
def lJ(gr:Bool)(x:ah):Bool:=if wgt gr x=0 then true else if gr then decide (hyp x<x.base)else decide (x.base<hyp x)
def inL(n:Int):Bool:=decide (0≤n)&&decide (n≤1048576)
def Fx.of(xs:List ah)(gap inner:Int):Fx:=⟨xs,gap,inner,Au xs gap inner⟩
def flx(xs:List ah)(gap inner:Int):List Int:=
 if(dT xs&&inL gap&&inL inner)=true then((Fx.of xs gap inner).runI 13 (xs.map hyp) (xs.map (lJ (Au xs gap inner)))).getD []else xs.map hyp
def hgo(gr:Bool):Int→List Bool→List ah→List Bool
 |_,m,[]=>m
 |i,m,x::r=>hgo gr (i+1) (m.set i.toNat (lJ gr x)) r
theorem C3(gr:Bool):∀(xs:List ah)(dn tl:List Bool),tl.length=xs.length→hgo gr dn.length (dn++tl) xs=dn++xs.map (lJ gr)
 | [],dn,[],_=>by simp [hgo]
 | [],_,_::_,h=>by simp at h
 |_::_,_,[],h=>by simp at h
 |x::xs,dn,b::tl,h=>by
  have ih:=C3 gr xs (dn++[lJ gr x]) tl (by simpa using h)
  rw [hgo]
  have e1:(dn++b::tl).set ((dn.length:Int)).toNat (lJ gr x)=(dn++[lJ gr x])++tl:=by simp
  have e2:(dn.length:Int)+1=((dn++[lJ gr x]).length:Int):=by simp
  rw [e1,e2,ih]
  simp
theorem DX(gr:Bool)(xs:List ah):hgo gr 0 (List.replicate xs.length false) xs=xs.map (lJ gr):=by
 have:=C3 gr xs [] (List.replicate xs.length false) (by simp)
 simpa using this
theorem CD{α:Type}(c:α→Array Value)(n:Nat)(x:α):vw c (List.replicate n x)=List.replicate n (lc (c x)):=by simp [vw]
theorem tN{es:LLA}(h:aj es=true)(t k:Nat)(s:Nat→Nat):AB.mv s ⟨t,k,es⟩=⟨t,k,es⟩:=by
 refine congrArg (AB.mk t k) ?_
 refine(List.map_congr_left fun x hx=> ?_).trans (List.map_id es)
 refine(List.map_congr_left fun c hc=> ?_).trans (List.map_id x)
 have hp:=List.all_eq_true.1 (List.all_eq_true.1 h x hx) c hc
 cases c<;>first|rfl|cases hp
theorem B6{F:List AT→EH→Prop}{eh:EH}{V z r:LLA}{gap inner p:Int}{gr:Bool}{t1 t2:Nat}{D:List Int}{fr:List Bool}
  (hF:F=nR 0 (fun res h'=>∃rows,h'=rows.map .live∧∃(p:Int)(gr:Bool)(fr:List Bool),res= .t (.agg [.view V,.J gap,.J inner,.B gr,.own 0,.own 1,.J p])∧rows=[⟨t1,1,vw ao D⟩,⟨t2,1,vw kg fr⟩]))
  (h1:nth eh 1=some (.rw ⟨t1,1,z⟩)) (h2:nth eh 2=some (.rw ⟨t2,1,r⟩)) (hz:z=vw ao D) (hr:r=vw kg fr):F [.agg [.view V,.J gap,.J inner,.B gr,.own 1,.own 2,.J p]] eh:=by
 subst hF hz hr
 exact .inl ⟨.t (.agg [.view V,.J gap,.J inner,.B gr,.own 0,.own 1,.J p]),toH [.rw ⟨t1,1,vw ao D⟩,.rw ⟨t2,1,vw kg fr⟩],[some 1,some 2],
  wkG [some 1,some 2] ⟨.inr ⟨rfl,rfl,rfl,rfl,rfl,rfl,rfl,trivial⟩,trivial⟩ ⟨⟨_,_,fk h1,rfl,rfl,rfl,.inl ⟨rfl,ag _ _⟩⟩,⟨_,_,fk h2,rfl,rfl,rfl,.inl ⟨rfl,ag _ _⟩⟩,trivial⟩ (by decide) aI,_,rfl,p,gr,fr,rfl,rfl⟩
theorem vK(xs:List ah)(gap inner:Int)(hl:xs.length≤1048576):PC0 344 [.c (.view (vw ah.c xs)),ai gap,ai inner] (.t (abl (Au xs gap inner))):=by
 obtain⟨V,hV⟩:=nmE (vw ah.c xs)
 have hVl:V.length=xs.length:=by rw [hV,af]
 have iV:bR V=true:=by rw [hV];exact aG _ _
 have kV:∀y∈V,y.length=9:=by rw [hV];exact bC (c:=ah.c) (k:=9) fun _=>rfl
 have dV:∀y∈V,y.all dat=true:=by rw [hV];exact az
 have c1:=ig xs hl
 have c2:=eX xs (xs.map hyp) gap hl (by simpa using hl)
 obtain⟨H,hH⟩:=nmE (vw ao (xs.map hyp))
 have iH:bR H=true:=by rw [hH];exact aG _ _
 have kH:∀y∈H,y.length=1:=by rw [hH];exact bC (c:=ao) (k:=1) fun _=>rfl
 have dH:∀y∈H,y.all dat=true:=by rw [hH];exact az
 obtain⟨O,hO⟩:=nmE (wrap64 (ic xs (xs.map hyp) gap))
 rw [←hV,←hH]at c1 c2
 rw [←hO]at c2
 rw [←hV]
 refine ae (aK f344) aD func344 fun g F hg hF=> ?_
 cbv
 first|(refine bB hg c1 (bp rfl) iH ?_;cbv)|(refine bN hg c1 (bp rfl) iH ?_;cbv)
 first|(refine gR hg c2 (aq (ay rfl) (aq (bi (ab:=⟨_,_,H⟩) rfl kH dH) (aq (ay rfl) (aF)))) rfl ?_;cbv)|(refine eN hg c2 (aq (ay rfl) (aq (bi (ab:=⟨_,_,H⟩) rfl kH dH) (aq (ay rfl) (aF)))) rfl ?_;cbv)
 exact bj hF (by rw [bn hg,Au,hO])
theorem um(xs:List ah)(gap inner:Int)(hl:xs.length≤1048576):cY prog 312 [.c (.view (vw ah.c xs)),ai gap,ai inner] fun res rows=>∃(p:Int)(gr:Bool)(fr:List Bool),
  res= .t (.agg [.view (vw ah.c xs),.J gap,.J inner,.B gr,.own 0,.own 1,.J p])∧rows=[⟨3,1,vw ao (flx xs gap inner)⟩,⟨4,1,vw kg fr⟩]:=by
 have c1:=ig xs hl
 have c2:=iY xs hl
 have c3:=vK xs gap inner hl
 obtain⟨V,hV⟩:=nmE (vw ah.c xs)
 have hVl:V.length=xs.length:=by rw [hV,af]
 have iV:bR V=true:=by rw [hV];exact aG _ _
 have kV:∀y∈V,y.length=9:=by rw [hV];exact bC (c:=ah.c) (k:=9) fun _=>rfl
 have dV:∀y∈V,y.all dat=true:=by rw [hV];exact az
 obtain⟨Z,hZ⟩:=nmE (vw ao (xs.map hyp))
 have iZ:bR Z=true:=by rw [hZ];exact aG _ _
 have pZ:aj Z=true:=ej iZ
 obtain⟨D,hD⟩:=nmE (flx xs gap inner)
 obtain⟨IO,hIO⟩:=nmE (dT xs)
 obtain⟨G,hG⟩:=nmE (Au xs gap inner)
 rw [←hV]at c1 c2 c3
 rw [←hZ]at c1
 rw [←hIO]at c2
 rw [←hG]at c3
 rw [←hV,←hD]
 refine ae (aK f312) aD func312 fun g F hg hF=> ?_
 cbv
 first|(refine bB hg c1 (bp rfl) iZ ?_;cbv)|(refine bN hg c1 (bp rfl) iZ ?_;cbv)
 refine D0 hg (by decide) (by omega) ?_
 cbv
 generalize hM:g .rp (g .ln V) _=M0
 replace hM:M0=vw kg (List.replicate xs.length false):=by
  rw [←hM,yM hg,bD hg,hV,aN,CD]
  rfl
 have pM:aj M0=true:=by rw [hM];exact ag _ _
 have hh0:=DX G xs
 obtain⟨HL,hHL⟩:=nmE (xs.map (lJ G))
 rw [←hHL]at hh0
 repeat'(first|(refine br hg c2 rfl (fun R0 hR0=> ?_);cases R0<;>cbv)|(refine aZ hg c2 rfl (fun R0 hR0=> ?_);cases R0<;>cbv))
 ·exact B6 hF rfl rfl (by rw [hZ,hD,flx,if_neg (by rw [←hIO,←hR0];simp)]) hM
 (first|refine br hg (da _ _ _) rfl (fun I1 hI1=> ?_)|refine aZ hg (da _ _ _) rfl (fun I1 hI1=> ?_));cbv
 cases I1<;>cbv
 ·exact B6 hF rfl rfl (by rw [hZ,hD,flx,if_neg (by rw [inL,←hI1];simp)]) hM
 (first|refine br hg (da _ _ _) rfl (fun I2 hI2=> ?_)|refine aZ hg (da _ _ _) rfl (fun I2 hI2=> ?_));cbv
 cases I2<;>cbv
 ·exact B6 hF rfl rfl (by rw [hZ,hD,flx,if_neg (by rw [inL,inL,←hI1,←hI2];simp)]) hM
 have hok:(dT xs&&inL gap&&inL inner)=true:=by rw [inL,inL,←hI1,←hI2,←hIO,←hR0];rfl
 first|(refine br hg c3 rfl (fun R hR=> ?_);cbv)|(refine aZ hg c3 rfl (fun R hR=> ?_);cbv)
 obtain rfl:G=R:=hR.symm
 refine aY hg aD (by kernel_rfl) V (fun x=>lc (ah.c x)) xs hV hl (fun z(s:Int×List Bool×LLA)=>[(6,.p 0),(7,.p 3),(39,.v V),(40,.i (g .ln V)),(41,.i (z))]) (fun z(s:Int×List Bool×LLA)=>[.bx 282 7 [.N,.J 0,.J 0,.B false,.N,.N,.J 0],.rw ⟨3,1,Z⟩,.rw ⟨4,1,s.2.2⟩,.bx 282 7 [.view V,.J gap,.J inner,.B G,.own 1,.own 2,.J 0]]) (fun z(s:Int×List Bool×LLA)=>s.1=z∧s.2.2=vw kg s.2.1∧s.2.1.length=xs.length) (fun(s:Int×List Bool×LLA) rest=>hgo G s.1 s.2.1 rest) (HL) (0,_,M0) hh0 ⟨rfl,hM,by simp⟩ (Wk.weak (wkG [some 0,some 1,some 2,some 3] ⟨rfl,rfl,rfl,rfl,rfl,trivial⟩ ⟨⟨_,_,rfl,rfl,rfl,rfl,.inr ⟨⟨rfl,rfl,rfl,rfl,rfl,rfl,rfl,trivial⟩,trivial⟩⟩,wqE rfl pZ,wqE rfl pM,⟨_,_,rfl,rfl,rfl,rfl,.inr ⟨⟨rfl,rfl,rfl,rfl,rfl,rfl,rfl,trivial⟩,trivial⟩⟩,trivial⟩ (by decide) aI)) (fun z s B hz h0 hi he=> ?_) (fun z s x rest B z0 z1 z2 hx hy h0 hi hc e1 hB=> ?_)
 rotate_left
 ·obtain⟨i,w,eR⟩:=s
  obtain⟨k1,k2,k3⟩:=hi
  dsimp only at k1 k2 k3 h0
  subst k1
  have hVx:bg V=(xs.length:Int):=by rw [hV,aN]
  have hiR:i<bg eR:=by rw [k2,aN,k3,←hVx];exact z1
  have hiw:i.toNat<w.length:=by rw [k3];omega
  have sR:∀b b':Bool,b=b'→eR.set i.toNat [.B b]=vw kg (w.set i.toNat b'):=fun b b' h=>by rw [iq,k2,h];rfl
  rw [hgo]at h0
  obtain⟨y0,y1,y2,y3,y4,y5,y6,y7,y8⟩:=x
  obtain⟨HV,hHV⟩:=nmE (lJ G ⟨y0,y1,y2,y3,y4,y5,y6,y7,y8⟩)
  have hel:HV=if wgt G ⟨y0,y1,y2,y3,y4,y5,y6,y7,y8⟩=0 then true else if G then decide (hyp ⟨y0,y1,y2,y3,y4,y5,y6,y7,y8⟩<y0)else decide (y0<hyp ⟨y0,y1,y2,y3,y4,y5,y6,y7,y8⟩):=hHV
  rw [←hHV]at h0
  cbv;rw [hc];cbv;refine goX hg _ z0 hy rfl ?_;cbv
  (first|refine bq hg (iA ⟨y0,y1,y2,y3,y4,y5,y6,y7,y8⟩) rfl (fun HY hHY=> ?_)|refine aX hg (iA ⟨y0,y1,y2,y3,y4,y5,y6,y7,y8⟩) rfl (fun HY hHY=> ?_));cbv
  (first|refine bq hg (dB ⟨y0,y1,y2,y3,y4,y5,y6,y7,y8⟩ G) rfl (fun Q0 hQ0=> ?_)|refine aX hg (dB ⟨y0,y1,y2,y3,y4,y5,y6,y7,y8⟩ G) rfl (fun Q0 hQ0=> ?_));cbv
  rw [←hHY,←hQ0]at hel
  have t0:g .q .eql Q0 0=decide (Q0=0):=by rw [bv hg];rfl
  by_cases hq:Q0=0
  ·rw [t0,zqu hq]
   rw [if_pos hq]at hel
   cbv
   have s1:=sR (true) HV (hel.symm)
   refine goY hg z0 hiR fun j hj hjl=> ?_
   cbv
   refine goN hg ⟨_,by rw [hj,k2];exact bh (zqc hiw),rfl⟩ ?_
   cbv
   rw [e1]
   simp only [mH hg]
   subst hj
   exact hB ((i+1,w.set i.toNat HV,_)) _ _ ⟨h0,⟨rfl,s1,by simpa using k3⟩⟩ (Wk.weak (wkG [some 0,some 1,some 2,some 3] ⟨rfl,rfl,rfl,rfl,rfl,trivial⟩ ⟨⟨_,_,rfl,rfl,rfl,rfl,.inr ⟨⟨rfl,rfl,rfl,rfl,rfl,rfl,rfl,trivial⟩,trivial⟩⟩,wqE rfl pZ,⟨_,_,rfl,rfl,rfl,rfl,.inl ⟨rfl,s1.symm▸ag _ _⟩⟩,⟨_,_,rfl,rfl,rfl,rfl,.inr ⟨⟨rfl,rfl,rfl,rfl,rfl,rfl,rfl,trivial⟩,trivial⟩⟩,trivial⟩ (by decide) aI))
  ·rw [t0,zqt hq]
   rw [if_neg hq]at hel
   cases hGc:G
   ·rw [hGc]at hel
    cbv
    have s1:=sR (g .q .lss y0 HY) HV (by rw [bn hg];exact hel.symm)
    refine goY hg z0 hiR fun j hj hjl=> ?_
    cbv
    refine goN hg ⟨_,by rw [hj,k2];exact bh (zqc hiw),rfl⟩ ?_
    cbv
    rw [e1]
    simp only [mH hg]
    subst hj
    exact hB ((i+1,w.set i.toNat HV,_)) _ _ ⟨h0,⟨rfl,s1,by simpa using k3⟩⟩ (Wk.weak (wkG [some 0,some 1,some 2,some 3] ⟨rfl,rfl,rfl,rfl,rfl,trivial⟩ ⟨⟨_,_,rfl,rfl,rfl,rfl,.inr ⟨⟨rfl,rfl,rfl,rfl,rfl,rfl,rfl,trivial⟩,trivial⟩⟩,wqE rfl pZ,⟨_,_,rfl,rfl,rfl,rfl,.inl ⟨rfl,s1.symm▸ag _ _⟩⟩,⟨_,_,rfl,rfl,rfl,rfl,.inr ⟨⟨rfl,rfl,rfl,(by rw [hGc];exact rfl),rfl,rfl,rfl,trivial⟩,trivial⟩⟩,trivial⟩ (by decide) aI))
   ·rw [hGc]at hel
    cbv
    cases hqq:g .q .gtr y0 HY
    ·cbv
     have s1:=sR (false) HV (by rw [hel];rw [cj hg]at hqq;exact hqq.symm)
     refine goY hg z0 hiR fun j hj hjl=> ?_
     cbv
     refine goN hg ⟨_,by rw [hj,k2];exact bh (zqc hiw),rfl⟩ ?_
     cbv
     rw [e1]
     simp only [mH hg]
     subst hj
     exact hB ((i+1,w.set i.toNat HV,_)) _ _ ⟨h0,⟨rfl,s1,by simpa using k3⟩⟩ (Wk.weak (wkG [some 0,some 1,some 2,some 3] ⟨rfl,rfl,rfl,rfl,rfl,trivial⟩ ⟨⟨_,_,rfl,rfl,rfl,rfl,.inr ⟨⟨rfl,rfl,rfl,rfl,rfl,rfl,rfl,trivial⟩,trivial⟩⟩,wqE rfl pZ,⟨_,_,rfl,rfl,rfl,rfl,.inl ⟨rfl,s1.symm▸ag _ _⟩⟩,⟨_,_,rfl,rfl,rfl,rfl,.inr ⟨⟨rfl,rfl,rfl,(by rw [hGc];exact rfl),rfl,rfl,rfl,trivial⟩,trivial⟩⟩,trivial⟩ (by decide) aI))
    ·cbv
     have s1:=sR (true) HV (by rw [hel];rw [cj hg]at hqq;exact hqq.symm)
     refine goY hg z0 hiR fun j hj hjl=> ?_
     cbv
     refine goN hg ⟨_,by rw [hj,k2];exact bh (zqc hiw),rfl⟩ ?_
     cbv
     rw [e1]
     simp only [mH hg]
     subst hj
     exact hB ((i+1,w.set i.toNat HV,_)) _ _ ⟨h0,⟨rfl,s1,by simpa using k3⟩⟩ (Wk.weak (wkG [some 0,some 1,some 2,some 3] ⟨rfl,rfl,rfl,rfl,rfl,trivial⟩ ⟨⟨_,_,rfl,rfl,rfl,rfl,.inr ⟨⟨rfl,rfl,rfl,rfl,rfl,rfl,rfl,trivial⟩,trivial⟩⟩,wqE rfl pZ,⟨_,_,rfl,rfl,rfl,rfl,.inl ⟨rfl,s1.symm▸ag _ _⟩⟩,⟨_,_,rfl,rfl,rfl,rfl,.inr ⟨⟨rfl,rfl,rfl,(by rw [hGc];exact rfl),rfl,rfl,rfl,trivial⟩,trivial⟩⟩,trivial⟩ (by decide) aI))
 ·obtain⟨i,w,eR⟩:=s
  obtain⟨k1,k2,k3⟩:=hi
  dsimp only at k1 k2 k3 h0
  rw [hgo]at h0
  obtain rfl:HL=w:=h0.symm
  have pR:aj eR=true:=by rw [k2];exact ag _ _
  obtain⟨X,hX⟩:=nmE (Fx.of xs gap inner)
  have hXo:dT X.xs=true:=by
   rw [hX]
   simp only [zqs]at hok
   exact hok.1.1
  have hx12:=(eG hXo).2
  have hXx:X.xs=xs:=by rw [hX];rfl
  obtain⟨r,hr1,hr2⟩:=Fx.run_some hXo 13 (xs.map hyp) HL (by rw [hXx];exact k3) (by have:=jE HL 0;rw [hXx]at hx12;omega)
  have hDr:D=r:=by rw [hD,flx,if_pos hok,←hG,←hHL,←hX,hr1];rfl
  cbv;rw [he];cbv
  refine z7 hg aD (by kernel_rfl) (fun s:(List Int×List Bool×Int)×LLA×LLA=>[(6,.p 0),(7,.p 3)]) (fun s=>[.bx 282 7 [.N,.J 0,.J 0,.B false,.N,.N,.J 0],.rw ⟨3,1,s.2.1⟩,.rw ⟨4,1,s.2.2⟩,.bx 282 7 [.view V,.J gap,.J inner,.B G,.own 1,.own 2,.J s.1.2.2]])
   (fun s=>s.2.1=vw ao s.1.1∧s.2.2=vw kg s.1.2.1∧s.1.1.length=xs.length∧s.1.2.1.length=xs.length) (fun k s=>X.runI k s.1.1 s.1.2.1) r 13 ((xs.map hyp,HL,0),Z,eR) hr1 ⟨hZ,k2,by simp,k3⟩ (Wk.weak (wkG [some 0,some 1,some 2,some 3] ⟨rfl,rfl,trivial⟩ ⟨⟨_,_,rfl,rfl,rfl,rfl,.inr ⟨⟨rfl,rfl,rfl,rfl,rfl,rfl,rfl,trivial⟩,trivial⟩⟩,wqE rfl pZ,wqE rfl pR,⟨_,_,rfl,rfl,rfl,rfl,.inr ⟨⟨rfl,rfl,rfl,rfl,rfl,rfl,rfl,trivial⟩,trivial⟩⟩,trivial⟩ (by decide) aI)) (fun s k B h0 hi hB=> ?_)
  obtain⟨⟨sz,fr,p⟩,eZ,eR⟩:=s
  obtain⟨k1,k2,k3,k4⟩:=hi
  dsimp only at k1 k2 k3 k4 h0
  cases k with
  |zero=>cases h0
  |succ k=>
   rw [Fx.runI]at h0
   have cp:=lV X hXo sz fr (by rw [hXx];exact k3) (by rw [hXx];exact k4) p
   have qZ:aj eZ=true:=by rw [k1];exact ag _ _
   have qR:aj eR=true:=by rw [k2];exact ag _ _
   have hXg:X.gap=gap:=by rw [hX];rfl
   have hXi:X.inner=inner:=by rw [hX];rfl
   have hXr:X.gr=G:=by rw [hX,hG];rfl
   simp only [Fx.bx,hXx,hXg,hXi,hXr,←hV,←k1,←k2]at cp
   cbv
   refine Cm hg [3,1,2] cp (by decide) (fun r hr=>by simp only [List.mem_cons,List.not_mem_nil,or_false]at hr;simp only [zqx,List.length_nil];omega) ⟨⟨_,_,rfl,rfl,rfl,rfl,.inr ⟨⟨rfl,rfl,rfl,rfl,rfl,rfl,rfl,trivial⟩,trivial⟩⟩,⟨_,_,rfl,rfl,rfl,rfl,.inl ⟨rfl,qZ⟩⟩,⟨_,_,rfl,rfl,rfl,rfl,.inl ⟨rfl,qR⟩⟩,trivial⟩ ⟨rfl,trivial⟩ fun res eh hq=> ?_
   obtain⟨p',sz',fr',rfl,rfl,h1,h2⟩:=hq
   obtain⟨Z',hZ'⟩:=nmE (vw ao sz')
   obtain⟨R',hR'⟩:=nmE (vw kg fr')
   have pZ':aj Z'=true:=by rw [hZ'];exact ag _ _
   have pR':aj R'=true:=by rw [hR'];exact ag _ _
   rw [←hZ',←hR']
   simp only [dg,EE.mv,tN pZ',tN pR']
   by_cases hn:fre 0 fr=[]
   ·rw [if_pos hn]at h0 h1 h2
    rw [show decide (fre 0 fr≠[])=false by simp [hn]]
    cbv
    subst h1 h2
    exact B6 hF rfl rfl (by rw [hZ',hDr];cases h0;rfl) hR'
   ·rw [if_neg hn]at h0 h1 h2
    rw [show decide (fre 0 fr≠[])=true by simp [hn]]
    cbv
    refine hB k ((sz',fr',p'),Z',R') _ _ (Nat.lt_succ_self k) (by rw [h1,h2];exact h0) ⟨hZ',hR',by rw [h1,m7];exact k3,by rw [h2,m8];exact k4⟩ (Wk.weak (wkG [some 0,some 1,some 2,some 3] ⟨rfl,rfl,trivial⟩ ⟨⟨_,_,rfl,rfl,rfl,rfl,.inr ⟨⟨rfl,rfl,rfl,rfl,rfl,rfl,rfl,trivial⟩,trivial⟩⟩,⟨_,_,rfl,rfl,rfl,rfl,.inl ⟨rfl,pZ'⟩⟩,⟨_,_,rfl,rfl,rfl,rfl,.inl ⟨rfl,pR'⟩⟩,⟨_,_,rfl,rfl,rfl,rfl,.inr ⟨⟨rfl,rfl,rfl,rfl,rfl,rfl,rfl,trivial⟩,trivial⟩⟩,trivial⟩ (by decide) aI))
theorem qI(xs:List ah)(gap inner:Int)(hl:xs.length≤1048576):cY prog 256 [.c (.view (vw ah.c xs)),ai gap,ai inner] fun res rows=>res= .o 0∧rows=[⟨3,1,vw ao (flx xs gap inner)⟩]:=by
 have cf:=um xs gap inner hl
 obtain⟨V,hV⟩:=nmE (vw ah.c xs)
 obtain⟨D,hD⟩:=nmE (vw ao (flx xs gap inner))
 have pD:aj D=true:=by rw [hD];exact ag _ _
 rw [←hV,←hD]at cf
 rw [←hV,←hD]
 refine ae (aK f256) aD func256 fun g F hg hF=> ?_
 cbv
 refine sa hg (fj cf rfl fun res rows hq=> ?_)
 obtain⟨p,gr,fr,rfl,rfl⟩:=hq
 obtain⟨R,hR⟩:=nmE (vw kg fr)
 have pR:aj R=true:=by rw [hR];exact ag _ _
 rw [←hR]
 refine⟨[.rw ⟨3,1,D⟩,.rw ⟨4,1,R⟩],by simp only [zqA,List.map_nil,fA (ab:=⟨3,1,D⟩) pD,fA (ab:=⟨4,1,R⟩) pR];rfl,?_⟩
 cbv
 exact bP hF rfl pD
theorem D4(xs:List ah)(gap inner:Int):(flx xs gap inner).length=xs.length:=by
 unfold flx
 split
 ·rename_i h
  simp only [zqs]at h
  have hX:dT (Fx.of xs gap inner).xs=true:=h.1.1
  have hx12:=(eG hX).2
  obtain⟨r,hr1,hr2⟩:=Fx.run_some hX 13 (xs.map hyp) (xs.map (lJ (Au xs gap inner))) (by simp;rfl) (by have:=jE (xs.map (lJ (Au xs gap inner))) 0;rw [zql]at this;have e:(Fx.of xs gap inner).xs.length=xs.length:=rfl;omega)
  rw [hr1]
  simpa using hr2
 ·simp
end Go.Proofs.YtdnnffbbhijmkaaGreat
