/- The program's flexed lines, as maps of data. -/
import Derived.Test.YtdnnffbbhijmkaaGreatRbe
set_option linter.unusedVariables false
set_option linter.unusedSimpArgs false
set_option maxHeartbeats 3200000
namespace Go.Proofs.YtdnnffbbhijmkaaGreat
open Go.ChangeShapes Go.WideShapes Go.ChangeAt Go.RowKit Am Go.Proofs.Tryz
set_option maxRecDepth 100000
def mg(gr:Bool)(x:aj):Bool:=if wgt gr x=0 then true else if gr then decide (hyp x<x.base)else decide (x.base<hyp x)
def inL(n:Int):Bool:=decide (0≤n)&&decide (n≤1048576)
def Fx.of(xs:List aj)(gap inner:Int):Fx:=⟨xs,gap,inner,zT xs gap inner⟩
def flx(xs:List aj)(gap inner:Int):List Int:=
 if(dX xs&&inL gap&&inL inner)=true then((Fx.of xs gap inner).runI 13 (xs.map hyp) (xs.map (mg (zT xs gap inner)))).getD []else xs.map hyp
def hgo(gr:Bool):Int→List Bool→List aj→List Bool
 |_,m,[]=>m
 |i,m,x::r=>hgo gr (i+1) (m.set i.toNat (mg gr x)) r
theorem Cv(gr:Bool):∀(xs:List aj)(dn tl:List Bool),tl.length=xs.length→hgo gr dn.length (dn++tl) xs=dn++xs.map (mg gr)
 | [],dn,[],_=>by simp [hgo]
 | [],_,_::_,h=>by simp at h
 |_::_,_,[],h=>by simp at h
 |x::xs,dn,b::tl,h=>by
  have ih:=Cv gr xs (dn++[mg gr x]) tl (by simpa using h)
  rw [hgo]
  have e1:(dn++b::tl).set ((dn.length:Int)).toNat (mg gr x)=(dn++[mg gr x])++tl:=by simp
  have e2:(dn.length:Int)+1=((dn++[mg gr x]).length:Int):=by simp
  rw [e1,e2,ih]
  simp
theorem Dm(gr:Bool)(xs:List aj):hgo gr 0 (List.replicate xs.length false) xs=xs.map (mg gr):=by
 have:=Cv gr xs [] (List.replicate xs.length false) (by simp)
 simpa using this
theorem B6{α:Type}(c:α→Array Value)(n:Nat)(x:α):vw c (List.replicate n x)=List.replicate n (lc (c x)):=by simp [vw]
theorem s4{es:List (List AC)}(h:ah es=true)(t k:Nat)(s:Nat→Nat):AB.mv s ⟨t,k,es⟩=⟨t,k,es⟩:=by
 refine congrArg (AB.mk t k) ?_
 refine(List.map_congr_left fun x hx=> ?_).trans (List.map_id es)
 refine(List.map_congr_left fun c hc=> ?_).trans (List.map_id x)
 have hp:=List.all_eq_true.1 (List.all_eq_true.1 h x hx) c hc
 cases c<;>first|rfl|cases hp
theorem Br{F:List AT→EH→Prop}{eh:EH}{V z r:List (List AC)}{gap inner p:Int}{gr:Bool}{t1 t2:Nat}{D:List Int}{fr:List Bool}
  (hF:F=ny 0 (fun res h'=>∃rows,h'=rows.map .live∧∃(p:Int)(gr:Bool)(fr:List Bool),res= .t (.agg [.view V,.J gap,.J inner,.B gr,.own 0,.own 1,.J p])∧rows=[⟨t1,1,vw ao D⟩,⟨t2,1,vw j7 fr⟩]))
  (h1:nth eh 1=some (.rw ⟨t1,1,z⟩)) (h2:nth eh 2=some (.rw ⟨t2,1,r⟩)) (hz:z=vw ao D) (hr:r=vw j7 fr):F [.agg [.view V,.J gap,.J inner,.B gr,.own 1,.own 2,.J p]] eh:=by
 subst hF hz hr
 exact .inl ⟨.t (.agg [.view V,.J gap,.J inner,.B gr,.own 0,.own 1,.J p]),toH [.rw ⟨t1,1,vw ao D⟩,.rw ⟨t2,1,vw j7 fr⟩],[some 1,some 2],
  wkG [some 1,some 2] ⟨.inr ⟨rfl,rfl,rfl,rfl,rfl,rfl,rfl,trivial⟩,trivial⟩ ⟨⟨_,_,fB h1,rfl,rfl,rfl,.inl ⟨rfl,ag _ _⟩⟩,⟨_,_,fB h2,rfl,rfl,rfl,.inl ⟨rfl,ag _ _⟩⟩,trivial⟩ (by decide) aG,_,rfl,p,gr,fr,rfl,rfl⟩
theorem vb(xs:List aj)(gap inner:Int)(hl:xs.length≤1048576):PC0 344 [.c (.view (vw aj.c xs)),ai gap,ai inner] (.t (abl (zT xs gap inner))):=by
 obtain⟨V,hV⟩:=nmE (vw aj.c xs)
 have hVl:V.length=xs.length:=by rw [hV,af]
 have iV:bQ V=true:=by rw [hV];exact aI _ _
 have kV:∀y∈V,y.length=9:=by rw [hV];exact bL (c:=aj.c) (k:=9) fun _=>rfl
 have dV:∀y∈V,y.all dat=true:=by rw [hV];exact az
 have c1:=gV xs hl
 have c2:=eV xs (xs.map hyp) gap hl (by simpa using hl)
 obtain⟨H,hH⟩:=nmE (vw ao (xs.map hyp))
 have iH:bQ H=true:=by rw [hH];exact aI _ _
 have kH:∀y∈H,y.length=1:=by rw [hH];exact bL (c:=ao) (k:=1) fun _=>rfl
 have dH:∀y∈H,y.all dat=true:=by rw [hH];exact az
 obtain⟨O,hO⟩:=nmE (wrap64 (gU xs (xs.map hyp) gap))
 rw [←hV,←hH]at c1 c2
 rw [←hO]at c2
 rw [←hV]
 refine ae (aN f344) aB func344 fun g F hg hF=> ?_
 cbv
 first|(refine bM hg c1 (bE rfl) iH ?_;cbv)|(refine bX hg c1 (bE rfl) iH ?_;cbv)
 first|(refine gI hg c2 (ar (aw rfl) (ar (bi (ab:=⟨_,_,H⟩) rfl kH dH) (ar (aw rfl) (aC)))) rfl ?_;cbv)|(refine eJ hg c2 (ar (aw rfl) (ar (bi (ab:=⟨_,_,H⟩) rfl kH dH) (ar (aw rfl) (aC)))) rfl ?_;cbv)
 exact bn hF (by rw [bk hg,zT,hO])
theorem tG(xs:List aj)(gap inner:Int)(hl:xs.length≤1048576):dg prog 312 [.c (.view (vw aj.c xs)),ai gap,ai inner] fun res rows=>∃(p:Int)(gr:Bool)(fr:List Bool),
  res= .t (.agg [.view (vw aj.c xs),.J gap,.J inner,.B gr,.own 0,.own 1,.J p])∧rows=[⟨3,1,vw ao (flx xs gap inner)⟩,⟨4,1,vw j7 fr⟩]:=by
 have c1:=gV xs hl
 have c2:=iI xs hl
 have c3:=vb xs gap inner hl
 obtain⟨V,hV⟩:=nmE (vw aj.c xs)
 have hVl:V.length=xs.length:=by rw [hV,af]
 have iV:bQ V=true:=by rw [hV];exact aI _ _
 have kV:∀y∈V,y.length=9:=by rw [hV];exact bL (c:=aj.c) (k:=9) fun _=>rfl
 have dV:∀y∈V,y.all dat=true:=by rw [hV];exact az
 obtain⟨Z,hZ⟩:=nmE (vw ao (xs.map hyp))
 have iZ:bQ Z=true:=by rw [hZ];exact aI _ _
 have pZ:ah Z=true:=i9 iZ
 obtain⟨D,hD⟩:=nmE (flx xs gap inner)
 obtain⟨IO,hIO⟩:=nmE (dX xs)
 obtain⟨G,hG⟩:=nmE (zT xs gap inner)
 rw [←hV]at c1 c2 c3
 rw [←hZ]at c1
 rw [←hIO]at c2
 rw [←hG]at c3
 rw [←hV,←hD]
 refine ae (aN f312) aB func312 fun g F hg hF=> ?_
 cbv
 first|(refine bM hg c1 (bE rfl) iZ ?_;cbv)|(refine bX hg c1 (bE rfl) iZ ?_;cbv)
 refine Dr hg (by decide) (by omega) ?_
 cbv
 generalize hM:g .rp (g .ln V) _=M0
 replace hM:M0=vw j7 (List.replicate xs.length false):=by
  rw [←hM,yn hg,bK hg,hV,aM,B6]
  rfl
 have pM:ah M0=true:=by rw [hM];exact ag _ _
 have hh0:=Dm G xs
 obtain⟨HL,hHL⟩:=nmE (xs.map (mg G))
 rw [←hHL]at hh0
 repeat'(first|(refine br hg c2 rfl (fun R0 hR0=> ?_);cases R0<;>cbv)|(refine aZ hg c2 rfl (fun R0 hR0=> ?_);cases R0<;>cbv))
 ·exact Br hF rfl rfl (by rw [hZ,hD,flx,if_neg (by rw [←hIO,←hR0];simp)]) hM
 (first|refine br hg (da _ _ _) rfl (fun I1 hI1=> ?_)|refine aZ hg (da _ _ _) rfl (fun I1 hI1=> ?_));cbv
 cases I1<;>cbv
 ·exact Br hF rfl rfl (by rw [hZ,hD,flx,if_neg (by rw [inL,←hI1];simp)]) hM
 (first|refine br hg (da _ _ _) rfl (fun I2 hI2=> ?_)|refine aZ hg (da _ _ _) rfl (fun I2 hI2=> ?_));cbv
 cases I2<;>cbv
 ·exact Br hF rfl rfl (by rw [hZ,hD,flx,if_neg (by rw [inL,inL,←hI1,←hI2];simp)]) hM
 have hok:(dX xs&&inL gap&&inL inner)=true:=by rw [inL,inL,←hI1,←hI2,←hIO,←hR0];rfl
 first|(refine br hg c3 rfl (fun R hR=> ?_);cbv)|(refine aZ hg c3 rfl (fun R hR=> ?_);cbv)
 obtain rfl:G=R:=hR.symm
 refine ba hg aB (by kernel_rfl) V (fun x=>lc (aj.c x)) xs hV hl (fun z(s:Int×List Bool×List (List AC))=>[(6,.p 0),(7,.p 3),(39,.v V),(40,.t (ai (g .ln V))),(41,.t (ai (z)))]) (fun z(s:Int×List Bool×List (List AC))=>[.bx 282 7 [.imm (.slice none 0 0),.J 0,.J 0,.B false,.imm (.slice none 0 0),.imm (.slice none 0 0),.J 0],.rw ⟨3,1,Z⟩,.rw ⟨4,1,s.2.2⟩,.bx 282 7 [.view V,.J gap,.J inner,.B G,.own 1,.own 2,.J 0]]) (fun z(s:Int×List Bool×List (List AC))=>s.1=z∧s.2.2=vw j7 s.2.1∧s.2.1.length=xs.length) (fun(s:Int×List Bool×List (List AC)) rest=>hgo G s.1 s.2.1 rest) (HL) (0,_,M0) hh0 ⟨rfl,hM,by simp⟩ (Wk.weak (wkG [some 0,some 1,some 2,some 3] ⟨rfl,rfl,rfl,rfl,rfl,trivial⟩ ⟨⟨_,_,rfl,rfl,rfl,rfl,.inr ⟨⟨rfl,rfl,rfl,rfl,rfl,rfl,rfl,trivial⟩,trivial⟩⟩,wqE rfl pZ,wqE rfl pM,⟨_,_,rfl,rfl,rfl,rfl,.inr ⟨⟨rfl,rfl,rfl,rfl,rfl,rfl,rfl,trivial⟩,trivial⟩⟩,trivial⟩ (by decide) aG)) (fun z s B hz h0 hi he=> ?_) (fun z s x rest B z0 z1 z2 hx hy h0 hi hc e1 hB=> ?_)
 rotate_left
 ·obtain⟨i,w,eR⟩:=s
  obtain⟨k1,k2,k3⟩:=hi
  dsimp only at k1 k2 k3 h0
  subst k1
  have hVx:bg V=(xs.length:Int):=by rw [hV,aM]
  have hiR:i<bg eR:=by rw [k2,aM,k3,←hVx];exact z1
  have hiw:i.toNat<w.length:=by rw [k3];omega
  have sR:∀b b':Bool,b=b'→eR.set i.toNat [.B b]=vw j7 (w.set i.toNat b'):=fun b b' h=>by rw [ic,k2,h];rfl
  rw [hgo]at h0
  obtain⟨y0,y1,y2,y3,y4,y5,y6,y7,y8⟩:=x
  obtain⟨HV,hHV⟩:=nmE (mg G ⟨y0,y1,y2,y3,y4,y5,y6,y7,y8⟩)
  have hel:HV=if wgt G ⟨y0,y1,y2,y3,y4,y5,y6,y7,y8⟩=0 then true else if G then decide (hyp ⟨y0,y1,y2,y3,y4,y5,y6,y7,y8⟩<y0)else decide (y0<hyp ⟨y0,y1,y2,y3,y4,y5,y6,y7,y8⟩):=hHV
  rw [←hHV]at h0
  cbv;rw [hc];cbv;refine goX hg _ z0 hy rfl ?_;cbv
  (first|refine bm hg (io ⟨y0,y1,y2,y3,y4,y5,y6,y7,y8⟩) rfl (fun HY hHY=> ?_)|refine aU hg (io ⟨y0,y1,y2,y3,y4,y5,y6,y7,y8⟩) rfl (fun HY hHY=> ?_));cbv
  (first|refine bm hg (dy ⟨y0,y1,y2,y3,y4,y5,y6,y7,y8⟩ G) rfl (fun Q0 hQ0=> ?_)|refine aU hg (dy ⟨y0,y1,y2,y3,y4,y5,y6,y7,y8⟩ G) rfl (fun Q0 hQ0=> ?_));cbv
  rw [←hHY,←hQ0]at hel
  have t0:g .q .eql Q0 0=decide (Q0=0):=by rw [bv hg];rfl
  by_cases hq:Q0=0
  ·rw [t0,zqu hq]
   rw [if_pos hq]at hel
   cbv
   have s1:=sR (true) HV (hel.symm)
   refine goY hg z0 hiR fun j hj hjl=> ?_
   cbv
   refine goN hg ⟨_,by rw [hj,k2];exact bh (zqc hiw),rfl⟩ ?_
   cbv
   rw [e1]
   simp only [mh hg]
   subst hj
   exact hB ((i+1,w.set i.toNat HV,_)) _ _ ⟨h0,⟨rfl,s1,by simpa using k3⟩⟩ (Wk.weak (wkG [some 0,some 1,some 2,some 3] ⟨rfl,rfl,rfl,rfl,rfl,trivial⟩ ⟨⟨_,_,rfl,rfl,rfl,rfl,.inr ⟨⟨rfl,rfl,rfl,rfl,rfl,rfl,rfl,trivial⟩,trivial⟩⟩,wqE rfl pZ,⟨_,_,rfl,rfl,rfl,rfl,.inl ⟨rfl,s1.symm▸ag _ _⟩⟩,⟨_,_,rfl,rfl,rfl,rfl,.inr ⟨⟨rfl,rfl,rfl,rfl,rfl,rfl,rfl,trivial⟩,trivial⟩⟩,trivial⟩ (by decide) aG))
  ·rw [t0,zqt hq]
   rw [if_neg hq]at hel
   cases hGc:G
   ·rw [hGc]at hel
    cbv
    have s1:=sR (g .q .lss y0 HY) HV (by rw [bk hg];exact hel.symm)
    refine goY hg z0 hiR fun j hj hjl=> ?_
    cbv
    refine goN hg ⟨_,by rw [hj,k2];exact bh (zqc hiw),rfl⟩ ?_
    cbv
    rw [e1]
    simp only [mh hg]
    subst hj
    exact hB ((i+1,w.set i.toNat HV,_)) _ _ ⟨h0,⟨rfl,s1,by simpa using k3⟩⟩ (Wk.weak (wkG [some 0,some 1,some 2,some 3] ⟨rfl,rfl,rfl,rfl,rfl,trivial⟩ ⟨⟨_,_,rfl,rfl,rfl,rfl,.inr ⟨⟨rfl,rfl,rfl,rfl,rfl,rfl,rfl,trivial⟩,trivial⟩⟩,wqE rfl pZ,⟨_,_,rfl,rfl,rfl,rfl,.inl ⟨rfl,s1.symm▸ag _ _⟩⟩,⟨_,_,rfl,rfl,rfl,rfl,.inr ⟨⟨rfl,rfl,rfl,(by rw [hGc];exact rfl),rfl,rfl,rfl,trivial⟩,trivial⟩⟩,trivial⟩ (by decide) aG))
   ·rw [hGc]at hel
    cbv
    cases hqq:g .q .gtr y0 HY
    ·cbv
     have s1:=sR (false) HV (by rw [hel];rw [cu hg]at hqq;exact hqq.symm)
     refine goY hg z0 hiR fun j hj hjl=> ?_
     cbv
     refine goN hg ⟨_,by rw [hj,k2];exact bh (zqc hiw),rfl⟩ ?_
     cbv
     rw [e1]
     simp only [mh hg]
     subst hj
     exact hB ((i+1,w.set i.toNat HV,_)) _ _ ⟨h0,⟨rfl,s1,by simpa using k3⟩⟩ (Wk.weak (wkG [some 0,some 1,some 2,some 3] ⟨rfl,rfl,rfl,rfl,rfl,trivial⟩ ⟨⟨_,_,rfl,rfl,rfl,rfl,.inr ⟨⟨rfl,rfl,rfl,rfl,rfl,rfl,rfl,trivial⟩,trivial⟩⟩,wqE rfl pZ,⟨_,_,rfl,rfl,rfl,rfl,.inl ⟨rfl,s1.symm▸ag _ _⟩⟩,⟨_,_,rfl,rfl,rfl,rfl,.inr ⟨⟨rfl,rfl,rfl,(by rw [hGc];exact rfl),rfl,rfl,rfl,trivial⟩,trivial⟩⟩,trivial⟩ (by decide) aG))
    ·cbv
     have s1:=sR (true) HV (by rw [hel];rw [cu hg]at hqq;exact hqq.symm)
     refine goY hg z0 hiR fun j hj hjl=> ?_
     cbv
     refine goN hg ⟨_,by rw [hj,k2];exact bh (zqc hiw),rfl⟩ ?_
     cbv
     rw [e1]
     simp only [mh hg]
     subst hj
     exact hB ((i+1,w.set i.toNat HV,_)) _ _ ⟨h0,⟨rfl,s1,by simpa using k3⟩⟩ (Wk.weak (wkG [some 0,some 1,some 2,some 3] ⟨rfl,rfl,rfl,rfl,rfl,trivial⟩ ⟨⟨_,_,rfl,rfl,rfl,rfl,.inr ⟨⟨rfl,rfl,rfl,rfl,rfl,rfl,rfl,trivial⟩,trivial⟩⟩,wqE rfl pZ,⟨_,_,rfl,rfl,rfl,rfl,.inl ⟨rfl,s1.symm▸ag _ _⟩⟩,⟨_,_,rfl,rfl,rfl,rfl,.inr ⟨⟨rfl,rfl,rfl,(by rw [hGc];exact rfl),rfl,rfl,rfl,trivial⟩,trivial⟩⟩,trivial⟩ (by decide) aG))
 ·obtain⟨i,w,eR⟩:=s
  obtain⟨k1,k2,k3⟩:=hi
  dsimp only at k1 k2 k3 h0
  rw [hgo]at h0
  obtain rfl:HL=w:=h0.symm
  have pR:ah eR=true:=by rw [k2];exact ag _ _
  obtain⟨X,hX⟩:=nmE (Fx.of xs gap inner)
  have hXo:dX X.xs=true:=by
   rw [hX]
   simp only [zqs]at hok
   exact hok.1.1
  have hx12:=(eG hXo).2
  have hXx:X.xs=xs:=by rw [hX];rfl
  obtain⟨r,hr1,hr2⟩:=Fx.run_some hXo 13 (xs.map hyp) HL (by rw [hXx];exact k3) (by have:=jv HL 0;rw [hXx]at hx12;omega)
  have hDr:D=r:=by rw [hD,flx,if_pos hok,←hG,←hHL,←hX,hr1];rfl
  cbv;rw [he];cbv
  refine zC hg aB (by kernel_rfl) (fun s:(List Int×List Bool×Int)×List (List AC)×List (List AC)=>[(6,.p 0),(7,.p 3)]) (fun s=>[.bx 282 7 [.imm (.slice none 0 0),.J 0,.J 0,.B false,.imm (.slice none 0 0),.imm (.slice none 0 0),.J 0],.rw ⟨3,1,s.2.1⟩,.rw ⟨4,1,s.2.2⟩,.bx 282 7 [.view V,.J gap,.J inner,.B G,.own 1,.own 2,.J s.1.2.2]])
   (fun s=>s.2.1=vw ao s.1.1∧s.2.2=vw j7 s.1.2.1∧s.1.1.length=xs.length∧s.1.2.1.length=xs.length) (fun k s=>X.runI k s.1.1 s.1.2.1) r 13 ((xs.map hyp,HL,0),Z,eR) hr1 ⟨hZ,k2,by simp,k3⟩ (Wk.weak (wkG [some 0,some 1,some 2,some 3] ⟨rfl,rfl,trivial⟩ ⟨⟨_,_,rfl,rfl,rfl,rfl,.inr ⟨⟨rfl,rfl,rfl,rfl,rfl,rfl,rfl,trivial⟩,trivial⟩⟩,wqE rfl pZ,wqE rfl pR,⟨_,_,rfl,rfl,rfl,rfl,.inr ⟨⟨rfl,rfl,rfl,rfl,rfl,rfl,rfl,trivial⟩,trivial⟩⟩,trivial⟩ (by decide) aG)) (fun s k B h0 hi hB=> ?_)
  obtain⟨⟨sz,fr,p⟩,eZ,eR⟩:=s
  obtain⟨k1,k2,k3,k4⟩:=hi
  dsimp only at k1 k2 k3 k4 h0
  cases k with
  |zero=>cases h0
  |succ k=>
   rw [Fx.runI]at h0
   have cp:=lA X hXo sz fr (by rw [hXx];exact k3) (by rw [hXx];exact k4) p
   have qZ:ah eZ=true:=by rw [k1];exact ag _ _
   have qR:ah eR=true:=by rw [k2];exact ag _ _
   have hXg:X.gap=gap:=by rw [hX];rfl
   have hXi:X.inner=inner:=by rw [hX];rfl
   have hXr:X.gr=G:=by rw [hX,hG];rfl
   simp only [Fx.bx,hXx,hXg,hXi,hXr,←hV,←k1,←k2]at cp
   cbv
   refine BK hg [3,1,2] cp (by decide) (fun r hr=>by simp only [List.mem_cons,List.not_mem_nil,or_false]at hr;simp only [zqx,List.length_nil];omega) ⟨⟨_,_,rfl,rfl,rfl,rfl,.inr ⟨⟨rfl,rfl,rfl,rfl,rfl,rfl,rfl,trivial⟩,trivial⟩⟩,⟨_,_,rfl,rfl,rfl,rfl,.inl ⟨rfl,qZ⟩⟩,⟨_,_,rfl,rfl,rfl,rfl,.inl ⟨rfl,qR⟩⟩,trivial⟩ ⟨rfl,trivial⟩ fun res eh hq=> ?_
   obtain⟨p',sz',fr',rfl,rfl,h1,h2⟩:=hq
   obtain⟨Z',hZ'⟩:=nmE (vw ao sz')
   obtain⟨R',hR'⟩:=nmE (vw j7 fr')
   have pZ':ah Z'=true:=by rw [hZ'];exact ag _ _
   have pR':ah R'=true:=by rw [hR'];exact ag _ _
   rw [←hZ',←hR']
   simp only [di,EE.mv,s4 pZ',s4 pR']
   by_cases hn:fre 0 fr=[]
   ·rw [if_pos hn]at h0 h1 h2
    rw [show decide (fre 0 fr≠[])=false by simp [hn]]
    cbv
    subst h1 h2
    exact Br hF rfl rfl (by rw [hZ',hDr];cases h0;rfl) hR'
   ·rw [if_neg hn]at h0 h1 h2
    rw [show decide (fre 0 fr≠[])=true by simp [hn]]
    cbv
    refine hB k ((sz',fr',p'),Z',R') _ _ (Nat.lt_succ_self k) (by rw [h1,h2];exact h0) ⟨hZ',hR',by rw [h1,mH];exact k3,by rw [h2,mI];exact k4⟩ (Wk.weak (wkG [some 0,some 1,some 2,some 3] ⟨rfl,rfl,trivial⟩ ⟨⟨_,_,rfl,rfl,rfl,rfl,.inr ⟨⟨rfl,rfl,rfl,rfl,rfl,rfl,rfl,trivial⟩,trivial⟩⟩,⟨_,_,rfl,rfl,rfl,rfl,.inl ⟨rfl,pZ'⟩⟩,⟨_,_,rfl,rfl,rfl,rfl,.inl ⟨rfl,pR'⟩⟩,⟨_,_,rfl,rfl,rfl,rfl,.inr ⟨⟨rfl,rfl,rfl,rfl,rfl,rfl,rfl,trivial⟩,trivial⟩⟩,trivial⟩ (by decide) aG))
theorem qm(xs:List aj)(gap inner:Int)(hl:xs.length≤1048576):dg prog 256 [.c (.view (vw aj.c xs)),ai gap,ai inner] fun res rows=>res= .o 0∧rows=[⟨3,1,vw ao (flx xs gap inner)⟩]:=by
 have cf:=tG xs gap inner hl
 obtain⟨V,hV⟩:=nmE (vw aj.c xs)
 obtain⟨D,hD⟩:=nmE (vw ao (flx xs gap inner))
 have pD:ah D=true:=by rw [hD];exact ag _ _
 rw [←hV,←hD]at cf
 rw [←hV,←hD]
 refine ae (aN f256) aB func256 fun g F hg hF=> ?_
 cbv
 refine ud hg (fh cf rfl fun res rows hq=> ?_)
 obtain⟨p,gr,fr,rfl,rfl⟩:=hq
 obtain⟨R,hR⟩:=nmE (vw j7 fr)
 have pR:ah R=true:=by rw [hR];exact ag _ _
 rw [←hR]
 refine⟨[.rw ⟨3,1,D⟩,.rw ⟨4,1,R⟩],by simp only [zqA,List.map_nil,gY (ab:=⟨3,1,D⟩) pD,gY (ab:=⟨4,1,R⟩) pR];rfl,?_⟩
 cbv
 exact bR hF rfl pD
theorem Du(xs:List aj)(gap inner:Int):(flx xs gap inner).length=xs.length:=by
 unfold flx
 split
 ·rename_i h
  simp only [zqs]at h
  have hX:dX (Fx.of xs gap inner).xs=true:=h.1.1
  have hx12:=(eG hX).2
  obtain⟨r,hr1,hr2⟩:=Fx.run_some hX 13 (xs.map hyp) (xs.map (mg (zT xs gap inner))) (by simp;rfl) (by have:=jv (xs.map (mg (zT xs gap inner))) 0;rw [zql]at this;have e:(Fx.of xs gap inner).xs.length=xs.length:=rfl;omega)
  rw [hr1]
  simpa using hr2
 ·simp
end Go.Proofs.YtdnnffbbhijmkaaGreat
