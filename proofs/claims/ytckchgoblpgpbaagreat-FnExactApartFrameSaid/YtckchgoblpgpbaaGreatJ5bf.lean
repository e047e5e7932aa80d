/- The program's flexed lines, as maps of data. -/
import Derived.Test.YtckchgoblpgpbaaGreatJ5be
set_option linter.unusedVariables false
set_option linter.unusedSimpArgs false
set_option maxHeartbeats 3200000
namespace Go.Proofs.YtckchgoblpgpbaaGreat
open Go.ChangeShapes Go.WideShapes Go.ChangeAt Go.RowKit Am Go.Proofs.Tryz
set_option maxRecDepth 100000
def mO(gr:Bool)(x:ag):Bool:=if wgt gr x=0 then true else if gr then decide (hyp x<x.base)else decide (x.base<hyp x)
def inL(n:Int):Bool:=decide (0<=n)&&decide (n<=1048576)
def Fx.of(xs:List ag)(gap inner:Int):Fx:=⟨xs,gap,inner,AQ xs gap inner⟩
def flx(xs:List ag)(gap inner:Int):List Int:=
 if(ep xs&&inL gap&&inL inner)=true then((Fx.of xs gap inner).runI 13 (xs.map hyp) (xs.map (mO (AQ xs gap inner)))).getD []else xs.map hyp
def hgo(gr:Bool):Int->List Bool->List ag->List Bool
 |_,m,[]=>m
 |i,m,x::r=>hgo gr (i+1) (m.set i.toNat (mO gr x)) r
theorem Dr(gr:Bool):∀(xs:List ag)(dn tl:List Bool),tl.length=xs.length->hgo gr dn.length (dn++tl) xs=dn++xs.map (mO gr)
 | [],dn,[],_=>by simp [hgo]
 | [],_,_::_,h=>by simp at h
 |_::_,_,[],h=>by simp at h
 |x::xs,dn,b::tl,h=>by
  have ih:=Dr gr xs (dn++[mO gr x]) tl (by simpa using h)
  rw [hgo]
  have e1:(dn++b::tl).set ((dn.length:Int)).toNat (mO gr x)=(dn++[mO gr x])++tl:=by simp
  have e2:(dn.length:Int)+1=((dn++[mO gr x]).length:Int):=by simp
  rw [e1,e2,ih]
  simp
theorem Em(gr:Bool)(xs:List ag):hgo gr 0 (List.replicate xs.length false) xs=xs.map (mO gr):=by
 have:=Dr gr xs [] (List.replicate xs.length false) (by simp)
 simpa using this
theorem C2{α:Type}(c:α->Array Value)(n:Nat)(x:α):vw c (List.replicate n x)=List.replicate n (lc (c x)):=by simp [vw]
theorem tX{es:LLA}(h:aC es=true)(t k:Nat)(s:Nat->Nat):AB.mv s ⟨t,k,es⟩=⟨t,k,es⟩:=by
 refine congrArg (AB.mk t k) ?_
 refine(List.map_congr_left fun x hx=> ?_).trans (List.map_id es)
 refine(List.map_congr_left fun c hc=> ?_).trans (List.map_id x)
 have hp:=List.all_eq_true.1 (List.all_eq_true.1 h x hx) c hc
 cases c<;>first|rfl|cases hp
theorem Cw{F:List AT->EH->Prop}{eh:EH}{V z r:LLA}{gap inner p:Int}{gr:Bool}{t1 t2:Nat}{D:List Int}{fr:List Bool}
  (hF:F=mA 0 (fun res h'=>∃rows,h'=rows.map .live/\∃(p:Int)(gr:Bool)(fr:List Bool),res= .t (.agg [.view V,.J gap,.J inner,.B gr,.own 0,.own 1,.J p])/\rows=[⟨t1,1,vw ak D⟩,⟨t2,1,vw lR fr⟩]))
  (h1:nth eh 1=some (.rw ⟨t1,1,z⟩)) (h2:nth eh 2=some (.rw ⟨t2,1,r⟩)) (hz:z=vw ak D) (hr:r=vw lR fr):F [.agg [.view V,.J gap,.J inner,.B gr,.own 1,.own 2,.J p]] eh:=by
 subst hF hz hr
 exact .inl ⟨.t (.agg [.view V,.J gap,.J inner,.B gr,.own 0,.own 1,.J p]),toH [.rw ⟨t1,1,vw ak D⟩,.rw ⟨t2,1,vw lR fr⟩],[some 1,some 2],
  wkG [some 1,some 2] ⟨.inr zr7,trivial⟩ ⟨⟨_,_,fL h1,rfl,rfl,rfl,.inl ⟨rfl,aF _ _⟩⟩,⟨_,_,fL h2,rfl,rfl,rfl,.inl ⟨rfl,aF _ _⟩⟩,trivial⟩ (by decide) aD,_,rfl,p,gr,fr,rfl,rfl⟩
theorem vY(xs:List ag)(gap inner:Int)(hl:xs.length<=1048576):PC0 328 [.c (.view (vw ag.c xs)),ai gap,ai inner] (.t (abl (AQ xs gap inner))):=by
 obtain⟨V,hV⟩:=nmE (vw ag.c xs)
 have ha:=lmV hV
 have iV:=imV hV
 have kV:=kmV (k:=9) hV fun _=>rfl
 have dV:=dmV hV
 have c1:=ia xs hl
 have c2:=fq xs (xs.map hyp) gap hl (by simpa using hl)
 obtain⟨H,hH⟩:=nmE (vw ak (xs.map hyp))
 have iH:=imV hH
 have kH:=kmV (k:=1) hH fun _=>rfl
 have dH:=dmV hH
 obtain⟨O,hO⟩:=nmE (wrap64 (hP xs (xs.map hyp) gap))
 rw [<-hV,<-hH]at c1 c2
 rw [<-hO]at c2
 rw [<-hV]
 refine ae (aJ f328) ay func328 fun g F hg hF=> ?_
 cbv
 first|(refine bE hg c1 (bp rfl) iH ?_;cbv)|(refine bO hg c1 (bp rfl) iH ?_;cbv)
 first|(refine fJ hg c2 (ah (ao rfl) (ah (aZ (ab:=⟨_,_,H⟩) rfl kH dH) (ah (ao rfl) (av)))) rfl ?_;cbv)|(refine dL hg c2 (ah (ao rfl) (ah (aZ (ab:=⟨_,_,H⟩) rfl kH dH) (ah (ao rfl) (av)))) rfl ?_;cbv)
 exact bk hF (by rw [bh hg,AQ,hO])
theorem uz(xs:List ag)(gap inner:Int)(hl:xs.length<=1048576):dc prog 311 [.c (.view (vw ag.c xs)),ai gap,ai inner] fun res hA=>∃(p:Int)(gr:Bool)(fr:List Bool),
  res= .t (.agg [.view (vw ag.c xs),.J gap,.J inner,.B gr,.own 0,.own 1,.J p])/\hA=[⟨3,1,vw ak (flx xs gap inner)⟩,⟨4,1,vw lR fr⟩]:=by
 have c1:=ia xs hl
 have c2:=jc xs hl
 have c3:=vY xs gap inner hl
 obtain⟨V,hV⟩:=nmE (vw ag.c xs)
 have hW:=lmV hV
 have iV:=imV hV
 have kV:=kmV (k:=9) hV fun _=>rfl
 have dV:=dmV hV
 obtain⟨Z,hZ⟩:=nmE (vw ak (xs.map hyp))
 have iZ:=imV hZ
 have pZ:aC Z=true:=jp iZ
 obtain⟨D,hD⟩:=nmE (flx xs gap inner)
 obtain⟨IO,hp⟩:=nmE (ep xs)
 obtain⟨G,hG⟩:=nmE (AQ xs gap inner)
 rw [<-hV]at c1 c2 c3
 rw [<-hZ]at c1
 rw [<-hp]at c2
 rw [<-hG]at c3
 rw [<-hV,<-hD]
 refine ae (aJ f311) ay func311 fun g F hg hF=> ?_
 cbv
 first|(refine bE hg c1 (bp rfl) iZ ?_;cbv)|(refine bO hg c1 (bp rfl) iZ ?_;cbv)
 refine Ep hg (by decide) (by omega) ?_
 cbv
 generalize hM:g .rp (g .ln V) _=M0
 replace hM:M0=vw lR (List.replicate xs.length false):=by
  rw [<-hM,zf hg,bF hg,hV,aQ,C2]
  rfl
 have pM:=pmV hM
 have hK:=Em G xs
 obtain⟨HL,hE⟩:=nmE (xs.map (mO G))
 rw [<-hE]at hK
 repeat'(first|(refine bz hg c2 rfl (fun R0 hs=> ?_);cases R0<;>cbv))
 ·exact Cw hF rfl rfl (by rw [hZ,hD,flx,if_neg (by rw [<-hp,<-hs];simp)]) hM
 (first|refine bz hg (db _ _ _) rfl (fun I1 hd=> ?_)|refine bd hg (db _ _ _) rfl (fun I1 hd=> ?_));cbv
 cases I1<;>cbv
 ·exact Cw hF rfl rfl (by rw [hZ,hD,flx,if_neg (by rw [inL,<-hd];simp)]) hM
 (first|refine bz hg (db _ _ _) rfl (fun I2 ho=> ?_)|refine bd hg (db _ _ _) rfl (fun I2 ho=> ?_));cbv
 cases I2<;>cbv
 ·exact Cw hF rfl rfl (by rw [hZ,hD,flx,if_neg (by rw [inL,inL,<-hd,<-ho];simp)]) hM
 have hv:(ep xs&&inL gap&&inL inner)=true:=by rw [inL,inL,<-hd,<-ho,<-hp,<-hs];rfl
 first|(refine bz hg c3 rfl (fun R hR=> ?_);cbv)|(refine bd hg c3 rfl (fun R hR=> ?_);cbv)
 obtain rfl:G=R:=hR.symm
 refine aY hg ay (by kernel_rfl) V (fun x=>lc (ag.c x)) xs hV hl (fun z(s:Int×List Bool×LLA)=>[(6,.p 0),(7,.p 3),(39,.v V),(40,.i (g .ln V)),(41,.i (z))]) (fun z(s:Int×List Bool×LLA)=>[.bx 289 7 [.N,.J 0,.J 0,.B false,.N,.N,.J 0],.rw ⟨3,1,Z⟩,.rw ⟨4,1,s.2.2⟩,.bx 289 7 [.view V,.J gap,.J inner,.B G,.own 1,.own 2,.J 0]]) (fun z(s:Int×List Bool×LLA)=>s.1=z/\s.2.2=vw lR s.2.1/\s.2.1.length=xs.length) (fun(s:Int×List Bool×LLA) rest=>hgo G s.1 s.2.1 rest) (HL) (0,_,M0) hK ⟨rfl,hM,by simp⟩ (Wk.weak (wkG [some 0,some 1,some 2,some 3] zr5 ⟨⟨_,_,rfl,rfl,rfl,rfl,.inr ⟨zr7,trivial⟩⟩,wqE rfl pZ,wqE rfl pM,⟨_,_,rfl,rfl,rfl,rfl,.inr ⟨zr7,trivial⟩⟩,trivial⟩ (by decide) aD)) (fun z s B hz h0 hi he=> ?_) (fun z s x rest B z0 z1 z2 hx hy h0 hi hc e1 hB=> ?_)
 rotate_left
 ·obtain⟨i,w,eR⟩:=s
  obtain⟨k1,k2,k3⟩:=hi
  dsimp only at k1 k2 k3 h0
  subst k1
  have hQ:aX V=(xs.length:Int):=by rw [hV,aQ]
  have hk:i<aX eR:=by rw [k2,aQ,k3,<-hQ];exact z1
  have hm:i.toNat<w.length:=by rw [k3];omega
  have sR:∀b b':Bool,b=b'->eR.set i.toNat [.B b]=vw lR (w.set i.toNat b'):=fun b b' h=>by rw [iz,k2,h];rfl
  rw [hgo]at h0
  obtain⟨y0,y1,y2,y3,y4,y5,y6,y7,y8⟩:=x
  obtain⟨HV,hH⟩:=nmE (mO G ⟨y0,y1,y2,y3,y4,y5,y6,y7,y8⟩)
  have ha:HV=if wgt G ⟨y0,y1,y2,y3,y4,y5,y6,y7,y8⟩=0 then true else if G then decide (hyp ⟨y0,y1,y2,y3,y4,y5,y6,y7,y8⟩<y0)else decide (y0<hyp ⟨y0,y1,y2,y3,y4,y5,y6,y7,y8⟩):=hH
  rw [<-hH]at h0
  cbv;rw [hc];cbv;refine goX hg _ z0 hy rfl ?_;cbv
  (first|refine ba hg (iI ⟨y0,y1,y2,y3,y4,y5,y6,y7,y8⟩) rfl (fun HY hI=> ?_)|refine aB hg (iI ⟨y0,y1,y2,y3,y4,y5,y6,y7,y8⟩) rfl (fun HY hI=> ?_));cbv
  (first|refine ba hg (dD ⟨y0,y1,y2,y3,y4,y5,y6,y7,y8⟩ G) rfl (fun Q0 hJ=> ?_)|refine aB hg (dD ⟨y0,y1,y2,y3,y4,y5,y6,y7,y8⟩ G) rfl (fun Q0 hJ=> ?_));cbv
  rw [<-hI,<-hJ]at ha
  have t0:g .q .eql Q0 0=decide (Q0=0):=by rw [bj hg];rfl
  by_cases hq:Q0=0
  ·rw [t0,zqu hq]
   rw [if_pos hq]at ha
   cbv
   have s1:=sR (true) HV (ha.symm)
   refine goY hg z0 hk fun j hj hu=> ?_
   cbv
   refine goN hg ⟨_,by rw [hj,k2];exact bf (zqc hm),rfl⟩ ?_
   cbv
   rw [e1]
   simp only [mP hg]
   subst hj
   exact hB ((i+1,w.set i.toNat HV,_)) _ _ ⟨h0,⟨rfl,s1,by simpa using k3⟩⟩ (Wk.weak (wkG [some 0,some 1,some 2,some 3] zr5 ⟨⟨_,_,rfl,rfl,rfl,rfl,.inr ⟨zr7,trivial⟩⟩,wqE rfl pZ,⟨_,_,rfl,rfl,rfl,rfl,.inl ⟨rfl,s1.symm▸aF _ _⟩⟩,⟨_,_,rfl,rfl,rfl,rfl,.inr ⟨zr7,trivial⟩⟩,trivial⟩ (by decide) aD))
  ·rw [t0,zqt hq]
   rw [if_neg hq]at ha
   cases hGc:G
   ·rw [hGc]at ha
    cbv
    have s1:=sR (g .q .lss y0 HY) HV (by rw [bh hg];exact ha.symm)
    refine goY hg z0 hk fun j hj hu=> ?_
    cbv
    refine goN hg ⟨_,by rw [hj,k2];exact bf (zqc hm),rfl⟩ ?_
    cbv
    rw [e1]
    simp only [mP hg]
    subst hj
    exact hB ((i+1,w.set i.toNat HV,_)) _ _ ⟨h0,⟨rfl,s1,by simpa using k3⟩⟩ (Wk.weak (wkG [some 0,some 1,some 2,some 3] zr5 ⟨⟨_,_,rfl,rfl,rfl,rfl,.inr ⟨zr7,trivial⟩⟩,wqE rfl pZ,⟨_,_,rfl,rfl,rfl,rfl,.inl ⟨rfl,s1.symm▸aF _ _⟩⟩,⟨_,_,rfl,rfl,rfl,rfl,.inr ⟨⟨rfl,rfl,rfl,(by rw [hGc];exact rfl),rfl,rfl,rfl,trivial⟩,trivial⟩⟩,trivial⟩ (by decide) aD))
   ·rw [hGc]at ha
    cbv
    cases hqq:g .q .gtr y0 HY
    ·cbv
     have s1:=sR (false) HV (by rw [ha];rw [cu hg]at hqq;exact hqq.symm)
     refine goY hg z0 hk fun j hj hu=> ?_
     cbv
     refine goN hg ⟨_,by rw [hj,k2];exact bf (zqc hm),rfl⟩ ?_
     cbv
     rw [e1]
     simp only [mP hg]
     subst hj
     exact hB ((i+1,w.set i.toNat HV,_)) _ _ ⟨h0,⟨rfl,s1,by simpa using k3⟩⟩ (Wk.weak (wkG [some 0,some 1,some 2,some 3] zr5 ⟨⟨_,_,rfl,rfl,rfl,rfl,.inr ⟨zr7,trivial⟩⟩,wqE rfl pZ,⟨_,_,rfl,rfl,rfl,rfl,.inl ⟨rfl,s1.symm▸aF _ _⟩⟩,⟨_,_,rfl,rfl,rfl,rfl,.inr ⟨⟨rfl,rfl,rfl,(by rw [hGc];exact rfl),rfl,rfl,rfl,trivial⟩,trivial⟩⟩,trivial⟩ (by decide) aD))
    ·cbv
     have s1:=sR (true) HV (by rw [ha];rw [cu hg]at hqq;exact hqq.symm)
     refine goY hg z0 hk fun j hj hu=> ?_
     cbv
     refine goN hg ⟨_,by rw [hj,k2];exact bf (zqc hm),rfl⟩ ?_
     cbv
     rw [e1]
     simp only [mP hg]
     subst hj
     exact hB ((i+1,w.set i.toNat HV,_)) _ _ ⟨h0,⟨rfl,s1,by simpa using k3⟩⟩ (Wk.weak (wkG [some 0,some 1,some 2,some 3] zr5 ⟨⟨_,_,rfl,rfl,rfl,rfl,.inr ⟨zr7,trivial⟩⟩,wqE rfl pZ,⟨_,_,rfl,rfl,rfl,rfl,.inl ⟨rfl,s1.symm▸aF _ _⟩⟩,⟨_,_,rfl,rfl,rfl,rfl,.inr ⟨⟨rfl,rfl,rfl,(by rw [hGc];exact rfl),rfl,rfl,rfl,trivial⟩,trivial⟩⟩,trivial⟩ (by decide) aD))
 ·obtain⟨i,w,eR⟩:=s
  obtain⟨k1,k2,k3⟩:=hi
  dsimp only at k1 k2 k3 h0
  rw [hgo]at h0
  obtain rfl:HL=w:=h0.symm
  have pR:=pmV k2
  obtain⟨X,hX⟩:=nmE (Fx.of xs gap inner)
  have ht:ep X.xs=true:=by
   rw [hX]
   simp only [zqs]at hv
   exact hv.1.1
  have hw:=(fd ht).2
  have hb:X.xs=xs:=by rw [hX];rfl
  obtain⟨r,hr1,hY⟩:=Fx.run_some ht 13 (xs.map hyp) HL (by rw [hb];exact k3) (by have:=jQ HL 0;rw [hb]at hw;omega)
  have hP:D=r:=by rw [hD,flx,if_pos hv,<-hG,<-hE,<-hX,hr1];rfl
  cbv;rw [he];cbv
  refine Au hg ay (by kernel_rfl) (fun s:(List Int×List Bool×Int)×LLA×LLA=>[(6,.p 0),(7,.p 3)]) (fun s=>[.bx 289 7 [.N,.J 0,.J 0,.B false,.N,.N,.J 0],.rw ⟨3,1,s.2.1⟩,.rw ⟨4,1,s.2.2⟩,.bx 289 7 [.view V,.J gap,.J inner,.B G,.own 1,.own 2,.J s.1.2.2]])
   (fun s=>s.2.1=vw ak s.1.1/\s.2.2=vw lR s.1.2.1/\s.1.1.length=xs.length/\s.1.2.1.length=xs.length) (fun k s=>X.runI k s.1.1 s.1.2.1) r 13 ((xs.map hyp,HL,0),Z,eR) hr1 ⟨hZ,k2,by simp,k3⟩ (Wk.weak (wkG [some 0,some 1,some 2,some 3] zr2 ⟨⟨_,_,rfl,rfl,rfl,rfl,.inr ⟨zr7,trivial⟩⟩,wqE rfl pZ,wqE rfl pR,⟨_,_,rfl,rfl,rfl,rfl,.inr ⟨zr7,trivial⟩⟩,trivial⟩ (by decide) aD)) (fun s k B h0 hi hB=> ?_)
  obtain⟨⟨sz,fr,p⟩,eZ,eR⟩:=s
  obtain⟨k1,k2,k3,k4⟩:=hi
  dsimp only at k1 k2 k3 k4 h0
  cases k with
  |zero=>cases h0
  |succ k=>
   rw [Fx.runI]at h0
   have cp:=l5 X ht sz fr (by rw [hb];exact k3) (by rw [hb];exact k4) p
   have qZ:=pmV k1
   have qR:=pmV k2
   have hS:X.gap=gap:=by rw [hX];rfl
   have hT:X.inner=inner:=by rw [hX];rfl
   have hU:X.gr=G:=by rw [hX,hG];rfl
   simp only [Fx.bx,hb,hS,hT,hU,<-hV,<-k1,<-k2]at cp
   cbv
   refine CO hg [3,1,2] cp (by decide) (fun r hr=>by simp only [List.mem_cons,List.not_mem_nil,or_false]at hr;simp only [zqx,List.length_nil];omega) ⟨⟨_,_,rfl,rfl,rfl,rfl,.inr ⟨zr7,trivial⟩⟩,⟨_,_,rfl,rfl,rfl,rfl,.inl ⟨rfl,qZ⟩⟩,⟨_,_,rfl,rfl,rfl,rfl,.inl ⟨rfl,qR⟩⟩,trivial⟩ zr1 fun res eh hq=> ?_
   obtain⟨p',hO,hC,rfl,rfl,h1,h2⟩:=hq
   obtain⟨Z',hh⟩:=nmE (vw ak hO)
   obtain⟨R',hf⟩:=nmE (vw lR hC)
   have hN:=pmV hh
   have hL:=pmV hf
   rw [<-hh,<-hf]
   simp only [di,EE.mv,tX hN,tX hL]
   by_cases hn:fre 0 fr=[]
   ·rw [if_pos hn]at h0 h1 h2
    rw [show decide (fre 0 fr≠[])=false by simp [hn]]
    cbv
    subst h1 h2
    exact Cw hF rfl rfl (by rw [hh,hP];cases h0;rfl) hf
   ·rw [if_neg hn]at h0 h1 h2
    rw [show decide (fre 0 fr≠[])=true by simp [hn]]
    cbv
    refine hB k ((hO,hC,p'),Z',R') _ _ (Nat.lt_succ_self k) (by rw [h1,h2];exact h0) ⟨hh,hf,by rw [h1,ni];exact k3,by rw [h2,nj];exact k4⟩ (Wk.weak (wkG [some 0,some 1,some 2,some 3] zr2 ⟨⟨_,_,rfl,rfl,rfl,rfl,.inr ⟨zr7,trivial⟩⟩,⟨_,_,rfl,rfl,rfl,rfl,.inl ⟨rfl,hN⟩⟩,⟨_,_,rfl,rfl,rfl,rfl,.inl ⟨rfl,hL⟩⟩,⟨_,_,rfl,rfl,rfl,rfl,.inr ⟨zr7,trivial⟩⟩,trivial⟩ (by decide) aD))
theorem qN(xs:List ag)(gap inner:Int)(hl:xs.length<=1048576):dc prog 288 [.c (.view (vw ag.c xs)),ai gap,ai inner] fun res ha=>res= .o 0/\ha=[⟨3,1,vw ak (flx xs gap inner)⟩]:=by
 have cf:=uz xs gap inner hl
 obtain⟨V,hV⟩:=nmE (vw ag.c xs)
 obtain⟨D,hD⟩:=nmE (vw ak (flx xs gap inner))
 have pD:=pmV hD
 rw [<-hV,<-hD]at cf
 rw [<-hV,<-hD]
 refine ae (aJ f288) ay func288 fun g F hg hF=> ?_
 cbv
 refine uS hg (fE cf rfl fun res ha hq=> ?_)
 obtain⟨p,gr,fr,rfl,rfl⟩:=hq
 obtain⟨R,hR⟩:=nmE (vw lR fr)
 have pR:=pmV hR
 rw [<-hR]
 refine⟨[.rw ⟨3,1,D⟩,.rw ⟨4,1,R⟩],by simp only [zqA,List.map_nil,iq (ab:=⟨3,1,D⟩) pD,iq (ab:=⟨4,1,R⟩) pR];rfl,?_⟩
 cbv
 exact bR hF rfl pD
theorem Es(xs:List ag)(gap inner:Int):(flx xs gap inner).length=xs.length:=by
 unfold flx
 split
 ·rename_i h
  simp only [zqs]at h
  have hX:ep (Fx.of xs gap inner).xs=true:=h.1.1
  have hb:=(fd hX).2
  obtain⟨r,hr1,ha⟩:=Fx.run_some hX 13 (xs.map hyp) (xs.map (mO (AQ xs gap inner))) (by simp;rfl) (by have:=jQ (xs.map (mO (AQ xs gap inner))) 0;rw [zql]at this;have e:(Fx.of xs gap inner).xs.length=xs.length:=rfl;omega)
  rw [hr1]
  simpa using ha
 ·simp
end Go.Proofs.YtckchgoblpgpbaaGreat
