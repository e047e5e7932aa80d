/- The layout without a state. -/
import Derived.Test.YtbnplcingdgaaaaGreatC9ba
set_option linter.unusedVariables false
set_option linter.unusedSimpArgs false
set_option maxHeartbeats 3200000
namespace Go.Proofs.YtbnplcingdgaaaaGreat
open Go.ChangeShapes Go.WideShapes Go.ChangeAt Go.RowKit Am Go.Proofs.Tryz
set_option maxRecDepth 100000
def na(gr:Bool)(x:ag):Bool:=if wgt gr x=0 then true else if gr then decide (hyp x<x.base)else decide (x.base<hyp x)
def inL(n:Int):Bool:=decide (0<=n)&&decide (n<=1048576)
def Fx.of(xs:List ag)(gap inner:Int):Fx:=⟨xs,gap,inner,AA xs gap inner⟩
def flx(xs:List ag)(gap inner:Int):List Int:=
 if(gd xs&&inL gap&&inL inner)=true then((Fx.of xs gap inner).runI 13 (xs.map hyp) (xs.map (na (AA xs gap inner)))).getD []else xs.map hyp
def hgo(gr:Bool):Int->List Bool->List ag->List Bool
 |_,m,[]=>m
 |i,m,x::r=>hgo gr (i+1) (m.set i.toNat (na gr x)) r
theorem zi(gr:Bool):∀(xs:List ag)(dn tl:List Bool),tl.length=xs.length->hgo gr dn.length (dn++tl) xs=dn++xs.map (na gr)
 | [],dn,[],_=>by simp [hgo]
 | [],_,_::_,h=>by simp at h
 |_::_,_,[],h=>by simp at h
 |x::xs,dn,b::tl,h=>by
  have ih:=zi gr xs (dn++[na gr x]) tl (by simpa using h)
  rw [hgo]
  have e1:(dn++b::tl).set ((dn.length:Int)).toNat (na gr x)=(dn++[na gr x])++tl:=by simp
  have e2:(dn.length:Int)+1=((dn++[na gr x]).length:Int):=by simp
  rw [e1,e2,ih]
  simp
theorem Az(gr:Bool)(xs:List ag):hgo gr 0 (List.replicate xs.length false) xs=xs.map (na gr):=by
 have:=zi gr xs [] (List.replicate xs.length false) (by simp)
 simpa using this
theorem BM{α:Type}(c:α->Array Value)(n:Nat)(x:α):vw c (List.replicate n x)=List.replicate n (lc (c x)):=by simp [vw]
theorem wk{es:LLA}(h:aN es=true)(t k:Nat)(s:Nat->Nat):AB.mv s ⟨t,k,es⟩=⟨t,k,es⟩:=by
 refine congrArg (AB.mk t k) ?_
 refine(List.map_congr_left fun x hx=> ?_).trans (List.map_id es)
 refine(List.map_congr_left fun c hc=> ?_).trans (List.map_id x)
 have hp:=List.all_eq_true.1 (List.all_eq_true.1 h x hx) c hc
 cases c<;>first|rfl|cases hp
theorem yp{F:List AT->EH->Prop}{eh:EH}{V z r:LLA}{gap inner p:Int}{gr:Bool}{t1 t2:Nat}{D:List Int}{fr:List Bool}
  (hF:F=lr 0 (fun res h'=>∃rows,h'=rows.map .live/\∃(p:Int)(gr:Bool)(fr:List Bool),res= .t (.agg [.view V,.J gap,.J inner,.B gr,.own 0,.own 1,.J p])/\rows=[⟨t1,1,vw aj D⟩,⟨t2,1,vw n4 fr⟩]))
  (h1:nth eh 1=some (.rw ⟨t1,1,z⟩)) (h2:nth eh 2=some (.rw ⟨t2,1,r⟩)) (hz:z=vw aj D) (hr:r=vw n4 fr):F [.agg [.view V,.J gap,.J inner,.B gr,.own 1,.own 2,.J p]] eh:=by
 subst hF hz hr
 exact .inl ⟨.t (.agg [.view V,.J gap,.J inner,.B gr,.own 0,.own 1,.J p]),toH [.rw ⟨t1,1,vw aj D⟩,.rw ⟨t2,1,vw n4 fr⟩],[some 1,some 2],
  wkG [some 1,some 2] ⟨.inr zr7,trivial⟩ ⟨⟨_,_,dt h1,rfl,rfl,rfl,.inl ⟨rfl,aF _ _⟩⟩,⟨_,_,dt h2,rfl,rfl,rfl,.inl ⟨rfl,aF _ _⟩⟩,trivial⟩ (by decide) aq,_,rfl,p,gr,fr,rfl,rfl⟩
theorem qT(xs:List ag)(gap inner:Int)(hl:xs.length<=1048576):PC0 155 [.c (.view (vw ag.c xs)),ai gap,ai inner] (.t (abl (AA xs gap inner))):=by
 obtain⟨V,hV⟩:=nmE (vw ag.c xs)
 have ha:=lmV hV
 have iV:=imV hV
 have kV:=kmV (k:=9) hV fun _=>rfl
 have dV:=dmV hV
 have c1:=fo xs hl
 have c2:=dA xs (xs.map hyp) gap hl (by simpa using hl)
 obtain⟨H,hH⟩:=nmE (vw aj (xs.map hyp))
 have iH:=imV hH
 have kH:=kmV (k:=1) hH fun _=>rfl
 have dH:=dmV hH
 obtain⟨O,hO⟩:=nmE (wrap64 (jd xs (xs.map hyp) gap))
 rw [<-hV,<-hH]at c1 c2
 rw [<-hO]at c2
 rw [<-hV]
 refine ae (aP f155) aC func155 fun g F hg hF=> ?_
 cbv
 first|(refine ce hg c1 (dg rfl) iH ?_;cbv)|(refine eY hg c1 (dg rfl) iH ?_;cbv)
 first|(refine uG hg c2 (ay (be rfl) (ay (bA (ab:=⟨_,_,H⟩) rfl kH dH) (ay (be rfl) (aU)))) rfl ?_;cbv)|(refine oH hg c2 (ay (be rfl) (ay (bA (ab:=⟨_,_,H⟩) rfl kH dH) (ay (be rfl) (aU)))) rfl ?_;cbv)
 exact aY hF (by rw [bD hg,AA,hO])
theorem pI(xs:List ag)(gap inner:Int)(hl:xs.length<=1048576):du prog 142 [.c (.view (vw ag.c xs)),ai gap,ai inner] fun res hA=>∃(p:Int)(gr:Bool)(fr:List Bool),
  res= .t (.agg [.view (vw ag.c xs),.J gap,.J inner,.B gr,.own 0,.own 1,.J p])/\hA=[⟨3,1,vw aj (flx xs gap inner)⟩,⟨4,1,vw n4 fr⟩]:=by
 have c1:=fo xs hl
 have c2:=fX xs hl
 have c3:=qT xs gap inner hl
 obtain⟨V,hV⟩:=nmE (vw ag.c xs)
 have hW:=lmV hV
 have iV:=imV hV
 have kV:=kmV (k:=9) hV fun _=>rfl
 have dV:=dmV hV
 obtain⟨Z,hZ⟩:=nmE (vw aj (xs.map hyp))
 have iZ:=imV hZ
 have pZ:aN Z=true:=lg iZ
 obtain⟨D,hD⟩:=nmE (flx xs gap inner)
 obtain⟨IO,hp⟩:=nmE (gd xs)
 obtain⟨G,hG⟩:=nmE (AA xs gap inner)
 rw [<-hV]at c1 c2 c3
 rw [<-hZ]at c1
 rw [<-hp]at c2
 rw [<-hG]at c3
 rw [<-hV,<-hD]
 refine ae (aP f142) aC func142 fun g F hg hF=> ?_
 cbv
 first|(refine ce hg c1 (dg rfl) iZ ?_;cbv)|(refine eY hg c1 (dg rfl) iZ ?_;cbv)
 refine DT hg (by decide) (by omega) ?_
 cbv
 generalize hM:g .rp (g .ln V) _=M0
 replace hM:M0=vw n4 (List.replicate xs.length false):=by
  rw [<-hM,DS hg,bH hg,hV,bg,BM]
  rfl
 have pM:=pmV hM
 have hK:=Az G xs
 obtain⟨HL,hE⟩:=nmE (xs.map (na G))
 rw [<-hE]at hK
 repeat'(first|(refine bI hg c2 rfl (fun R0 hs=> ?_);cases R0<;>cbv)|(refine bf hg c2 rfl (fun R0 hs=> ?_);cases R0<;>cbv))
 ·exact yp hF rfl rfl (by rw [hZ,hD,flx,if_neg (by rw [<-hp,<-hs];simp)]) hM
 (first|refine bI hg (bF _ _ _) rfl (fun I1 hd=> ?_)|refine bf hg (bF _ _ _) rfl (fun I1 hd=> ?_));cbv
 cases I1<;>cbv
 ·exact yp hF rfl rfl (by rw [hZ,hD,flx,if_neg (by rw [inL,<-hd];simp)]) hM
 (first|refine bI hg (bF _ _ _) rfl (fun I2 ho=> ?_)|refine bf hg (bF _ _ _) rfl (fun I2 ho=> ?_));cbv
 cases I2<;>cbv
 ·exact yp hF rfl rfl (by rw [hZ,hD,flx,if_neg (by rw [inL,inL,<-hd,<-ho];simp)]) hM
 have hv:(gd xs&&inL gap&&inL inner)=true:=by rw [inL,inL,<-hd,<-ho,<-hp,<-hs];rfl
 first|(refine bI hg c3 rfl (fun R hR=> ?_);cbv)|(refine bf hg c3 rfl (fun R hR=> ?_);cbv)
 obtain rfl:G=R:=hR.symm
 refine bi hg aC (by kernel_rfl) V (fun x=>lc (ag.c x)) xs hV hl (fun z(s:Int×List Bool×LLA)=>[(6,.p 0),(7,.p 3),(39,.v V),(40,.i (g .ln V)),(41,.i (z))]) (fun z(s:Int×List Bool×LLA)=>[.bx 191 7 [.N,.J 0,.J 0,.B false,.N,.N,.J 0],.rw ⟨3,1,Z⟩,.rw ⟨4,1,s.2.2⟩,.bx 191 7 [.view V,.J gap,.J inner,.B G,.own 1,.own 2,.J 0]]) (fun z(s:Int×List Bool×LLA)=>s.1=z/\s.2.2=vw n4 s.2.1/\s.2.1.length=xs.length) (fun(s:Int×List Bool×LLA) rest=>hgo G s.1 s.2.1 rest) (HL) (0,_,M0) hK ⟨rfl,hM,by simp⟩ (Wk.weak (wkG [some 0,some 1,some 2,some 3] zr5 ⟨⟨_,_,rfl,rfl,rfl,rfl,.inr ⟨zr7,trivial⟩⟩,wqE rfl pZ,wqE rfl pM,⟨_,_,rfl,rfl,rfl,rfl,.inr ⟨zr7,trivial⟩⟩,trivial⟩ (by decide) aq)) (fun z s B hz h0 hi he=> ?_) (fun z s x rest B z0 z1 z2 hx hy h0 hi hc e1 hB=> ?_)
 rotate_left
 ·obtain⟨i,w,eR⟩:=s
  obtain⟨k1,k2,k3⟩:=hi
  dsimp only at k1 k2 k3 h0
  subst k1
  have hQ:aD V=(xs.length:Int):=by rw [hV,bg]
  have hk:i<aD eR:=by rw [k2,bg,k3,<-hQ];exact z1
  have hm:i.toNat<w.length:=by rw [k3];omega
  have sR:∀b b':Bool,b=b'->eR.set i.toNat [.B b]=vw n4 (w.set i.toNat b'):=fun b b' h=>by rw [jl,k2,h];rfl
  rw [hgo]at h0
  obtain⟨y0,y1,y2,y3,y4,y5,y6,y7,y8⟩:=x
  obtain⟨HV,hH⟩:=nmE (na G ⟨y0,y1,y2,y3,y4,y5,y6,y7,y8⟩)
  have ha:HV=if wgt G ⟨y0,y1,y2,y3,y4,y5,y6,y7,y8⟩=0 then true else if G then decide (hyp ⟨y0,y1,y2,y3,y4,y5,y6,y7,y8⟩<y0)else decide (y0<hyp ⟨y0,y1,y2,y3,y4,y5,y6,y7,y8⟩):=hH
  rw [<-hH]at h0
  cbv;rw [hc];cbv;refine goX hg _ z0 hy rfl ?_;cbv
  (first|refine bM hg (fO ⟨y0,y1,y2,y3,y4,y5,y6,y7,y8⟩) rfl (fun HY hI=> ?_)|refine bh hg (fO ⟨y0,y1,y2,y3,y4,y5,y6,y7,y8⟩) rfl (fun HY hI=> ?_));cbv
  (first|refine bM hg (bW ⟨y0,y1,y2,y3,y4,y5,y6,y7,y8⟩ G) rfl (fun Q0 hJ=> ?_)|refine bh hg (bW ⟨y0,y1,y2,y3,y4,y5,y6,y7,y8⟩ G) rfl (fun Q0 hJ=> ?_));cbv
  rw [<-hI,<-hJ]at ha
  have t0:g .q .eql Q0 0=decide (Q0=0):=by rw [bB hg];rfl
  by_cases hq:Q0=0
  ·rw [t0,zqu hq]
   rw [if_pos hq]at ha
   cbv
   have s1:=sR (true) HV (ha.symm)
   refine goY hg z0 hk fun j hj hu=> ?_
   cbv
   refine goN hg ⟨_,by rw [hj,k2];exact bu (zqc hm),rfl⟩ ?_
   cbv
   rw [e1]
   simp only [qW hg]
   subst hj
   exact hB ((i+1,w.set i.toNat HV,_)) _ _ ⟨h0,⟨rfl,s1,by simpa using k3⟩⟩ (Wk.weak (wkG [some 0,some 1,some 2,some 3] zr5 ⟨⟨_,_,rfl,rfl,rfl,rfl,.inr ⟨zr7,trivial⟩⟩,wqE rfl pZ,⟨_,_,rfl,rfl,rfl,rfl,.inl ⟨rfl,s1.symm▸aF _ _⟩⟩,⟨_,_,rfl,rfl,rfl,rfl,.inr ⟨zr7,trivial⟩⟩,trivial⟩ (by decide) aq))
  ·rw [t0,zqt hq]
   rw [if_neg hq]at ha
   cases hGc:G
   ·rw [hGc]at ha
    cbv
    have s1:=sR (g .q .lss y0 HY) HV (by rw [bD hg];exact ha.symm)
    refine goY hg z0 hk fun j hj hu=> ?_
    cbv
    refine goN hg ⟨_,by rw [hj,k2];exact bu (zqc hm),rfl⟩ ?_
    cbv
    rw [e1]
    simp only [qW hg]
    subst hj
    exact hB ((i+1,w.set i.toNat HV,_)) _ _ ⟨h0,⟨rfl,s1,by simpa using k3⟩⟩ (Wk.weak (wkG [some 0,some 1,some 2,some 3] zr5 ⟨⟨_,_,rfl,rfl,rfl,rfl,.inr ⟨zr7,trivial⟩⟩,wqE rfl pZ,⟨_,_,rfl,rfl,rfl,rfl,.inl ⟨rfl,s1.symm▸aF _ _⟩⟩,⟨_,_,rfl,rfl,rfl,rfl,.inr ⟨⟨rfl,rfl,rfl,(by rw [hGc];exact rfl),rfl,rfl,rfl,trivial⟩,trivial⟩⟩,trivial⟩ (by decide) aq))
   ·rw [hGc]at ha
    cbv
    cases hqq:g .q .gtr y0 HY
    ·cbv
     have s1:=sR (false) HV (by rw [ha];rw [dr hg]at hqq;exact hqq.symm)
     refine goY hg z0 hk fun j hj hu=> ?_
     cbv
     refine goN hg ⟨_,by rw [hj,k2];exact bu (zqc hm),rfl⟩ ?_
     cbv
     rw [e1]
     simp only [qW hg]
     subst hj
     exact hB ((i+1,w.set i.toNat HV,_)) _ _ ⟨h0,⟨rfl,s1,by simpa using k3⟩⟩ (Wk.weak (wkG [some 0,some 1,some 2,some 3] zr5 ⟨⟨_,_,rfl,rfl,rfl,rfl,.inr ⟨zr7,trivial⟩⟩,wqE rfl pZ,⟨_,_,rfl,rfl,rfl,rfl,.inl ⟨rfl,s1.symm▸aF _ _⟩⟩,⟨_,_,rfl,rfl,rfl,rfl,.inr ⟨⟨rfl,rfl,rfl,(by rw [hGc];exact rfl),rfl,rfl,rfl,trivial⟩,trivial⟩⟩,trivial⟩ (by decide) aq))
    ·cbv
     have s1:=sR (true) HV (by rw [ha];rw [dr hg]at hqq;exact hqq.symm)
     refine goY hg z0 hk fun j hj hu=> ?_
     cbv
     refine goN hg ⟨_,by rw [hj,k2];exact bu (zqc hm),rfl⟩ ?_
     cbv
     rw [e1]
     simp only [qW hg]
     subst hj
     exact hB ((i+1,w.set i.toNat HV,_)) _ _ ⟨h0,⟨rfl,s1,by simpa using k3⟩⟩ (Wk.weak (wkG [some 0,some 1,some 2,some 3] zr5 ⟨⟨_,_,rfl,rfl,rfl,rfl,.inr ⟨zr7,trivial⟩⟩,wqE rfl pZ,⟨_,_,rfl,rfl,rfl,rfl,.inl ⟨rfl,s1.symm▸aF _ _⟩⟩,⟨_,_,rfl,rfl,rfl,rfl,.inr ⟨⟨rfl,rfl,rfl,(by rw [hGc];exact rfl),rfl,rfl,rfl,trivial⟩,trivial⟩⟩,trivial⟩ (by decide) aq))
 ·obtain⟨i,w,eR⟩:=s
  obtain⟨k1,k2,k3⟩:=hi
  dsimp only at k1 k2 k3 h0
  rw [hgo]at h0
  obtain rfl:HL=w:=h0.symm
  have pR:=pmV k2
  obtain⟨X,hX⟩:=nmE (Fx.of xs gap inner)
  have ht:gd X.xs=true:=by
   rw [hX]
   simp only [zqs]at hv
   exact hv.1.1
  have hw:=(dX ht).2
  have hb:X.xs=xs:=by rw [hX];rfl
  obtain⟨r,hr1,hY⟩:=Fx.run_some ht 13 (xs.map hyp) HL (by rw [hb];exact k3) (by have:=jF HL 0;rw [hb]at hw;omega)
  have hP:D=r:=by rw [hD,flx,if_pos hv,<-hG,<-hE,<-hX,hr1];rfl
  cbv;rw [he];cbv
  refine Ak hg aC (by kernel_rfl) (fun s:(List Int×List Bool×Int)×LLA×LLA=>[(6,.p 0),(7,.p 3)]) (fun s=>[.bx 191 7 [.N,.J 0,.J 0,.B false,.N,.N,.J 0],.rw ⟨3,1,s.2.1⟩,.rw ⟨4,1,s.2.2⟩,.bx 191 7 [.view V,.J gap,.J inner,.B G,.own 1,.own 2,.J s.1.2.2]])
   (fun s=>s.2.1=vw aj s.1.1/\s.2.2=vw n4 s.1.2.1/\s.1.1.length=xs.length/\s.1.2.1.length=xs.length) (fun k s=>X.runI k s.1.1 s.1.2.1) r 13 ((xs.map hyp,HL,0),Z,eR) hr1 ⟨hZ,k2,by simp,k3⟩ (Wk.weak (wkG [some 0,some 1,some 2,some 3] zr2 ⟨⟨_,_,rfl,rfl,rfl,rfl,.inr ⟨zr7,trivial⟩⟩,wqE rfl pZ,wqE rfl pR,⟨_,_,rfl,rfl,rfl,rfl,.inr ⟨zr7,trivial⟩⟩,trivial⟩ (by decide) aq)) (fun s k B h0 hi hB=> ?_)
  obtain⟨⟨sz,fr,p⟩,eZ,eR⟩:=s
  obtain⟨k1,k2,k3,k4⟩:=hi
  dsimp only at k1 k2 k3 k4 h0
  cases k with
  |zero=>cases h0
  |succ k=>
   rw [Fx.runI]at h0
   have cp:=jh X ht sz fr (by rw [hb];exact k3) (by rw [hb];exact k4) p
   have qZ:=pmV k1
   have qR:=pmV k2
   have hS:X.gap=gap:=by rw [hX];rfl
   have hT:X.inner=inner:=by rw [hX];rfl
   have hU:X.gr=G:=by rw [hX,hG];rfl
   simp only [Fx.bx,hb,hS,hT,hU,<-hV,<-k1,<-k2]at cp
   cbv
   refine Bf hg [3,1,2] cp (by decide) (fun r hr=>by simp only [List.mem_cons,List.not_mem_nil,or_false]at hr;simp only [zqx,List.length_nil];omega) ⟨⟨_,_,rfl,rfl,rfl,rfl,.inr ⟨zr7,trivial⟩⟩,⟨_,_,rfl,rfl,rfl,rfl,.inl ⟨rfl,qZ⟩⟩,⟨_,_,rfl,rfl,rfl,rfl,.inl ⟨rfl,qR⟩⟩,trivial⟩ zr1 fun res eh hq=> ?_
   obtain⟨p',hO,hC,rfl,rfl,h1,h2⟩:=hq
   obtain⟨Z',hh⟩:=nmE (vw aj hO)
   obtain⟨R',hf⟩:=nmE (vw n4 hC)
   have hN:=pmV hh
   have hL:=pmV hf
   rw [<-hh,<-hf]
   simp only [bT,EE.mv,wk hN,wk hL]
   by_cases hn:fre 0 fr=[]
   ·rw [if_pos hn]at h0 h1 h2
    rw [show decide (fre 0 fr≠[])=false by simp [hn]]
    cbv
    subst h1 h2
    exact yp hF rfl rfl (by rw [hh,hP];cases h0;rfl) hf
   ·rw [if_neg hn]at h0 h1 h2
    rw [show decide (fre 0 fr≠[])=true by simp [hn]]
    cbv
    refine hB k ((hO,hC,p'),Z',R') _ _ (Nat.lt_succ_self k) (by rw [h1,h2];exact h0) ⟨hh,hf,by rw [h1,oZ];exact k3,by rw [h2,o6];exact k4⟩ (Wk.weak (wkG [some 0,some 1,some 2,some 3] zr2 ⟨⟨_,_,rfl,rfl,rfl,rfl,.inr ⟨zr7,trivial⟩⟩,⟨_,_,rfl,rfl,rfl,rfl,.inl ⟨rfl,hN⟩⟩,⟨_,_,rfl,rfl,rfl,rfl,.inl ⟨rfl,hL⟩⟩,⟨_,_,rfl,rfl,rfl,rfl,.inr ⟨zr7,trivial⟩⟩,trivial⟩ (by decide) aq))
theorem m8(xs:List ag)(gap inner:Int)(hl:xs.length<=1048576):du prog 130 [.c (.view (vw ag.c xs)),ai gap,ai inner] fun res ha=>res= .o 0/\ha=[⟨3,1,vw aj (flx xs gap inner)⟩]:=by
 have cf:=pI xs gap inner hl
 obtain⟨V,hV⟩:=nmE (vw ag.c xs)
 obtain⟨D,hD⟩:=nmE (vw aj (flx xs gap inner))
 have pD:=pmV hD
 rw [<-hV,<-hD]at cf
 rw [<-hV,<-hD]
 refine ae (aP f130) aC func130 fun g F hg hF=> ?_
 cbv
 refine p9 hg (ee cf rfl fun res ha hq=> ?_)
 obtain⟨p,gr,fr,rfl,rfl⟩:=hq
 obtain⟨R,hR⟩:=nmE (vw n4 fr)
 have pR:=pmV hR
 rw [<-hR]
 refine⟨[.rw ⟨3,1,D⟩,.rw ⟨4,1,R⟩],by simp only [zqA,List.map_nil,fF (ab:=⟨3,1,D⟩) pD,fF (ab:=⟨4,1,R⟩) pR];rfl,?_⟩
 cbv
 exact eb hF rfl pD
theorem AK(xs:List ag)(gap inner:Int):(flx xs gap inner).length=xs.length:=by
 unfold flx
 split
 ·rename_i h
  simp only [zqs]at h
  have hX:gd (Fx.of xs gap inner).xs=true:=h.1.1
  have hb:=(dX hX).2
  obtain⟨r,hr1,ha⟩:=Fx.run_some hX 13 (xs.map hyp) (xs.map (na (AA xs gap inner))) (by simp;rfl) (by have:=jF (xs.map (na (AA xs gap inner))) 0;rw [zql]at this;have e:(Fx.of xs gap inner).xs.length=xs.length:=rfl;omega)
  rw [hr1]
  simpa using ha
 ·simp
def xo(h:AH):List AC->List AC->Prop
 | [],[]=>True
 |c::cs,d::ds=>lq h c d/\xo h cs ds
 |_,_=>False
theorem xo.at_{h:AH}:∀(cs ds:List AC),xo h cs ds->cs.length=ds.length/\∀(j:Nat)(c d:AC),cs[j]? =some c->ds[j]? =some d->lq h c d
 | [],[],_=>⟨rfl,fun j c d hc=>by simp at hc⟩
 |c::cs,d::ds,hr=>by
  obtain⟨h1,h2⟩:=xo.at_ cs ds hr.2
  refine⟨by simp [h1],fun j x y hx hy=> ?_⟩
  cases j with
  |zero=>simp only [zqw,zqy]at hx hy;subst hx hy;exact hr.1
  |succ j=>exact h2 j x y (by simpa using hx) (by simpa using hy)
 | [],_::_,hr=>hr.elim
 |_::_,[],hr=>hr.elim
theorem u7(a:Int):wrap64 (wrap64 a)=wrap64 a:=by unfold wrap64;omega
theorem iQ(a b:Int):(a !=b)=decide (¬a=b):=by by_cases h:a=b<;>simp [h]
def elZ(l:List Int)(i:Int):Int:=if 0<=i then l[i.toNat]?.getD 0 else 0
def evm(many:Int):Nat:=if many<=64 then many.toNat else 0
def evn(n many:Int):List Int:=shr n (List.replicate (evm many) 1)
theorem Af(m:Nat)(h:m<=64):yM (List.replicate m 1)=true:=by
 simp only [yM,zqs,zqp,zqf,List.length_replicate]
 exact⟨fun w hw=>by rw [List.eq_of_mem_replicate hw];decide,by omega⟩
theorem tD(many:Int):evm many<=64:=by unfold evm;split<;>omega
theorem oD{many:Int}(h0:0<=many)(h1:many<=64):(evm many:Int)=many:=by unfold evm;rw [if_pos h1];omega
theorem jH(n many:Int):(evn n many).length=evm many:=by rw [evn,shr,if_pos (Af _ (tD many)),rD,List.length_replicate]
variable {l:List Int}
theorem tF{i:Nat}{x:Int}(h:l[i]? =some x):elZ l (i:Int)=x:=by
 unfold elZ;rw [if_pos (by omega),Int.toNat_natCast,h];rfl
theorem AQ{i:Int}(h:i<0\/(l.length:Int)<=i):elZ l i=0:=by
 unfold elZ
 split
 ·rw [zqz (by omega)];rfl
 ·rfl
theorem tE{i:Int}(h0:0<=i)(h1:i<(l.length:Int)):l[i.toNat]? =some (elZ l i):=by
 unfold elZ
 rw [if_pos h0,zqc (by omega)];rfl
theorem AR(i:Int):elZ [] i=0:=by unfold elZ;split<;>rfl
def led(free many js:Int):Int:=
 if rng many 1 12=false then 0 else if js=2 then free else if js=3 then fdv free 2
 else if js=5 then(if free<0 then fdv free 2 else elZ (evn free (2*many)) 0)
 else if js=6 then(if free<0 then fdv free 2 else elZ (evn free (many+1)) 0)else 0
def btw(free many js i:Int):Int:=
 if free<0 then 0 else if js=4 then elZ (evn free (many-1)) i
 else if js=5 then wrap64 (elZ (evn free (2*many)) (2*i+1)+elZ (evn free (2*many)) (2*i+2))
 else if js=6 then elZ (evn free (many+1)) (i+1)else 0
def auN:List ag->Int
 | []=>0
 |x::r=>((if x.autoBefore then 1 else 0)+(if x.autoBehind then 1 else 0))+auN r
theorem zF:∀xs:List ag,0<=auN xs/\auN xs<=2*xs.length
 | []=>by simp [auN]
 |x::r=>by
  obtain⟨h1,h2⟩:=zF r
  simp only [auN,zqx]
  split<;>split<;>omega
def auT(ex:List Int)(k:Int)(b:Bool):Int:=if b then elZ ex k else 0
def auK(k:Int)(b:Bool):Int:=if b then k+1 else k
def DH(ex:List Int)(a k:Int)(x:ag):Int:=wrap64 (a+wrap64 (x.before+auT ex k x.autoBefore))
def DG(ex:List Int)(sp:Int->Int)(gap many i a k:Int)(x:ag)(s:Int):Int:=
 let q:=wrap64 (DH ex a k x+wrap64 (wrap64 (s+x.behind)+auT ex (auK k x.autoBefore) x.autoBehind))
 if i+1<many then wrap64 (wrap64 (q+gap)+sp i)else q
def yG(ex:List Int)(sp:Int->Int)(gap many:Int):Int->Int->Int->List (ag×Int)->List Int
 |_,_,_,[]=>[]
 |i,a,k,(x,s)::r=>DH ex a k x::yG ex sp gap many (i+1) (DG ex sp gap many i a k x s) (auK (auK k x.autoBefore) x.autoBehind) r
def al5(xs:List ag)(ss:List Int)(gap inner:Int):Bool:=ss.all (fun s=>rng s 0 1048576)&&(gd xs&&(decide (ss.length=xs.length)&&(rng gap 0 1048576&&rng inner 0 1048576)))
def alF(xs:List ag)(ss:List Int)(gap inner:Int):Int:=sg (wrap64 (inner-wrap64 (jd xs ss gap)))
def alE(xs:List ag)(ss:List Int)(gap inner:Int):List Int:=if 0<auN xs/\0<alF xs ss gap inner then evn (alF xs ss gap inner) (auN xs)else []
def alS(xs:List ag)(free js i:Int):Int:=if auN xs=0 then btw free (xs.length:Int) js i else 0
def al0(xs:List ag)(free js:Int):Int:=if auN xs=0 then led free (xs.length:Int) js else 0
def alg(xs:List ag)(ss:List Int)(gap inner js:Int):List Int:=
 if al5 xs ss gap inner=false then []else yG (alE xs ss gap inner) (alS xs (alF xs ss gap inner) js) gap (xs.length:Int) 0 (al0 xs (alF xs ss gap inner) js) 0 (xs.zip ss)
def Bp:Int->List Int->Int
 |a,[]=>a
 |a,c::r=>Bp (wrap64 (a+sg c)) r
def crt(cs:List Int)(gap:Int):Int:=if cs=[]then 0 else wrap64 (Bp 0 cs+wrap64 (gap*((cs.length:Int)-1)))
def acr(cs:List Int)(gap inner:Int):Bool:=cs.all (fun c=>rng c 0 1048576)&&(decide ((cs.length:Int)<=12)&&(rng gap 0 1048576&&rng inner 0 1048576))
def xF(cs:List Int)(gap inner ct:Int):List Int:=if acr cs gap inner=true/\ct=1/\0<wrap64 (inner-crt cs gap)then(cs.zip (evn (wrap64 (inner-crt cs gap)) (cs.length:Int))).map (fun p=>wrap64 (p.1+p.2))else cs
def plG(sp:Int->Int)(gap:Int):Int->Int->List Int->List Int
 |_,_,[]=>[]
 |i,a,c::r=>a::plG sp gap (i+1) (wrap64 (a+wrap64 (wrap64 (c+gap)+sp i))) r
def pll(cs:List Int)(gap inner ct:Int):List Int:=
 if acr cs gap inner=false then []else plG (btw (sg (wrap64 (inner-crt cs gap))) (cs.length:Int) (yf ct)) gap 0 (led (sg (wrap64 (inner-crt cs gap))) (cs.length:Int) (yf ct)) cs
def C1:Int->Bool->List ao->Int
 |m,_,[]=>m
 |m,f,x::r=>if onB x=true/\(f=false\/m<wrap64 (x.before+x.base))then C1 (wrap64 (x.before+x.base)) true r else C1 m f r
def bas(xs:List ao):Int:=C1 0 false xs
def mx2(a b:Int):Int:=if a<b then b else a
def DY(b:Int)(x:ao):Int:=if onB x then wrap64 (wrap64 (wrap64 (b+x.size)+x.behind)-x.base)else wrap64 (wrap64 (x.size+x.before)+x.behind)
def CT(b:Int):Int->List ao->Int
 |m,[]=>m
 |m,x::r=>CT b (mx2 m (DY b x)) r
def cro(xs:List ao):Int:=if(decide ((xs.length:Int)<=12)&&xs.all vy)=false then 0 else cl (CT (bas xs) 0 xs)
def lit(xs:List ag)(ln:List Int):List ag:=ln.filterMap fun i=>if 0<=i then xs[i.toNat]? else none
def lou(xs:List ag)(gap:Int)(ln:List Int):Int:=wrap64 (jd (lit xs ln) ((lit xs ln).map hyp) gap)
def lnS(xs:List ag)(gap room:Int)(one:Bool)(out:List (List Int))(i:Int):List (List Int):=
 match out.getLast? with
 |some ln=>if one=true\/lou xs gap (ln++[i])<=room then out.dropLast++[ln++[i]]else out++[[i]]
 |none=>[[i]]
def lnG(xs:List ag)(gap room:Int)(one:Bool):List (List Int)->Int->List ag->List (List Int)
 |out,_,[]=>out
 |out,i,_::r=>lnG xs gap room one (lnS xs gap room one out i) (i+1) r
def lns(xs:List ag)(gap room:Int)(wr:Bool):List (List Int):=lnG xs gap room (!wr||(decide (room<0)|| !gd xs)) [] 0 xs
def lng(xs:List ag)(gap room:Int)(wr:Bool):Int:=(lns xs gap room wr).foldl (fun m l=>mx2 m (lou xs gap l)) 0
def lsz(xs:List ag)(gap room:Int)(wr:Bool)(inner:Int):List Int:=(lns xs gap room wr).flatMap fun l=>flx (lit xs l) gap inner
def ixs:Int->Nat->List Int
 |_,0=>[]
 |i,n+1=>i::ixs (i+1) n
theorem dl:∀(n:Nat)(i:Int),(ixs i n).length=n
 |0,_=>rfl
 |n+1,i=>by simp [ixs,dl n]
theorem rU:∀(n:Nat)(i j:Int),j∈ixs i n↔i<=j/\j<i+n
 |0,i,j=>by simp only [ixs,List.not_mem_nil,false_iff];omega
 |n+1,i,j=>by simp only [ixs,List.mem_cons,rU n];omega
theorem jB:∀(a b:Nat)(i:Int),ixs i (a+b)=ixs i a++ixs (i+a) b
 |0,b,i=>by simp [ixs]
 |a+1,b,i=>by
  rw [show a+1+b=a+b+1 by omega]
  simp only [ixs,List.cons_append]
  rw [jB a b (i+1),show i+1+(a:Int)=i+((a+1:Nat):Int) by omega]
theorem s4(xs:List ag)(gap room:Int)(one:Bool)(out:List (List Int))(i:Int):(lnS xs gap room one out i).flatten=out.flatten++[i]/\((∀l∈out,l≠[])->∀l∈lnS xs gap room one out i,l≠[]):=by
 unfold lnS
 rcases List.eq_nil_or_concat out with rfl|⟨o,y,rfl⟩
 ·simp
 ·rw [List.concat_eq_append,List.getLast?_append,List.getLast?_singleton]
  simp only [Option.some_or]
  split
  ·rw [List.dropLast_concat]
   refine⟨by simp,fun h l hl=> ?_⟩
   rcases List.mem_append.1 hl with h1|h1
   ·exact h l (by simp [h1])
   ·rw [List.mem_singleton.1 h1];simp
  ·refine⟨by simp,fun h l hl=> ?_⟩
   rcases List.mem_append.1 hl with h1|h1
   ·exact h l h1
   ·rw [List.mem_singleton.1 h1];simp
theorem pv(xs:List ag)(gap room:Int)(one:Bool):∀(r:List ag)(out:List (List Int))(i:Int),(lnG xs gap room one out i r).flatten=out.flatten++ixs i r.length/\((∀l∈out,l≠[])->∀l∈lnG xs gap room one out i r,l≠[])
 | [],out,i=>by simp [lnG,ixs]
 |x::r,out,i=>by
  obtain⟨h1,h2⟩:=s4 xs gap room one out i
  obtain⟨h3,h4⟩:=pv xs gap room one r (lnS xs gap room one out i) (i+1)
  refine⟨?_,fun h=>h4 (h2 h)⟩
  simp only [lnG,zqx,ixs]
  rw [h3,h1];simp
theorem i7(xs:List ag)(gap room:Int)(wr:Bool):(lns xs gap room wr).flatten=ixs 0 xs.length:=by
 have:=(pv xs gap room (!wr||(decide (room<0)|| !gd xs)) xs [] 0).1
 simpa [lns]using this
theorem Ci(xs:List ag)(gap room:Int)(wr:Bool):∀l∈lns xs gap room wr,l≠[]:=(pv xs gap room _ xs [] 0).2 (by simp)
variable {xs:List ag}{gap room:Int}
theorem wn{wr:Bool}(hl:l∈lns xs gap room wr){i:Int}(hi:i∈l):0<=i/\i<(xs.length:Int):=by
 have:i∈(lns xs gap room wr).flatten:=List.mem_flatten.2 ⟨l,hl,hi⟩
 rw [i7,rU]at this
 omega
theorem jG:∀(ls:List (List Int)),(∀l∈ls,l≠[])->ls.length<=ls.flatten.length
 | [],_=>by simp
 |l::ls,h=>by
  have h1:=jG ls (fun x hx=>h x (List.mem_cons_of_mem _ hx))
  have h2:0<l.length:=List.length_pos_iff.2 (h l (List.mem_cons_self ..))
  simp only [List.flatten_cons,zqe,zqx]
  omega
theorem pu(xs:List ag)(gap room:Int)(wr:Bool):(lns xs gap room wr).length<=xs.length:=by
 have:=jG _ (Ci xs gap room wr)
 rwa [i7,dl]at this
theorem mR{ls:List (List Int)}(hl:l∈ls):l.length<=ls.flatten.length:=by
 induction ls with
 |nil=>simp at hl
 |cons a ls ih=>
  simp only [List.flatten_cons,zqe]
  rcases List.mem_cons.1 hl with rfl|h
  ·omega
  ·have:=ih h;omega
theorem pt{wr:Bool}(hl:l∈lns xs gap room wr):l.length<=xs.length:=by
 have:=mR hl
 rwa [i7,dl]at this
theorem wo{xs:List ag}:∀{ln:List Int},(∀i∈ln,0<=i/\i<(xs.length:Int))->(lit xs ln).length=ln.length
 | [],_=>rfl
 |i::ln,h=>by
  have h1:=h i (List.mem_cons_self ..)
  have:=wo (ln:=ln) fun j hj=>h j (List.mem_cons_of_mem _ hj)
  unfold lit at this⊢
  rw [List.filterMap_cons,if_pos h1.1,zqc (by omega)]
  simp [this]
theorem s6{ln:List Int}:(lit xs ln).length<=ln.length:=by unfold lit;exact List.length_filterMap_le _ _
theorem wm(xs:List ag)(gap room:Int)(wr:Bool)(inner:Int):(lsz xs gap room wr inner).length=xs.length:=by
 have ha:∀ls:List (List Int),(∀l∈ls,∀i∈l,0<=i/\i<(xs.length:Int))->(ls.flatMap fun l=>flx (lit xs l) gap inner).length=ls.flatten.length:=by
  intro ls
  induction ls with
  |nil=>intro _;rfl
  |cons l ls ih=>
   intro h
   simp only [List.flatMap_cons,List.flatten_cons,zqe]
   rw [ih fun x hx=>h x (List.mem_cons_of_mem _ hx),AK,wo (h l (List.mem_cons_self ..))]
 unfold lsz
 rw [ha _ fun l hl i hi=>wn hl hi,i7,dl]
theorem ta(n:Nat)(i:Int):ixs i (n+1)=ixs i n++[i+n]:=by rw [jB n 1 i];rfl
theorem ww:∀(n j:Nat)(i:Int),j<n->(ixs i n)[j]? =some (i+j)
 |0,_,_,h=>by omega
 |n+1,0,i,_=>by simp [ixs]
 |n+1,j+1,i,h=>by
  simp only [ixs,List.getElem?_cons_succ]
  rw [ww n j (i+1) (by omega)]
  congr 1;omega
structure Pl where
 s:ah
 row:Bool
 w:aI
 h:aI
 wide:aI
 high:aI
 al:aI
 ac:aI
 kids:List Int
def DQ:ah:=ah.of (fun _=>0) (fun _=>false)
def kst(ns:List af)(k:Int):ah:=match ns[(k-1).toNat]? with|some y=>y.style|none=>DQ
def plO(ns:List af)(n:Int)(w h:aI):Pl:=
 ⟨kst ns n,kO (kst ns n),w,h,inW (kst ns n) w,inH (kst ns n) h,if kO (kst ns n)then inW (kst ns n) w else inH (kst ns n) h,if kO (kst ns n)then inH (kst ns n) h else inW (kst ns n) w,flK ns n⟩
def kcX(p:Pl)(k:ah)(rtl:Bool):aI:=CP p.s k rtl p.row p.ac (knS p.wide)
def t9(p:Pl)(k:ah)(rtl main:Bool):ao:=sdB p.s k rtl main (knS p.wide)
def DF(p:Pl)(k:ah)(rtl:Bool):aI:=if p.row then Bw (uT p.al (wrap64 ((t9 p k rtl true).before+(t9 p k rtl true).behind)))else⟨1,0⟩
def C0(p:Pl)(k:ah)(rtl:Bool):Int:=
 if vx k.basis (knS p.al)≠ -1 then vx k.basis (knS p.al)else if q8 k p.row (knS p.al)≠ -1 then q8 k p.row (knS p.al)
 else if(kcX p k rtl).mode=3 then uR k p.row (kcX p k rtl).n else-1
def alB(row:Bool)(b:lQ):Int:=if row then b.wide else b.high
def Cr(p:Pl)(k:ah)(rtl:Bool)(b:Int):ag:=
 ⟨b,Aj k p.row (knS p.al),Bu k p.row (knS p.al),k.grow,k.shrink,(t9 p k rtl true).before,(t9 p k rtl true).behind,(t9 p k rtl true).autoBefore,(t9 p k rtl true).autoBehind⟩
def zm(p:Pl):Int:=nC p.s p.row
def uU(p:Pl):Int:=nC p.s (!p.row)
def wrP(p:Pl):Bool:= !decide (p.s.wrap=1)
def yi(p:Pl)(xs:List ag):Int:=tak p.al (lng xs (zm p) (nB p.al) (wrP p))
def mj(p:Pl)(xs:List ag):List Int:=lsz xs (zm p) (nB p.al) (wrP p) (yi p xs)
def mO(p:Pl)(xs:List ag):List (List Int):=lns xs (zm p) (nB p.al) (wrP p)
def Bi(p:Pl)(k:ah)(rtl:Bool)(size:Int):aI:=
 if(kcX p k rtl).mode≠3/\q8 k (!p.row) (knS p.ac)= -1/\uR k (!p.row) size≠ -1 then⟨3,nD k (!p.row) (knS p.ac) (uR k (!p.row) size)⟩else kcX p k rtl
def rP(a b:Int):Int:=if b<a then b else a
def Br(p:Pl)(k:ah)(rtl:Bool)(b:lQ):ao:=
 ⟨nD k (!p.row) (knS p.ac) (alB (!p.row) b),(t9 p k rtl false).before,(t9 p k rtl false).behind,(t9 p k rtl false).autoBefore,(t9 p k rtl false).autoBehind,xk p.s k,rP b.base (nD k (!p.row) (knS p.ac) (alB (!p.row) b))⟩
def pck(sides:List ao)(ln:List Int):List ao:=ln.filterMap fun i=>if 0<=i then sides[i.toNat]? else none
def CQ(p:Pl)(sides:List ao)(ln:List Int):Int:=if p.s.wrap=1/\p.ac.mode=3 then p.ac.n else cro (pck sides ln)
def uW(p:Pl)(lines:List (List Int))(sides:List ao):List Int:=
 if¬p.s.wrap=1/\p.ac.mode=3 then xF (lines.map (CQ p sides)) (uU p) p.ac.n p.s.content else lines.map (CQ p sides)
def xq(p:Pl)(cs:List Int):Int:=tak p.ac (crt cs (uU p))
def ctP(p:Pl):Int:=if p.s.wrap=1 then 2 else p.s.content
def Bq(p:Pl)(cs:List Int):List Int:=pll cs (uU p) (xq p cs) (ctP p)
def sdZ(sides:List ao)(i:Int):ao:=(if 0<=i then sides[i.toNat]? else none).getD ⟨0,0,0,false,false,0,0⟩
def AO(x:ao)(z:Int):ao:=⟨z,x.before,x.behind,x.autoBefore,x.autoBehind,x.align,rP x.base z⟩
def wM(p:Pl)(ns:List af)(sides:List ao)(sizes:List Int)(c i:Int):ao:=
 if zq (sdZ sides i)=true/\q8 (kst ns (elZ p.kids i)) (!p.row) (knS p.ac)= -1/\uR (kst ns (elZ p.kids i)) (!p.row) (elZ sizes i)= -1 then
  AO (sdZ sides i) (nD (kst ns (elZ p.kids i)) (!p.row) (knS p.ac) (wrap64 (c-wrap64 ((sdZ sides i).before+(sdZ sides i).behind))))
 else sdZ sides i
def rq(p:Pl)(ns:List af)(sides:List ao)(sizes:List Int)(ls:List (List Int×Int)):List ao:=ls.flatMap fun q=>q.1.map (wM p ns sides sizes q.2)
def CE(p:Pl)(rtl:Bool)(inner across:Int)(sizes:List Int)(sides:List ao)(st c lb a0 i:Int):aG:=
 let a:=Ce inner a0 (elZ sizes i) (j8 p.s rtl)
 let b:=Ce across (wrap64 (st+Ad (sdZ sides i) c lb)) (sdZ sides i).size (kx p.s rtl)
 if p.row then⟨elZ p.kids i,wrap64 (a+(lx p.s).left),wrap64 (b+(lx p.s).top),elZ sizes i,(sdZ sides i).size⟩
 else⟨elZ p.kids i,wrap64 (b+(lx p.s).left),wrap64 (a+(lx p.s).top),(sdZ sides i).size,elZ sizes i⟩
def ro(p:Pl)(rtl:Bool)(inner across:Int)(sizes:List Int)(sides:List ao)(st c lb:Int)(ps:List Int):Int->List Int->List aG
 |_,[]=>[]
 |j,i::r=>CE p rtl inner across sizes sides st c lb (elZ ps j) i::ro p rtl inner across sizes sides st c lb ps (j+1) r
def De(p:Pl)(items:List ag)(inner:Int)(sizes:List Int)(ln:List Int):List Int:=alg (lit items ln) (ln.map (elZ sizes)) (zm p) inner p.s.justify
def ux(p:Pl)(rtl:Bool)(items:List ag)(inner across:Int)(sizes:List Int)(sides:List ao)(sts:List Int):Int->List (List Int×Int)->List aG
 |_,[]=>[]
 |k,(ln,c)::r=>ro p rtl inner across sizes sides (elZ sts k) c (bas (pck sides ln)) (De p items inner sizes ln) 0 ln++ux p rtl items inner across sizes sides sts (k+1) r
def zE(p:Pl)(inner across:Int)(frames:List aG)(sides:List ao):lQ:=
 ⟨tak p.w (wrap64 ((if p.row then inner else across)+adE (lx p.s).left (lx p.s).right)),tak p.h (wrap64 ((if p.row then across else inner)+adE (lx p.s).top (lx p.s).bottom)),
  cl (wrap64 ((match frames with|f::_=>f.y| []=>0)+(sdZ sides 0).base)),frames⟩
def xp(p:Pl)(rtl:Bool)(ns:List af)(items:List ag)(sides0:List ao):lQ:=
 let lines:=mO p items
 let sizes:=mj p items
 let cs:=uW p lines sides0
 let sides:=rq p ns sides0 sizes (lines.zip cs)
 zE p (yi p items) (xq p cs) (ux p rtl items (yi p items) (xq p cs) sizes sides (Bq p cs) 0 (lines.zip cs)) sides
def ur(s:ah)(w h:aI)(q:Int×Int):lQ:=
 ⟨tak w (wrap64 (q.1+adE (lx s).left (lx s).right)),tak h (wrap64 (q.2+adE (lx s).top (lx s).bottom)),tak h (wrap64 (q.2+adE (lx s).top (lx s).bottom)),[]⟩
def wnt(rs:List aQ)(room:Int):Int×Int:=
 match rs.find? fun r=>decide (room= -1)||decide (r.room<=room)with|some r=>(cl r.wide,cl r.high)|none=>(0,0)
def nod(ns:List af)(n:Int):af:=(ns[(n-1).toNat]?).getD ⟨0,[],DQ,false,⟨[]⟩⟩
abbrev Bv:=Int->aI->aI->lQ
def uY(b:Bv)(row:Bool)(kid:Int)(al ac:aI):lQ:=if row then b kid al ac else b kid ac al
def w9(b:Bv)(p:Pl)(rtl:Bool)(ns:List af)(kid:Int):Int:=
 if C0 p (kst ns kid) rtl≠ -1 then C0 p (kst ns kid) rtl else alB p.row (uY b p.row kid (DF p (kst ns kid) rtl) (kcX p (kst ns kid) rtl))
def uu(b:Bv)(p:Pl)(rtl:Bool)(ns:List af)(kids:List Int):List ag:=kids.map fun k=>Cr p (kst ns k) rtl (w9 b p rtl ns k)
def rE(b:Bv)(p:Pl)(rtl:Bool)(ns:List af)(ks:List (Int×Int)):List ao:=ks.map fun q=>Br p (kst ns q.1) rtl (uY b p.row q.1 ⟨3,q.2⟩ (Bi p (kst ns q.1) rtl q.2))
def uV(b:Bv)(p:Pl)(rtl:Bool)(ns:List af):lQ:=
 xp p rtl ns (uu b p rtl ns p.kids) (rE b p rtl ns (p.kids.zip (mj p (uu b p rtl ns p.kids))))
def Cg(b:Bv)(ns:List af)(rtl:Bool):Bv:=fun n w h=>
 if(nod ns n).measured then ur (kst ns n) w h (wnt (nod ns n).table.rules (nB (inW (kst ns n) w)))
 else if flK ns n=[]then ur (kst ns n) w h (0,0)else uV b (plO ns n w h) rtl ns
def uX(ns:List af)(rtl:Bool):Nat->Bv
 |0=>fun _ _ _=>⟨0,0,0,[]⟩
 |f+1=>Cg (uX ns rtl f) ns rtl
end Go.Proofs.YtbnplcingdgaaaaGreat
