/- The layout without a state. -/
import Derived.Test.YtckchgoblpgpbaaGreatJ6bb
set_option linter.unusedVariables false
set_option linter.unusedSimpArgs false
set_option maxHeartbeats 3200000
namespace Go.Proofs.YtckchgoblpgpbaaGreat
open Go.ChangeShapes Go.WideShapes Go.ChangeAt Go.RowKit Am Go.Proofs.Tryz
set_option maxRecDepth 100000
def nr(gr:Bool)(x:aj):Bool:=if wgt gr x=0 then true else if gr then decide (hyp x<x.base)else decide (x.base<hyp x)
def inL(n:Int):Bool:=decide (0<=n)&&decide (n<=1048576)
def Fx.of(xs:List aj)(gap inner:Int):Fx:=⟨xs,gap,inner,AN xs gap inner⟩
def flx(xs:List aj)(gap inner:Int):List Int:=
 if(gl xs&&inL gap&&inL inner)=true then((Fx.of xs gap inner).runI 13 (xs.map hyp) (xs.map (nr (AN xs gap inner)))).getD []else xs.map hyp
def hgo(gr:Bool):Int->List Bool->List aj->List Bool
 |_,m,[]=>m
 |i,m,x::r=>hgo gr (i+1) (m.set i.toNat (nr gr x)) r
theorem zn(gr:Bool):∀(xs:List aj)(dn tl:List Bool),tl.length=xs.length->hgo gr dn.length (dn++tl) xs=dn++xs.map (nr gr)
 | [],dn,[],_=>by simp [hgo]
 | [],_,_::_,h=>by simp at h
 |_::_,_,[],h=>by simp at h
 |x::xs,dn,b::tl,h=>by
  have ih:=zn gr xs (dn++[nr gr x]) tl (by simpa using h)
  rw [hgo]
  have e1:(dn++b::tl).set ((dn.length:Int)).toNat (nr gr x)=(dn++[nr gr x])++tl:=by simp
  have e2:(dn.length:Int)+1=((dn++[nr gr x]).length:Int):=by simp
  rw [e1,e2,ih]
  simp
theorem AK(gr:Bool)(xs:List aj):hgo gr 0 (List.replicate xs.length false) xs=xs.map (nr gr):=by
 have:=zn gr xs [] (List.replicate xs.length false) (by simp)
 simpa using this
theorem B4{α:Type}(c:α->Array Value)(n:Nat)(x:α):vw c (List.replicate n x)=List.replicate n (lc (c x)):=by simp [vw]
theorem wB{es:LLA}(h:aO es=true)(t k:Nat)(s:Nat->Nat):AB.mv s ⟨t,k,es⟩=⟨t,k,es⟩:=by
 refine congrArg (AB.mk t k) ?_
 refine(List.map_congr_left fun x hx=> ?_).trans (List.map_id es)
 refine(List.map_congr_left fun c hc=> ?_).trans (List.map_id x)
 have hp:=List.all_eq_true.1 (List.all_eq_true.1 h x hx) c hc
 cases c<;>first|rfl|cases hp
theorem yp{F:List AT->EH->Prop}{eh:EH}{V z r:LLA}{gap inner p:Int}{gr:Bool}{t1 t2:Nat}{D:List Int}{fr:List Bool}
  (hF:F=jS 0 (fun res h'=>∃rows,h'=rows.map .live/\∃(p:Int)(gr:Bool)(fr:List Bool),res= .t (.agg [.view V,.J gap,.J inner,.B gr,.own 0,.own 1,.J p])/\rows=[⟨t1,1,vw ak D⟩,⟨t2,1,vw ow fr⟩]))
  (h1:nth eh 1=some (.rw ⟨t1,1,z⟩)) (h2:nth eh 2=some (.rw ⟨t2,1,r⟩)) (hz:z=vw ak D) (hr:r=vw ow fr):F [.agg [.view V,.J gap,.J inner,.B gr,.own 1,.own 2,.J p]] eh:=by
 subst hF hz hr
 exact .inl ⟨.t (.agg [.view V,.J gap,.J inner,.B gr,.own 0,.own 1,.J p]),toH [.rw ⟨t1,1,vw ak D⟩,.rw ⟨t2,1,vw ow fr⟩],[some 1,some 2],
  wkG [some 1,some 2] ⟨.inr zr7,trivial⟩ ⟨⟨_,_,dJ h1,rfl,rfl,rfl,.inl ⟨rfl,aF _ _⟩⟩,⟨_,_,dJ h2,rfl,rfl,rfl,.inl ⟨rfl,aF _ _⟩⟩,trivial⟩ (by decide) aw,_,rfl,p,gr,fr,rfl,rfl⟩
theorem rq(xs:List aj)(gap inner:Int)(hl:xs.length<=1048576):PC0 328 [.c (.view (vw aj.c xs)),ai gap,ai inner] (.t (abl (AN xs gap inner))):=by
 obtain⟨V,hV⟩:=nmE (vw aj.c xs)
 have ha:=lmV hV
 have iV:=imV hV
 have kV:=kmV (k:=9) hV fun _=>rfl
 have dV:=dmV hV
 have c1:=fF xs hl
 have c2:=dN xs (xs.map hyp) gap hl (by simpa using hl)
 obtain⟨H,hH⟩:=nmE (vw ak (xs.map hyp))
 have iH:=imV hH
 have kH:=kmV (k:=1) hH fun _=>rfl
 have dH:=dmV hH
 obtain⟨O,hO⟩:=nmE (wrap64 (ji xs (xs.map hyp) gap))
 rw [<-hV,<-hH]at c1 c2
 rw [<-hO]at c2
 rw [<-hV]
 refine ae (aM f328) aB func328 fun g F hg hF=> ?_
 cbv
 first|(refine bQ hg c1 (bK rfl) iH ?_;cbv)|(refine dS hg c1 (bK rfl) iH ?_;cbv)
 first|(refine uW hg c2 (ay (be rfl) (ay (bC (ab:=⟨_,_,H⟩) rfl kH dH) (ay (be rfl) (aP)))) rfl ?_;cbv)|(refine oZ hg c2 (ay (be rfl) (ay (bC (ab:=⟨_,_,H⟩) rfl kH dH) (ay (be rfl) (aP)))) rfl ?_;cbv)
 exact aY hF (by rw [bF hg,AN,hO])
theorem qf(xs:List aj)(gap inner:Int)(hl:xs.length<=1048576):cj prog 311 [.c (.view (vw aj.c xs)),ai gap,ai inner] fun res hA=>∃(p:Int)(gr:Bool)(fr:List Bool),
  res= .t (.agg [.view (vw aj.c xs),.J gap,.J inner,.B gr,.own 0,.own 1,.J p])/\hA=[⟨3,1,vw ak (flx xs gap inner)⟩,⟨4,1,vw ow fr⟩]:=by
 have c1:=fF xs hl
 have c2:=gg xs hl
 have c3:=rq xs gap inner hl
 obtain⟨V,hV⟩:=nmE (vw aj.c xs)
 have hW:=lmV hV
 have iV:=imV hV
 have kV:=kmV (k:=9) hV fun _=>rfl
 have dV:=dmV hV
 obtain⟨Z,hZ⟩:=nmE (vw ak (xs.map hyp))
 have iZ:=imV hZ
 have pZ:aO Z=true:=eI iZ
 obtain⟨D,hD⟩:=nmE (flx xs gap inner)
 obtain⟨IO,hp⟩:=nmE (gl xs)
 obtain⟨G,hG⟩:=nmE (AN xs gap inner)
 rw [<-hV]at c1 c2 c3
 rw [<-hZ]at c1
 rw [<-hp]at c2
 rw [<-hG]at c3
 rw [<-hV,<-hD]
 refine ae (aM f311) aB func311 fun g F hg hF=> ?_
 cbv
 first|(refine bQ hg c1 (bK rfl) iZ ?_;cbv)|(refine dS hg c1 (bK rfl) iZ ?_;cbv)
 refine Ea hg (by decide) (by omega) ?_
 cbv
 generalize hM:g .rp (g .ln V) _=M0
 replace hM:M0=vw ow (List.replicate xs.length false):=by
  rw [<-hM,D9 hg,bO hg,hV,bg,B4]
  rfl
 have pM:=pmV hM
 have hK:=AK G xs
 obtain⟨HL,hE⟩:=nmE (xs.map (nr G))
 rw [<-hE]at hK
 repeat'(first|(refine bN hg c2 rfl (fun R0 hs=> ?_);cases R0<;>cbv))
 ·exact yp hF rfl rfl (by rw [hZ,hD,flx,if_neg (by rw [<-hp,<-hs];simp)]) hM
 (first|refine bN hg (bI _ _ _) rfl (fun I1 hd=> ?_)|refine bf hg (bI _ _ _) rfl (fun I1 hd=> ?_));cbv
 cases I1<;>cbv
 ·exact yp hF rfl rfl (by rw [hZ,hD,flx,if_neg (by rw [inL,<-hd];simp)]) hM
 (first|refine bN hg (bI _ _ _) rfl (fun I2 ho=> ?_)|refine bf hg (bI _ _ _) rfl (fun I2 ho=> ?_));cbv
 cases I2<;>cbv
 ·exact yp hF rfl rfl (by rw [hZ,hD,flx,if_neg (by rw [inL,inL,<-hd,<-ho];simp)]) hM
 have hv:(gl xs&&inL gap&&inL inner)=true:=by rw [inL,inL,<-hd,<-ho,<-hp,<-hs];rfl
 first|(refine bN hg c3 rfl (fun R hR=> ?_);cbv)|(refine bf hg c3 rfl (fun R hR=> ?_);cbv)
 obtain rfl:G=R:=hR.symm
 refine aU hg aB (by kernel_rfl) V (fun x=>lc (aj.c x)) xs hV hl (fun z(s:Int×List Bool×LLA)=>[(6,.p 0),(7,.p 3),(39,.v V),(40,.i (g .ln V)),(41,.i (z))]) (fun z(s:Int×List Bool×LLA)=>[.bx 289 7 [.N,.J 0,.J 0,.B false,.N,.N,.J 0],.rw ⟨3,1,Z⟩,.rw ⟨4,1,s.2.2⟩,.bx 289 7 [.view V,.J gap,.J inner,.B G,.own 1,.own 2,.J 0]]) (fun z(s:Int×List Bool×LLA)=>s.1=z/\s.2.2=vw ow s.2.1/\s.2.1.length=xs.length) (fun(s:Int×List Bool×LLA) rest=>hgo G s.1 s.2.1 rest) (HL) (0,_,M0) hK ⟨rfl,hM,by simp⟩ (Wk.weak (wkG [some 0,some 1,some 2,some 3] zr5 ⟨⟨_,_,rfl,rfl,rfl,rfl,.inr ⟨zr7,trivial⟩⟩,wqE rfl pZ,wqE rfl pM,⟨_,_,rfl,rfl,rfl,rfl,.inr ⟨zr7,trivial⟩⟩,trivial⟩ (by decide) aw)) (fun z s B hz h0 hi he=> ?_) (fun z s x rest B z0 z1 z2 hx hy h0 hi hc e1 hB=> ?_)
 rotate_left
 ·obtain⟨i,w,eR⟩:=s
  obtain⟨k1,k2,k3⟩:=hi
  dsimp only at k1 k2 k3 h0
  subst k1
  have hQ:aC V=(xs.length:Int):=by rw [hV,bg]
  have hk:i<aC eR:=by rw [k2,bg,k3,<-hQ];exact z1
  have hm:i.toNat<w.length:=by rw [k3];omega
  have sR:∀b b':Bool,b=b'->eR.set i.toNat [.B b]=vw ow (w.set i.toNat b'):=fun b b' h=>by rw [jp,k2,h];rfl
  rw [hgo]at h0
  obtain⟨y0,y1,y2,y3,y4,y5,y6,y7,y8⟩:=x
  obtain⟨HV,hH⟩:=nmE (nr G ⟨y0,y1,y2,y3,y4,y5,y6,y7,y8⟩)
  have ha:HV=if wgt G ⟨y0,y1,y2,y3,y4,y5,y6,y7,y8⟩=0 then true else if G then decide (hyp ⟨y0,y1,y2,y3,y4,y5,y6,y7,y8⟩<y0)else decide (y0<hyp ⟨y0,y1,y2,y3,y4,y5,y6,y7,y8⟩):=hH
  rw [<-hH]at h0
  cbv;rw [hc];cbv;refine goX hg _ z0 hy rfl ?_;cbv
  (first|refine bk hg (fW ⟨y0,y1,y2,y3,y4,y5,y6,y7,y8⟩) rfl (fun HY hI=> ?_)|refine aD hg (fW ⟨y0,y1,y2,y3,y4,y5,y6,y7,y8⟩) rfl (fun HY hI=> ?_));cbv
  (first|refine bk hg (cz ⟨y0,y1,y2,y3,y4,y5,y6,y7,y8⟩ G) rfl (fun Q0 hJ=> ?_)|refine aD hg (cz ⟨y0,y1,y2,y3,y4,y5,y6,y7,y8⟩ G) rfl (fun Q0 hJ=> ?_));cbv
  rw [<-hI,<-hJ]at ha
  have t0:g .q .eql Q0 0=decide (Q0=0):=by rw [bA hg];rfl
  by_cases hq:Q0=0
  ·rw [t0,zqu hq]
   rw [if_pos hq]at ha
   cbv
   have s1:=sR (true) HV (ha.symm)
   refine goY hg z0 hk fun j hj hu=> ?_
   cbv
   refine goN hg ⟨_,by rw [hj,k2];exact bv (zqc hm),rfl⟩ ?_
   cbv
   rw [e1]
   simp only [qI hg]
   subst hj
   exact hB ((i+1,w.set i.toNat HV,_)) _ _ ⟨h0,⟨rfl,s1,by simpa using k3⟩⟩ (Wk.weak (wkG [some 0,some 1,some 2,some 3] zr5 ⟨⟨_,_,rfl,rfl,rfl,rfl,.inr ⟨zr7,trivial⟩⟩,wqE rfl pZ,⟨_,_,rfl,rfl,rfl,rfl,.inl ⟨rfl,s1.symm▸aF _ _⟩⟩,⟨_,_,rfl,rfl,rfl,rfl,.inr ⟨zr7,trivial⟩⟩,trivial⟩ (by decide) aw))
  ·rw [t0,zqt hq]
   rw [if_neg hq]at ha
   cases hGc:G
   ·rw [hGc]at ha
    cbv
    have s1:=sR (g .q .lss y0 HY) HV (by rw [bF hg];exact ha.symm)
    refine goY hg z0 hk fun j hj hu=> ?_
    cbv
    refine goN hg ⟨_,by rw [hj,k2];exact bv (zqc hm),rfl⟩ ?_
    cbv
    rw [e1]
    simp only [qI hg]
    subst hj
    exact hB ((i+1,w.set i.toNat HV,_)) _ _ ⟨h0,⟨rfl,s1,by simpa using k3⟩⟩ (Wk.weak (wkG [some 0,some 1,some 2,some 3] zr5 ⟨⟨_,_,rfl,rfl,rfl,rfl,.inr ⟨zr7,trivial⟩⟩,wqE rfl pZ,⟨_,_,rfl,rfl,rfl,rfl,.inl ⟨rfl,s1.symm▸aF _ _⟩⟩,⟨_,_,rfl,rfl,rfl,rfl,.inr ⟨⟨rfl,rfl,rfl,(by rw [hGc];exact rfl),rfl,rfl,rfl,trivial⟩,trivial⟩⟩,trivial⟩ (by decide) aw))
   ·rw [hGc]at ha
    cbv
    cases hqq:g .q .gtr y0 HY
    ·cbv
     have s1:=sR (false) HV (by rw [ha];rw [dD hg]at hqq;exact hqq.symm)
     refine goY hg z0 hk fun j hj hu=> ?_
     cbv
     refine goN hg ⟨_,by rw [hj,k2];exact bv (zqc hm),rfl⟩ ?_
     cbv
     rw [e1]
     simp only [qI hg]
     subst hj
     exact hB ((i+1,w.set i.toNat HV,_)) _ _ ⟨h0,⟨rfl,s1,by simpa using k3⟩⟩ (Wk.weak (wkG [some 0,some 1,some 2,some 3] zr5 ⟨⟨_,_,rfl,rfl,rfl,rfl,.inr ⟨zr7,trivial⟩⟩,wqE rfl pZ,⟨_,_,rfl,rfl,rfl,rfl,.inl ⟨rfl,s1.symm▸aF _ _⟩⟩,⟨_,_,rfl,rfl,rfl,rfl,.inr ⟨⟨rfl,rfl,rfl,(by rw [hGc];exact rfl),rfl,rfl,rfl,trivial⟩,trivial⟩⟩,trivial⟩ (by decide) aw))
    ·cbv
     have s1:=sR (true) HV (by rw [ha];rw [dD hg]at hqq;exact hqq.symm)
     refine goY hg z0 hk fun j hj hu=> ?_
     cbv
     refine goN hg ⟨_,by rw [hj,k2];exact bv (zqc hm),rfl⟩ ?_
     cbv
     rw [e1]
     simp only [qI hg]
     subst hj
     exact hB ((i+1,w.set i.toNat HV,_)) _ _ ⟨h0,⟨rfl,s1,by simpa using k3⟩⟩ (Wk.weak (wkG [some 0,some 1,some 2,some 3] zr5 ⟨⟨_,_,rfl,rfl,rfl,rfl,.inr ⟨zr7,trivial⟩⟩,wqE rfl pZ,⟨_,_,rfl,rfl,rfl,rfl,.inl ⟨rfl,s1.symm▸aF _ _⟩⟩,⟨_,_,rfl,rfl,rfl,rfl,.inr ⟨⟨rfl,rfl,rfl,(by rw [hGc];exact rfl),rfl,rfl,rfl,trivial⟩,trivial⟩⟩,trivial⟩ (by decide) aw))
 ·obtain⟨i,w,eR⟩:=s
  obtain⟨k1,k2,k3⟩:=hi
  dsimp only at k1 k2 k3 h0
  rw [hgo]at h0
  obtain rfl:HL=w:=h0.symm
  have pR:=pmV k2
  obtain⟨X,hX⟩:=nmE (Fx.of xs gap inner)
  have ht:gl X.xs=true:=by
   rw [hX]
   simp only [zqs]at hv
   exact hv.1.1
  have hw:=(ei ht).2
  have hb:X.xs=xs:=by rw [hX];rfl
  obtain⟨r,hr1,hY⟩:=Fx.run_some ht 13 (xs.map hyp) HL (by rw [hb];exact k3) (by have:=jM HL 0;rw [hb]at hw;omega)
  have hP:D=r:=by rw [hD,flx,if_pos hv,<-hG,<-hE,<-hX,hr1];rfl
  cbv;rw [he];cbv
  refine Au hg aB (by kernel_rfl) (fun s:(List Int×List Bool×Int)×LLA×LLA=>[(6,.p 0),(7,.p 3)]) (fun s=>[.bx 289 7 [.N,.J 0,.J 0,.B false,.N,.N,.J 0],.rw ⟨3,1,s.2.1⟩,.rw ⟨4,1,s.2.2⟩,.bx 289 7 [.view V,.J gap,.J inner,.B G,.own 1,.own 2,.J s.1.2.2]])
   (fun s=>s.2.1=vw ak s.1.1/\s.2.2=vw ow s.1.2.1/\s.1.1.length=xs.length/\s.1.2.1.length=xs.length) (fun k s=>X.runI k s.1.1 s.1.2.1) r 13 ((xs.map hyp,HL,0),Z,eR) hr1 ⟨hZ,k2,by simp,k3⟩ (Wk.weak (wkG [some 0,some 1,some 2,some 3] zr2 ⟨⟨_,_,rfl,rfl,rfl,rfl,.inr ⟨zr7,trivial⟩⟩,wqE rfl pZ,wqE rfl pR,⟨_,_,rfl,rfl,rfl,rfl,.inr ⟨zr7,trivial⟩⟩,trivial⟩ (by decide) aw)) (fun s k B h0 hi hB=> ?_)
  obtain⟨⟨sz,fr,p⟩,eZ,eR⟩:=s
  obtain⟨k1,k2,k3,k4⟩:=hi
  dsimp only at k1 k2 k3 k4 h0
  cases k with
  |zero=>cases h0
  |succ k=>
   rw [Fx.runI]at h0
   have cp:=jl X ht sz fr (by rw [hb];exact k3) (by rw [hb];exact k4) p
   have qZ:=pmV k1
   have qR:=pmV k2
   have hS:X.gap=gap:=by rw [hX];rfl
   have hT:X.inner=inner:=by rw [hX];rfl
   have hU:X.gr=G:=by rw [hX,hG];rfl
   simp only [Fx.bx,hb,hS,hT,hU,<-hV,<-k1,<-k2]at cp
   cbv
   refine Bj hg [3,1,2] cp (by decide) (fun r hr=>by simp only [List.mem_cons,List.not_mem_nil,or_false]at hr;simp only [zqx,List.length_nil];omega) ⟨⟨_,_,rfl,rfl,rfl,rfl,.inr ⟨zr7,trivial⟩⟩,⟨_,_,rfl,rfl,rfl,rfl,.inl ⟨rfl,qZ⟩⟩,⟨_,_,rfl,rfl,rfl,rfl,.inl ⟨rfl,qR⟩⟩,trivial⟩ zr1 fun res eh hq=> ?_
   obtain⟨p',hO,hC,rfl,rfl,h1,h2⟩:=hq
   obtain⟨Z',hh⟩:=nmE (vw ak hO)
   obtain⟨R',hf⟩:=nmE (vw ow hC)
   have hN:=pmV hh
   have hL:=pmV hf
   rw [<-hh,<-hf]
   simp only [bZ,EE.mv,wB hN,wB hL]
   by_cases hn:fre 0 fr=[]
   ·rw [if_pos hn]at h0 h1 h2
    rw [show decide (fre 0 fr≠[])=false by simp [hn]]
    cbv
    subst h1 h2
    exact yp hF rfl rfl (by rw [hh,hP];cases h0;rfl) hf
   ·rw [if_neg hn]at h0 h1 h2
    rw [show decide (fre 0 fr≠[])=true by simp [hn]]
    cbv
    refine hB k ((hO,hC,p'),Z',R') _ _ (Nat.lt_succ_self k) (by rw [h1,h2];exact h0) ⟨hh,hf,by rw [h1,pu];exact k3,by rw [h2,pv];exact k4⟩ (Wk.weak (wkG [some 0,some 1,some 2,some 3] zr2 ⟨⟨_,_,rfl,rfl,rfl,rfl,.inr ⟨zr7,trivial⟩⟩,⟨_,_,rfl,rfl,rfl,rfl,.inl ⟨rfl,hN⟩⟩,⟨_,_,rfl,rfl,rfl,rfl,.inl ⟨rfl,hL⟩⟩,⟨_,_,rfl,rfl,rfl,rfl,.inr ⟨zr7,trivial⟩⟩,trivial⟩ (by decide) aw))
theorem nk(xs:List aj)(gap inner:Int)(hl:xs.length<=1048576):cj prog 288 [.c (.view (vw aj.c xs)),ai gap,ai inner] fun res ha=>res= .o 0/\ha=[⟨3,1,vw ak (flx xs gap inner)⟩]:=by
 have cf:=qf xs gap inner hl
 obtain⟨V,hV⟩:=nmE (vw aj.c xs)
 obtain⟨D,hD⟩:=nmE (vw ak (flx xs gap inner))
 have pD:=pmV hD
 rw [<-hV,<-hD]at cf
 rw [<-hV,<-hD]
 refine ae (aM f288) aB func288 fun g F hg hF=> ?_
 cbv
 refine qw hg (eD cf rfl fun res ha hq=> ?_)
 obtain⟨p,gr,fr,rfl,rfl⟩:=hq
 obtain⟨R,hR⟩:=nmE (vw ow fr)
 have pR:=pmV hR
 rw [<-hR]
 refine⟨[.rw ⟨3,1,D⟩,.rw ⟨4,1,R⟩],by simp only [zqA,List.map_nil,fN (ab:=⟨3,1,D⟩) pD,fN (ab:=⟨4,1,R⟩) pR];rfl,?_⟩
 cbv
 exact db hF rfl pD
theorem AW(xs:List aj)(gap inner:Int):(flx xs gap inner).length=xs.length:=by
 unfold flx
 split
 ·rename_i h
  simp only [zqs]at h
  have hX:gl (Fx.of xs gap inner).xs=true:=h.1.1
  have hb:=(ei hX).2
  obtain⟨r,hr1,ha⟩:=Fx.run_some hX 13 (xs.map hyp) (xs.map (nr (AN xs gap inner))) (by simp;rfl) (by have:=jM (xs.map (nr (AN xs gap inner))) 0;rw [zql]at this;have e:(Fx.of xs gap inner).xs.length=xs.length:=rfl;omega)
  rw [hr1]
  simpa using ha
 ·simp
def xn(h:AH):List AC->List AC->Prop
 | [],[]=>True
 |c::cs,d::ds=>lv h c d/\xn h cs ds
 |_,_=>False
theorem xn.at_{h:AH}:∀(cs ds:List AC),xn h cs ds->cs.length=ds.length/\∀(j:Nat)(c d:AC),cs[j]? =some c->ds[j]? =some d->lv h c d
 | [],[],_=>⟨rfl,fun j c d hc=>by simp at hc⟩
 |c::cs,d::ds,hr=>by
  obtain⟨h1,h2⟩:=xn.at_ cs ds hr.2
  refine⟨by simp [h1],fun j x y hx hy=> ?_⟩
  cases j with
  |zero=>simp only [zqw,zqy]at hx hy;subst hx hy;exact hr.1
  |succ j=>exact h2 j x y (by simpa using hx) (by simpa using hy)
 | [],_::_,hr=>hr.elim
 |_::_,[],hr=>hr.elim
theorem vm(a:Int):wrap64 (wrap64 a)=wrap64 a:=by unfold wrap64;omega
theorem iR(a b:Int):(a !=b)=decide (¬a=b):=by by_cases h:a=b<;>simp [h]
def elZ(l:List Int)(i:Int):Int:=if 0<=i then l[i.toNat]?.getD 0 else 0
def evm(many:Int):Nat:=if many<=64 then many.toNat else 0
def evn(n many:Int):List Int:=shr n (List.replicate (evm many) 1)
theorem Ak(m:Nat)(h:m<=64):yR (List.replicate m 1)=true:=by
 simp only [yR,zqs,zqp,zqf,List.length_replicate]
 exact⟨fun w hw=>by rw [List.eq_of_mem_replicate hw];decide,by omega⟩
theorem tR(many:Int):evm many<=64:=by unfold evm;split<;>omega
theorem oW{many:Int}(h0:0<=many)(h1:many<=64):(evm many:Int)=many:=by unfold evm;rw [if_pos h1];omega
theorem jO(n many:Int):(evn n many).length=evm many:=by rw [evn,shr,if_pos (Ak _ (tR many)),rY,List.length_replicate]
variable {l:List Int}
theorem tU{i:Nat}{x:Int}(h:l[i]? =some x):elZ l (i:Int)=x:=by
 unfold elZ;rw [if_pos (by omega),Int.toNat_natCast,h];rfl
theorem Bb{i:Int}(h:i<0\/(l.length:Int)<=i):elZ l i=0:=by
 unfold elZ
 split
 ·rw [zqz (by omega)];rfl
 ·rfl
theorem tS{i:Int}(h0:0<=i)(h1:i<(l.length:Int)):l[i.toNat]? =some (elZ l i):=by
 unfold elZ
 rw [if_pos h0,zqc (by omega)];rfl
theorem Bc(i:Int):elZ [] i=0:=by unfold elZ;split<;>rfl
def led(free many js:Int):Int:=
 if rng many 1 12=false then 0 else if js=2 then free else if js=3 then fdv free 2
 else if js=5 then(if free<0 then fdv free 2 else elZ (evn free (2*many)) 0)
 else if js=6 then(if free<0 then fdv free 2 else elZ (evn free (many+1)) 0)else 0
def btw(free many js i:Int):Int:=
 if free<0 then 0 else if js=4 then elZ (evn free (many-1)) i
 else if js=5 then wrap64 (elZ (evn free (2*many)) (2*i+1)+elZ (evn free (2*many)) (2*i+2))
 else if js=6 then elZ (evn free (many+1)) (i+1)else 0
def auN:List aj->Int
 | []=>0
 |x::r=>((if x.autoBefore then 1 else 0)+(if x.autoBehind then 1 else 0))+auN r
theorem zJ:∀xs:List aj,0<=auN xs/\auN xs<=2*xs.length
 | []=>by simp [auN]
 |x::r=>by
  obtain⟨h1,h2⟩:=zJ r
  simp only [auN,zqx]
  split<;>split<;>omega
def auT(ex:List Int)(k:Int)(b:Bool):Int:=if b then elZ ex k else 0
def auK(k:Int)(b:Bool):Int:=if b then k+1 else k
def DV(ex:List Int)(a k:Int)(x:aj):Int:=wrap64 (a+wrap64 (x.before+auT ex k x.autoBefore))
def DU(ex:List Int)(sp:Int->Int)(gap many i a k:Int)(x:aj)(s:Int):Int:=
 let q:=wrap64 (DV ex a k x+wrap64 (wrap64 (s+x.behind)+auT ex (auK k x.autoBefore) x.autoBehind))
 if i+1<many then wrap64 (wrap64 (q+gap)+sp i)else q
def yI(ex:List Int)(sp:Int->Int)(gap many:Int):Int->Int->Int->List (aj×Int)->List Int
 |_,_,_,[]=>[]
 |i,a,k,(x,s)::r=>DV ex a k x::yI ex sp gap many (i+1) (DU ex sp gap many i a k x s) (auK (auK k x.autoBefore) x.autoBehind) r
def al5(xs:List aj)(ss:List Int)(gap inner:Int):Bool:=ss.all (fun s=>rng s 0 1048576)&&(gl xs&&(decide (ss.length=xs.length)&&(rng gap 0 1048576&&rng inner 0 1048576)))
def alF(xs:List aj)(ss:List Int)(gap inner:Int):Int:=sg (wrap64 (inner-wrap64 (ji xs ss gap)))
def alE(xs:List aj)(ss:List Int)(gap inner:Int):List Int:=if 0<auN xs/\0<alF xs ss gap inner then evn (alF xs ss gap inner) (auN xs)else []
def alS(xs:List aj)(free js i:Int):Int:=if auN xs=0 then btw free (xs.length:Int) js i else 0
def al0(xs:List aj)(free js:Int):Int:=if auN xs=0 then led free (xs.length:Int) js else 0
def alg(xs:List aj)(ss:List Int)(gap inner js:Int):List Int:=
 if al5 xs ss gap inner=false then []else yI (alE xs ss gap inner) (alS xs (alF xs ss gap inner) js) gap (xs.length:Int) 0 (al0 xs (alF xs ss gap inner) js) 0 (xs.zip ss)
def Bx:Int->List Int->Int
 |a,[]=>a
 |a,c::r=>Bx (wrap64 (a+sg c)) r
def crt(cs:List Int)(gap:Int):Int:=if cs=[]then 0 else wrap64 (Bx 0 cs+wrap64 (gap*((cs.length:Int)-1)))
def acr(cs:List Int)(gap inner:Int):Bool:=cs.all (fun c=>rng c 0 1048576)&&(decide ((cs.length:Int)<=12)&&(rng gap 0 1048576&&rng inner 0 1048576))
def xE(cs:List Int)(gap inner ct:Int):List Int:=if acr cs gap inner=true/\ct=1/\0<wrap64 (inner-crt cs gap)then(cs.zip (evn (wrap64 (inner-crt cs gap)) (cs.length:Int))).map (fun p=>wrap64 (p.1+p.2))else cs
def plG(sp:Int->Int)(gap:Int):Int->Int->List Int->List Int
 |_,_,[]=>[]
 |i,a,c::r=>a::plG sp gap (i+1) (wrap64 (a+wrap64 (wrap64 (c+gap)+sp i))) r
def pll(cs:List Int)(gap inner ct:Int):List Int:=
 if acr cs gap inner=false then []else plG (btw (sg (wrap64 (inner-crt cs gap))) (cs.length:Int) (yi ct)) gap 0 (led (sg (wrap64 (inner-crt cs gap))) (cs.length:Int) (yi ct)) cs
def C8:Int->Bool->List av->Int
 |m,_,[]=>m
 |m,f,x::r=>if onB x=true/\(f=false\/m<wrap64 (x.before+x.base))then C8 (wrap64 (x.before+x.base)) true r else C8 m f r
def bas(xs:List av):Int:=C8 0 false xs
def mx2(a b:Int):Int:=if a<b then b else a
def Eh(b:Int)(x:av):Int:=if onB x then wrap64 (wrap64 (wrap64 (b+x.size)+x.behind)-x.base)else wrap64 (wrap64 (x.size+x.before)+x.behind)
def C1(b:Int):Int->List av->Int
 |m,[]=>m
 |m,x::r=>C1 b (mx2 m (Eh b x)) r
def cro(xs:List av):Int:=if(decide ((xs.length:Int)<=12)&&xs.all za)=false then 0 else cl (C1 (bas xs) 0 xs)
def lit(xs:List aj)(ln:List Int):List aj:=ln.filterMap fun i=>if 0<=i then xs[i.toNat]? else none
def lou(xs:List aj)(gap:Int)(ln:List Int):Int:=wrap64 (ji (lit xs ln) ((lit xs ln).map hyp) gap)
def lnS(xs:List aj)(gap room:Int)(one:Bool)(out:List (List Int))(i:Int):List (List Int):=
 match out.getLast? with
 |some ln=>if one=true\/lou xs gap (ln++[i])<=room then out.dropLast++[ln++[i]]else out++[[i]]
 |none=>[[i]]
def lnG(xs:List aj)(gap room:Int)(one:Bool):List (List Int)->Int->List aj->List (List Int)
 |out,_,[]=>out
 |out,i,_::r=>lnG xs gap room one (lnS xs gap room one out i) (i+1) r
def lns(xs:List aj)(gap room:Int)(wr:Bool):List (List Int):=lnG xs gap room (!wr||(decide (room<0)|| !gl xs)) [] 0 xs
def lng(xs:List aj)(gap room:Int)(wr:Bool):Int:=(lns xs gap room wr).foldl (fun m l=>mx2 m (lou xs gap l)) 0
def lsz(xs:List aj)(gap room:Int)(wr:Bool)(inner:Int):List Int:=(lns xs gap room wr).flatMap fun l=>flx (lit xs l) gap inner
def ixs:Int->Nat->List Int
 |_,0=>[]
 |i,n+1=>i::ixs (i+1) n
theorem dA:∀(n:Nat)(i:Int),(ixs i n).length=n
 |0,_=>rfl
 |n+1,i=>by simp [ixs,dA n]
theorem sm:∀(n:Nat)(i j:Int),j∈ixs i n↔i<=j/\j<i+n
 |0,i,j=>by simp only [ixs,List.not_mem_nil,false_iff];omega
 |n+1,i,j=>by simp only [ixs,List.mem_cons,sm n];omega
theorem jJ:∀(a b:Nat)(i:Int),ixs i (a+b)=ixs i a++ixs (i+a) b
 |0,b,i=>by simp [ixs]
 |a+1,b,i=>by
  rw [show a+1+b=a+b+1 by omega]
  simp only [ixs,List.cons_append]
  rw [jJ a b (i+1),show i+1+(a:Int)=i+((a+1:Nat):Int) by omega]
theorem tn(xs:List aj)(gap room:Int)(one:Bool)(out:List (List Int))(i:Int):(lnS xs gap room one out i).flatten=out.flatten++[i]/\((∀l∈out,l≠[])->∀l∈lnS xs gap room one out i,l≠[]):=by
 unfold lnS
 rcases List.eq_nil_or_concat out with rfl|⟨o,y,rfl⟩
 ·simp
 ·rw [List.concat_eq_append,List.getLast?_append,List.getLast?_singleton]
  simp only [Option.some_or]
  split
  ·rw [List.dropLast_concat]
   refine⟨by simp,fun h l hl=> ?_⟩
   rcases List.mem_append.1 hl with h1|h1
   ·exact h l (by simp [h1])
   ·rw [List.mem_singleton.1 h1];simp
  ·refine⟨by simp,fun h l hl=> ?_⟩
   rcases List.mem_append.1 hl with h1|h1
   ·exact h l h1
   ·rw [List.mem_singleton.1 h1];simp
theorem p8(xs:List aj)(gap room:Int)(one:Bool):∀(r:List aj)(out:List (List Int))(i:Int),(lnG xs gap room one out i r).flatten=out.flatten++ixs i r.length/\((∀l∈out,l≠[])->∀l∈lnG xs gap room one out i r,l≠[])
 | [],out,i=>by simp [lnG,ixs]
 |x::r,out,i=>by
  obtain⟨h1,h2⟩:=tn xs gap room one out i
  obtain⟨h3,h4⟩:=p8 xs gap room one r (lnS xs gap room one out i) (i+1)
  refine⟨?_,fun h=>h4 (h2 h)⟩
  simp only [lnG,zqx,ixs]
  rw [h3,h1];simp
theorem jb(xs:List aj)(gap room:Int)(wr:Bool):(lns xs gap room wr).flatten=ixs 0 xs.length:=by
 have:=(p8 xs gap room (!wr||(decide (room<0)|| !gl xs)) xs [] 0).1
 simpa [lns]using this
theorem Cv(xs:List aj)(gap room:Int)(wr:Bool):∀l∈lns xs gap room wr,l≠[]:=(p8 xs gap room _ xs [] 0).2 (by simp)
variable {xs:List aj}{gap room:Int}
theorem wE{wr:Bool}(hl:l∈lns xs gap room wr){i:Int}(hi:i∈l):0<=i/\i<(xs.length:Int):=by
 have:i∈(lns xs gap room wr).flatten:=List.mem_flatten.2 ⟨l,hl,hi⟩
 rw [jb,sm]at this
 omega
theorem jN:∀(ls:List (List Int)),(∀l∈ls,l≠[])->ls.length<=ls.flatten.length
 | [],_=>by simp
 |l::ls,h=>by
  have h1:=jN ls (fun x hx=>h x (List.mem_cons_of_mem _ hx))
  have h2:0<l.length:=List.length_pos_iff.2 (h l (List.mem_cons_self ..))
  simp only [List.flatten_cons,zqe,zqx]
  omega
theorem p7(xs:List aj)(gap room:Int)(wr:Bool):(lns xs gap room wr).length<=xs.length:=by
 have:=jN _ (Cv xs gap room wr)
 rwa [jb,dA]at this
theorem mY{ls:List (List Int)}(hl:l∈ls):l.length<=ls.flatten.length:=by
 induction ls with
 |nil=>simp at hl
 |cons a ls ih=>
  simp only [List.flatten_cons,zqe]
  rcases List.mem_cons.1 hl with rfl|h
  ·omega
  ·have:=ih h;omega
theorem p6{wr:Bool}(hl:l∈lns xs gap room wr):l.length<=xs.length:=by
 have:=mY hl
 rwa [jb,dA]at this
theorem wF{xs:List aj}:∀{ln:List Int},(∀i∈ln,0<=i/\i<(xs.length:Int))->(lit xs ln).length=ln.length
 | [],_=>rfl
 |i::ln,h=>by
  have h1:=h i (List.mem_cons_self ..)
  have:=wF (ln:=ln) fun j hj=>h j (List.mem_cons_of_mem _ hj)
  unfold lit at this⊢
  rw [List.filterMap_cons,if_pos h1.1,zqc (by omega)]
  simp [this]
theorem tt{ln:List Int}:(lit xs ln).length<=ln.length:=by unfold lit;exact List.length_filterMap_le _ _
theorem wD(xs:List aj)(gap room:Int)(wr:Bool)(inner:Int):(lsz xs gap room wr inner).length=xs.length:=by
 have ha:∀ls:List (List Int),(∀l∈ls,∀i∈l,0<=i/\i<(xs.length:Int))->(ls.flatMap fun l=>flx (lit xs l) gap inner).length=ls.flatten.length:=by
  intro ls
  induction ls with
  |nil=>intro _;rfl
  |cons l ls ih=>
   intro h
   simp only [List.flatMap_cons,List.flatten_cons,zqe]
   rw [ih fun x hx=>h x (List.mem_cons_of_mem _ hx),AW,wF (h l (List.mem_cons_self ..))]
 unfold lsz
 rw [ha _ fun l hl i hi=>wE hl hi,jb,dA]
theorem tx(n:Nat)(i:Int):ixs i (n+1)=ixs i n++[i+n]:=by rw [jJ n 1 i];rfl
theorem wK:∀(n j:Nat)(i:Int),j<n->(ixs i n)[j]? =some (i+j)
 |0,_,_,h=>by omega
 |n+1,0,i,_=>by simp [ixs]
 |n+1,j+1,i,h=>by
  simp only [ixs,List.getElem?_cons_succ]
  rw [wK n j (i+1) (by omega)]
  congr 1;omega
structure Pl where
 s:ah
 row:Bool
 w:aG
 h:aG
 wide:aG
 high:aG
 al:aG
 ac:aG
 kids:List Int
def D7:ah:=ah.of (fun _=>0) (fun _=>false)
def kst(ns:List af)(k:Int):ah:=match ns[(k-1).toNat]? with|some y=>y.style|none=>D7
def plO(ns:List af)(n:Int)(w h:aG):Pl:=
 ⟨kst ns n,kR (kst ns n),w,h,inW (kst ns n) w,inH (kst ns n) h,if kR (kst ns n)then inW (kst ns n) w else inH (kst ns n) h,if kR (kst ns n)then inH (kst ns n) h else inW (kst ns n) w,flK ns n⟩
def kcX(p:Pl)(k:ah)(rtl:Bool):aG:=Ds p.s k rtl p.row p.ac (knS p.wide)
def vW(p:Pl)(k:ah)(rtl main:Bool):av:=sdB p.s k rtl main (knS p.wide)
def DT(p:Pl)(k:ah)(rtl:Bool):aG:=if p.row then BE (uJ p.al (wrap64 ((vW p k rtl true).before+(vW p k rtl true).behind)))else⟨1,0⟩
def DS(p:Pl)(k:ah)(rtl:Bool):Int:=
 if xo k.basis (knS p.al)≠ -1 then xo k.basis (knS p.al)else if rz k p.row (knS p.al)≠ -1 then rz k p.row (knS p.al)
 else if(kcX p k rtl).mode=3 then s9 k p.row (kcX p k rtl).n else-1
def alB(row:Bool)(b:lw):Int:=if row then b.wide else b.high
def D6(p:Pl)(k:ah)(rtl:Bool)(b:Int):aj:=
 ⟨b,BD k p.row (knS p.al),Cr k p.row (knS p.al),k.grow,k.shrink,(vW p k rtl true).before,(vW p k rtl true).behind,(vW p k rtl true).autoBefore,(vW p k rtl true).autoBehind⟩
def CO(p:Pl):Int:=nN p.s p.row
def xp(p:Pl):Int:=nN p.s (!p.row)
def wrP(p:Pl):Bool:= !decide (p.s.wrap=1)
def CD(p:Pl)(xs:List aj):Int:=tak p.al (lng xs (CO p) (nY p.al) (wrP p))
def z8(p:Pl)(xs:List aj):List Int:=lsz xs (CO p) (nY p.al) (wrP p) (CD p xs)
def uG(p:Pl)(xs:List aj):List (List Int):=lns xs (CO p) (nY p.al) (wrP p)
def Ei(p:Pl)(k:ah)(rtl:Bool)(size:Int):aG:=
 if(kcX p k rtl).mode≠3/\rz k (!p.row) (knS p.ac)= -1/\s9 k (!p.row) size≠ -1 then⟨3,kF k (!p.row) (knS p.ac) (s9 k (!p.row) size)⟩else kcX p k rtl
def wG(a b:Int):Int:=if b<a then b else a
def DZ(p:Pl)(k:ah)(rtl:Bool)(b:lw):av:=
 ⟨kF k (!p.row) (knS p.ac) (alB (!p.row) b),(vW p k rtl false).before,(vW p k rtl false).behind,(vW p k rtl false).autoBefore,(vW p k rtl false).autoBehind,Bo p.s k,wG b.base (kF k (!p.row) (knS p.ac) (alB (!p.row) b))⟩
def pck(sides:List av)(ln:List Int):List av:=ln.filterMap fun i=>if 0<=i then sides[i.toNat]? else none
def Eg(p:Pl)(sides:List av)(ln:List Int):Int:=if p.s.wrap=1/\p.ac.mode=3 then p.ac.n else cro (pck sides ln)
def BM(p:Pl)(lines:List (List Int))(sides:List av):List Int:=
 if¬p.s.wrap=1/\p.ac.mode=3 then xE (lines.map (Eg p sides)) (xp p) p.ac.n p.s.content else lines.map (Eg p sides)
def Bq(p:Pl)(cs:List Int):Int:=tak p.ac (crt cs (xp p))
def ctP(p:Pl):Int:=if p.s.wrap=1 then 2 else p.s.content
def Dx(p:Pl)(cs:List Int):List Int:=pll cs (xp p) (Bq p cs) (ctP p)
def sdZ(sides:List av)(i:Int):av:=(if 0<=i then sides[i.toNat]? else none).getD ⟨0,0,0,false,false,0,0⟩
def AZ(x:av)(z:Int):av:=⟨z,x.before,x.behind,x.autoBefore,x.autoBehind,x.align,wG x.base z⟩
def yv(p:Pl)(ns:List af)(sides:List av)(sizes:List Int)(c i:Int):av:=
 if zy (sdZ sides i)=true/\rz (kst ns (elZ p.kids i)) (!p.row) (knS p.ac)= -1/\s9 (kst ns (elZ p.kids i)) (!p.row) (elZ sizes i)= -1 then
  AZ (sdZ sides i) (kF (kst ns (elZ p.kids i)) (!p.row) (knS p.ac) (wrap64 (c-wrap64 ((sdZ sides i).before+(sdZ sides i).behind))))
 else sdZ sides i
def xq(p:Pl)(ns:List af)(sides:List av)(sizes:List Int)(ls:List (List Int×Int)):List av:=ls.flatMap fun q=>q.1.map (yv p ns sides sizes q.2)
def Dm(p:Pl)(rtl:Bool)(inner across:Int)(sizes:List Int)(sides:List av)(st c lb a0 i:Int):ag:=
 let a:=Cs inner a0 (elZ sizes i) (lK p.s rtl)
 let b:=Cs across (wrap64 (st+Dh (sdZ sides i) c lb)) (sdZ sides i).size (lX p.s rtl)
 if p.row then⟨elZ p.kids i,wrap64 (a+(kz p.s).left),wrap64 (b+(kz p.s).top),elZ sizes i,(sdZ sides i).size⟩
 else⟨elZ p.kids i,wrap64 (b+(kz p.s).left),wrap64 (a+(kz p.s).top),(sdZ sides i).size,elZ sizes i⟩
def uO(p:Pl)(rtl:Bool)(inner across:Int)(sizes:List Int)(sides:List av)(st c lb:Int)(ps:List Int):Int->List Int->List ag
 |_,[]=>[]
 |j,i::r=>Dm p rtl inner across sizes sides st c lb (elZ ps j) i::uO p rtl inner across sizes sides st c lb ps (j+1) r
def DD(p:Pl)(items:List aj)(inner:Int)(sizes:List Int)(ln:List Int):List Int:=alg (lit items ln) (ln.map (elZ sizes)) (CO p) inner p.s.justify
def wQ(p:Pl)(rtl:Bool)(items:List aj)(inner across:Int)(sizes:List Int)(sides:List av)(sts:List Int):Int->List (List Int×Int)->List ag
 |_,[]=>[]
 |k,(ln,c)::r=>uO p rtl inner across sizes sides (elZ sts k) c (bas (pck sides ln)) (DD p items inner sizes ln) 0 ln++wQ p rtl items inner across sizes sides sts (k+1) r
def BN(p:Pl)(inner across:Int)(frames:List ag)(sides:List av):lw:=
 ⟨tak p.w (wrap64 ((if p.row then inner else across)+adE (kz p.s).left (kz p.s).right)),tak p.h (wrap64 ((if p.row then across else inner)+adE (kz p.s).top (kz p.s).bottom)),
  cl (wrap64 ((match frames with|f::_=>f.y| []=>0)+(sdZ sides 0).base)),frames⟩
def Eb(p:Pl)(rtl:Bool)(ns:List af)(items:List aj)(sides0:List av):lw:=
 let lines:=uG p items
 let sizes:=z8 p items
 let cs:=BM p lines sides0
 let sides:=xq p ns sides0 sizes (lines.zip cs)
 BN p (CD p items) (Bq p cs) (wQ p rtl items (CD p items) (Bq p cs) sizes sides (Dx p cs) 0 (lines.zip cs)) sides
def yc(s:ah)(w h:aG)(q:Int×Int):lw:=
 ⟨tak w (wrap64 (q.1+adE (kz s).left (kz s).right)),tak h (wrap64 (q.2+adE (kz s).top (kz s).bottom)),tak h (wrap64 (q.2+adE (kz s).top (kz s).bottom)),[]⟩
def wnt(rs:List aK)(room:Int):Int×Int:=
 match rs.find? fun r=>decide (room= -1)||decide (r.room<=room)with|some r=>(cl r.wide,cl r.high)|none=>(0,0)
def nod(ns:List af)(n:Int):af:=(ns[(n-1).toNat]?).getD ⟨0,[],D7,false,⟨[]⟩⟩
abbrev Bv:=Int->aG->aG->lw
def zK(b:Bv)(row:Bool)(kid:Int)(al ac:aG):lw:=if row then b kid al ac else b kid ac al
def Bn(b:Bv)(p:Pl)(rtl:Bool)(ns:List af)(kid:Int):Int:=
 if DS p (kst ns kid) rtl≠ -1 then DS p (kst ns kid) rtl else alB p.row (zK b p.row kid (DT p (kst ns kid) rtl) (kcX p (kst ns kid) rtl))
def zi(b:Bv)(p:Pl)(rtl:Bool)(ns:List af)(kids:List Int):List aj:=kids.map fun k=>D6 p (kst ns k) rtl (Bn b p rtl ns k)
def BC(b:Bv)(p:Pl)(rtl:Bool)(ns:List af)(ks:List (Int×Int)):List av:=ks.map fun q=>DZ p (kst ns q.1) rtl (zK b p.row q.1 ⟨3,q.2⟩ (Ei p (kst ns q.1) rtl q.2))
def DP(b:Bv)(p:Pl)(rtl:Bool)(ns:List af):lw:=
 Eb p rtl ns (zi b p rtl ns p.kids) (BC b p rtl ns (p.kids.zip (z8 p (zi b p rtl ns p.kids))))
def Cu(b:Bv)(ns:List af)(rtl:Bool):Bv:=fun n w h=>
 if(nod ns n).measured then yc (kst ns n) w h (wnt (nod ns n).table.rules (nY (inW (kst ns n) w)))
 else if flK ns n=[]then yc (kst ns n) w h (0,0)else DP b (plO ns n w h) rtl ns
def nO(ns:List af)(rtl:Bool):Nat->Bv
 |0=>fun _ _ _=>⟨0,0,0,[]⟩
 |f+1=>Cu (nO ns rtl f) ns rtl
end Go.Proofs.YtckchgoblpgpbaaGreat
