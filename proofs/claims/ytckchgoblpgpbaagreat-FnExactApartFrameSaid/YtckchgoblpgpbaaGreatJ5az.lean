/- Valid trees, as the program tells them. -/
import Derived.Test.YtckchgoblpgpbaaGreatJ5ay
set_option linter.unusedVariables false
set_option linter.unusedSimpArgs false
set_option maxHeartbeats 16000000
namespace Go.Proofs.YtckchgoblpgpbaaGreat
open Go.ChangeShapes Go.WideShapes Go.ChangeAt Go.RowKit Am Go.Proofs.Tryz
set_option maxRecDepth 100000
def oh(ns:List af)(n:Int):List Int:=match ns[(n-1).toNat]? with|some x=>x.kids|none=>[]
def gM(ns:List af)(n:Int)(k:Int):Bool:=isN ns k&&decide (upN ns k=n)
def G3(x:af):Bool:= !((x.measured&&(!DR x.table.rules||decide ((0:Int)<(x.kids.length:Int))))||(!x.measured&&decide ((0:Int)<(x.table.rules.length:Int))))
def C4(ns:List af)(n up:Int):Bool:=decide (up=0)||decide (cnt (oh ns up) n=1)
def fG(ns:List af)(n:Int)(x:af):Bool:=zP x.style&&(rng (uP ns n) 1 4&&(C4 ns n x.up&&(x.kids.all (gM ns n)&&G3 x)))
def goT(ns:List af):List af->Int->Bool
 | [],_=>true
 |x::xs,i=>fG ns (i+1) x&&goT ns xs (i+1)
def eo(ns:List af):Bool:=decide ((ns.length:Int)<=12)&&goT ns ns 0
theorem jP(ns:List af):∀(xs:List af)(k:Int),goT ns xs k=true↔∀(i:Nat)(x:af),xs[i]? =some x->fG ns (k+(i:Int)+1) x=true
 | [],k=>by simp [goT]
 |x::xs,k=>by
  simp only [goT,zqs]
  rw [jP ns xs (k+1)]
  constructor
  ·rintro⟨h1,h2⟩ i y hy
   cases i with
   |zero=>simp at hy;subst hy;simpa using h1
   |succ i=>have:=h2 i y (by simpa using hy);rw [show k+((i+1:Nat):Int)+1=k+1+(i:Int)+1 by omega];exact this
  ·intro h
   refine⟨by simpa using h 0 x rfl,fun i y hy=> ?_⟩
   have:=h (i+1) y (by simpa using hy)
   rw [show k+((i+1:Nat):Int)+1=k+1+(i:Int)+1 by omega]at this
   exact this
variable {ns:List af}
theorem zJ{z:Int}{x:af}(h0:0<=z)(hx:ns[z.toNat]? =some x)(h:fG ns (z+1) x=false):eo ns=false:=by
 cases hg:goT ns ns 0
 ·simp [eo,hg]
 ·have:=(jP ns ns 0).1 hg z.toNat x hx
  rw [show(0:Int)+((z.toNat:Nat):Int)+1=z+1 by omega,h]at this
  cases this
variable {z M:Int}
theorem xB(hM:M=(ns.length:Int))(h12:M<=12)(hz:M<=z)(h:∀(i:Nat)(x:af),i<z.toNat->ns[i]? =some x->fG ns ((i:Int)+1) x=true):eo ns=true:=by
 have hg:goT ns ns 0=true:=(jP ns ns 0).2 fun i x hx=>by
  have hi:=(List.getElem?_eq_some_iff.1 hx).1
  have:=h i x (by omega) hx
  rwa [show(0:Int)+(i:Int)+1=(i:Int)+1 by omega]
 simp only [eo,hg,Bool.and_true,zqp]
 omega
theorem xC{M:Int}(hM:M=(ns.length:Int))(h:¬M<=12):eo ns=false:=by
 simp only [eo,Bool.and_eq_false_iff,zqo]
 left;omega
variable {n:Int}
theorem Dy{x:af}(h0:n≠0)(hn:isN ns n=true)(hx:ns[(n-1).toNat]? =some x)(hd:rng (uP ns n) 1 4=true)(hu:x.up≠0):isN ns x.up=true:=by
 cases hi:isN ns x.up
 ·exfalso
  have hl:ns.length≠0:=fun h=>by
   have:=(bq hn).2.1
   have:=(bq hn).1
   omega
  obtain⟨L,hL⟩:∃L,ns.length=L+1:=⟨ns.length-1,by omega⟩
  rw [uP,hL,jV ns h0 hn,sB hx,uO ns _ _ _ hu hi]at hd
  simp [rng]at hd
 ·rfl
variable {xs:List Int}
theorem og{i:Nat}{k:Int}(h:xs[i]? =some k)(hk:gM ns n k=false):xs.all (gM ns n)=false:=by
 rw [List.all_eq_false]
 exact⟨k,zqd h,by rw [hk];decide⟩
theorem w9(hM:M=(xs.length:Int))(hz:M<=z)(h:∀(i:Nat)(v:Int),i<z.toNat->xs[i]? =some v->gM ns n v=true):xs.all (gM ns n)=true:=by
 rw [zqf]
 exact pB hM hz h
theorem qF{n:Nat}{a z:Int}(h:a=(n:Int))(hz:z<=(n:Int)):z<=a:=h▸hz
theorem Dn(hM:M=(ns.length:Int))(h0:0<=z)(h1:z<M):isN ns (z+1)=true:=by
 simp only [isN,rng,zqs,zqp];omega
theorem Gl{z:Int}{x:af}(h:ns[z.toNat]? =some x):ns[(z+1-1).toNat]? =some x:=by rw [show z+1-1=z by omega];exact h
theorem qE{α:Type}{c:α->Array Value}{xs:List α}{V:LLA}(hV:V=vw c xs):aX V=(xs.length:Int):=by rw [hV,az,aq]
theorem jB(ns:List af)(hl:ns.length<=1048576)(hs:∀y∈ns,y.small):PC0 34 [.agg [.view (vwA af.ac ns)]] (.t (abl (eo ns))):=by
 obtain⟨V,hV⟩:=nmE (vwA af.ac ns)
 have hG:aX V=(ns.length:Int):=by rw [az,hV,bC]
 have z5:0<=aX V:=by omega
 have yX:aX V<=1048576:=by omega
 have hP:∀n,isN ns n=rng n 1 (aX V):=fun n=>by rw [hG];rfl
 have cD:=fun n=>rJ ns n hl
 obtain⟨R,hR⟩:=nmE (eo ns)
 rw [<-hR]
 rw [<-hV]at cD⊢
 refine ae (aJ f34) ay func34 fun g F hg hF=> ?_
 cbv
 cases h12:g .q .gtr (g .ln V) 12
 case true=>
  rw [cu hg,bF hg,zqp]at h12
  cbv
  exact bk hF (by rw [hR,xC hG (by omega)])
 rw [cu hg,bF hg,zqo]at h12
 cbv
 refine bM hg ay (by kernel_rfl) (fun z:Int=>[(1,.p 0),(3,.i z)]) (fun _=>[.bx 28 1 [.view V]]) (fun z=>0<=z/\z<=aX V/\∀(i:Nat)(x:af),i<z.toNat->ns[i]? =some x->fG ns ((i:Int)+1) x=true) (fun z=>(aX V).toNat-z.toNat)
  0 [some 0] ⟨Int.le_refl 0,z5,fun i x hi=>by simp at hi⟩ (wkS [0] (by decide) ⟨⟨_,rfl,rfl,rfl⟩,trivial⟩ zr2) (fun z B z8 hB=> ?_)
 obtain⟨h0,h1,h2⟩:=z8
 cbv
 cases hc:g .q .lss z (g .ln V)
 ·rw [bh hg,bF hg,zqo]at hc
  cbv
  exact bk hF (by rw [hR,xB hG (by omega) (by omega) h2])
 rw [bh hg,bF hg,zqp]at hc
 cbv
 obtain⟨x,hx⟩:=oL (xs:=ns) h0 (fz hG hc)
 have hY:V[z.toNat]? =some x.ac:=by rw [hV];exact gR hx
 have z9:=hs x (zqd hx)
 have hj:fG ns (z+1) x=false->R=false:=fun h=>by rw [hR];exact zJ h0 hx h
 have y5:=Dn hG h0 hc
 have y4:=Gl hx
 obtain⟨n,hn⟩:=nmE (z+1)
 rw [<-hn]at hj y5 y4
 obtain⟨OK,yV⟩:=nmE (fG ns n x)
 have ha:=yV
 rw [fG]at ha
 rw [<-yV]at hj
 obtain⟨A,hA⟩:=nmE (zP x.style)
 obtain⟨Dp,yT⟩:=nmE (uP ns n)
 obtain⟨Bd,yR⟩:=nmE (rng Dp 1 4)
 obtain⟨C,hC⟩:=nmE (C4 ns n x.up)
 obtain⟨D,hD⟩:=nmE (x.kids.all (gM ns n))
 obtain⟨E,hE⟩:=nmE (G3 x)
 have hX:Bd=true->x.up≠0->isN ns x.up=true:=fun hb hu=>Dy (by omega) y5 y4 (by rw [<-yT,<-yR];exact hb) hu
 rw [<-hA,<-yT,<-yR,<-hC,<-hD,<-hE]at ha
 have cA:=rE x.style
 have yP:=cD n
 have cB:=bi Dp 1 4
 have cT:=rD x.table.rules
 rw [<-hA]at cA
 rw [<-yT]at yP
 rw [<-yR]at cB
 have hW:∀(i:Nat)(y:af),i<(z+1).toNat->ns[i]? =some y->OK=true->fG ns ((i:Int)+1) y=true:=fun i y hi hy hk=>by
  by_cases hr:i<z.toNat
  ·exact h2 i y hr hy
  ·obtain rfl:i=z.toNat:=by omega
   rw [hx]at hy
   cases hy
   rw [show((z.toNat:Nat):Int)+1=n by omega,<-yV];exact hk
 obtain⟨a0,a1,⟨a2,a3,a4,a5,a6,a7,a8,a9,h3,h4,h5,⟨h6,h7⟩,⟨h8,h9⟩,⟨xa,xc⟩,⟨xd,xe⟩,⟨xf,xg⟩,⟨xh,xi⟩,⟨xj,xk⟩,xl,⟨⟨xm,xn⟩,⟨xo,xp⟩,⟨xq,xr⟩,⟨xt,xu⟩,⟨xv,xw⟩,⟨xx,xy⟩⟩,⟨⟨xz,xA⟩,⟨xD,xE⟩,⟨xF,xG⟩,⟨xH,xI⟩,⟨xJ,xK⟩,⟨xL,xM⟩⟩,⟨xN,xO,xP,xQ⟩,⟨xR,xS,xT,xU⟩,xV,xW⟩,hH,⟨xX⟩⟩:=x
 obtain⟨aj,y0,-⟩:=z9
 replace cT:=cT y0
 simp only at hX hC hD hE cA cT
 replace hY:V[z.toNat]? =some [.J a0,.view (vw ak a1),.J a2,.J a3,.J a4,.J a5,.J a6,.J a7,.B a8,.B a9,.J h3,.J h4,.J h5,.J h6,.J h7,.J h8,.J h9,.J xa,.J xc,.J xd,.J xe,.J xf,.J xg,.J xh,.J xi,.J xj,.J xk,.J xl,.J xm,.J xn,.J xo,.J xp,.J xq,.J xr,.J xt,.J xu,.J xv,.J xw,.J xx,.J xy,.J xz,.J xA,.J xD,.J xE,.J xF,.J xG,.J xH,.J xI,.J xJ,.J xK,.J xL,.J xM,.J xN,.J xO,.J xP,.J xQ,.J xR,.J xS,.J xT,.J xU,.J xV,.J xW,.B hH,.view (vw aO.c xX)]:=hY
 obtain⟨TK,yW⟩:=nmE (DR xX)
 rw [<-yW]at cT
 obtain⟨he,hz⟩:=nmE (vw ak a1)
 obtain⟨hf,ho⟩:=nmE (vw aO.c xX)
 have hU:=qE hz
 have yZ:=qE ho
 have y8:0<=aX he:=by omega
 have ai:aX he<=1048576:=by omega
 rw [<-hz,<-ho]at hY
 rw [<-ho]at cT
 have e1:g .w .add .i64 z 1=n:=by rw [aN hg,aw _ (by omega),hn]
 refine goX hg _ h0 hY rfl ?_
 cbv
 (first|refine ad hg cA ?_|refine aa hg cA ?_)
 cases A
 case false=>
  cbv
  exact bk hF (hj ha).symm
 cbv
 rw [e1]
 (first|refine ad hg yP ?_|refine aa hg yP ?_)
 cbv
 (first|refine ad hg cB ?_|refine aa hg cB ?_)
 cases Bd
 case false=>
  cbv
  exact bk hF (hj (by rw [ha];rfl)).symm
 replace hX:=hX rfl
 have hd:E= !((hH&&(!TK||decide (0<aX he)))||(!hH&&decide (0<aX hf))):=by rw [hE,yW,hU,yZ];rfl
 clear hE yW
 by_cases hu:a0=0
 ·have yS:C=true:=by rw [hC,C4,hu];rfl
  have eu:g .q .neq a0 0=false:=by rw [bn hg];simpa using hu
  cbv
  rw [eu]
  cbv
  refine bM hg ay (by kernel_rfl) (fun j:Int=>[(1,.p 0),(3,.i z),(4,.p 1),(5,.i j)]) (fun _=>[.bx 28 1 [.view V],.bx 69 64 [.J a0,.view he,.J a2,.J a3,.J a4,.J a5,.J a6,.J a7,.B a8,.B a9,.J h3,.J h4,.J h5,.J h6,.J h7,.J h8,.J h9,.J xa,.J xc,.J xd,.J xe,.J xf,.J xg,.J xh,.J xi,.J xj,.J xk,.J xl,.J xm,.J xn,.J xo,.J xp,.J xq,.J xr,.J xt,.J xu,.J xv,.J xw,.J xx,.J xy,.J xz,.J xA,.J xD,.J xE,.J xF,.J xG,.J xH,.J xI,.J xJ,.J xK,.J xL,.J xM,.J xN,.J xO,.J xP,.J xQ,.J xR,.J xS,.J xT,.J xU,.J xV,.J xW,.B hH,.view hf]]) (fun j:Int=>0<=j/\j<=aX he/\∀(i:Nat)(v:Int),i<j.toNat->a1[i]? =some v->gM ns n v=true) (fun j=>(aX he).toNat-j.toNat)
   0 [some 0,some 1] ⟨Int.le_refl 0,y8,fun i v hi=>by simp at hi⟩ (wkS [0,1] (by decide) ⟨⟨_,rfl,rfl,rfl⟩,⟨_,rfl,rfl,rfl⟩,trivial⟩ zr4) (fun j B2 hL yQ=> ?_)
  obtain⟨k0,k1,k2⟩:=hL
  cbv
  cases hk:g .q .lss j (g .ln he)
  ·rw [bh hg,bF hg,zqo]at hk
   have yU:D=true:=by rw [hD];exact w9 hU (by omega) k2
   replace ha:OK=E:=by rw [ha,yS,yU];simp
   cases hH
   ·replace hd:E= !(decide (0<aX hf)):=by rw [hd];simp
    cbv
    cases ht:g .q .gtr (g .ln hf) 0
    case true=>
     rw [cu hg,bF hg,zqp]at ht
     cbv
     exact bk hF (hj (by rw [ha,hd];simpa using ht)).symm
    rw [cu hg,bF hg,zqo]at ht
    have hh:OK=true:=by rw [ha,hd];simpa using ht
    cbv
    rw [e1,hn]
    exact gg hB (z+1) [some 0] (wkS [0] (by decide) ⟨⟨_,rfl,rfl,rfl⟩,trivial⟩ zr2) ⟨by omega,by omega,fun i y hi hy=>hW i y hi hy hh⟩ (by omega)
   ·replace hd:E= !(!TK||decide (0<aX he)):=by rw [hd];simp
    cbv
    (first|refine ad hg cT ?_|refine aa hg cT ?_)
    cases TK
    case false=>
     cbv
     exact bk hF (hj (by rw [ha,hd];rfl)).symm
    cbv
    cases ht:g .q .gtr (g .ln he) 0
    case true=>
     rw [cu hg,bF hg,zqp]at ht
     cbv
     exact bk hF (hj (by rw [ha,hd];simpa using ht)).symm
    rw [cu hg,bF hg,zqo]at ht
    have hh:OK=true:=by rw [ha,hd];simpa using ht
    cbv
    rw [e1,hn]
    exact gg hB (z+1) [some 0] (wkS [0] (by decide) ⟨⟨_,rfl,rfl,rfl⟩,trivial⟩ zr2) ⟨by omega,by omega,fun i y hi hy=>hW i y hi hy hh⟩ (by omega)
  rw [bh hg,bF hg,zqp]at hk
  cbv
  obtain⟨y,hy⟩:=oL (xs:=a1) k0 (fz hU hk)
  have hT:he[j.toNat]? =some (lc (ak y)):=by rw [hz];exact bf hy
  have ci:=fC V y
  rw [<-hP y]at ci
  refine goX hg _ k0 hT rfl ?_
  cbv
  cases hik:isN ns y
  ·rw [hik]at ci
   have hI:D=false:=by rw [hD];exact og hy (by rw [gM,hik];rfl)
   (first|refine ad hg ci ?_|refine aa hg ci ?_)
   cbv
   exact bk hF (hj (by rw [ha,hI];simp)).symm
  rw [hik]at ci
  (first|refine ad hg ci ?_|refine aa hg ci ?_)
  obtain⟨i1,i2,x,hQ⟩:=bq hik
  have hr:y<=1048576:=Int.le_trans (qF hG i2) yX
  have hw:V[(y-1).toNat]? =some x.ac:=by rw [hV];exact gR hQ
  have hm:=sB hQ
  obtain⟨c0,c1,⟨c2,c3,c4,c5,c6,c7,c8,c9,xY,xZ,x0,⟨x1,x2⟩,⟨x3,x4⟩,⟨x5,x6⟩,⟨x7,x8⟩,⟨x9,ya⟩,⟨yb,yc⟩,⟨yd,ye⟩,yf,⟨⟨yg,yh⟩,⟨yi,yj⟩,⟨yk,yl⟩,⟨ym,yn⟩,⟨yo,yp⟩,⟨yq,yr⟩⟩,⟨⟨ys,yt⟩,⟨yu,yv⟩,⟨yw,yx⟩,⟨yy,yz⟩,⟨yA,yB⟩,⟨yC,yD⟩⟩,⟨yE,yF,yG,yH⟩,⟨yI,yJ,yK,yL⟩,yM,yN⟩,yO,⟨hM⟩⟩:=x
  simp only at hm
  replace hw:V[(y-1).toNat]? =some [.J c0,.view (vw ak c1),.J c2,.J c3,.J c4,.J c5,.J c6,.J c7,.B c8,.B c9,.J xY,.J xZ,.J x0,.J x1,.J x2,.J x3,.J x4,.J x5,.J x6,.J x7,.J x8,.J x9,.J ya,.J yb,.J yc,.J yd,.J ye,.J yf,.J yg,.J yh,.J yi,.J yj,.J yk,.J yl,.J ym,.J yn,.J yo,.J yp,.J yq,.J yr,.J ys,.J yt,.J yu,.J yv,.J yw,.J yx,.J yy,.J yz,.J yA,.J yB,.J yC,.J yD,.J yE,.J yF,.J yG,.J yH,.J yI,.J yJ,.J yK,.J yL,.J yM,.J yN,.B yO,.view (vw aO.c hM)]:=hw
  obtain⟨za,hJ⟩:=nmE (vw ak c1)
  obtain⟨hZ,hp⟩:=nmE (vw aO.c hM)
  rw [<-hJ,<-hp]at hw
  cbv
  refine goX hg _ k0 hT rfl ?_
  cbv
  (first|refine ad hg (de V y i1 hr hw) ?_|refine aa hg (de V y i1 hr hw) ?_)
  cbv
  rw [e1]
  cases hq:g .q .neq c0 n
  case true=>
   rw [bn hg,bne_iff_ne]at hq
   have hI:D=false:=by rw [hD];exact og hy (by rw [gM,hik,hm];simpa using hq)
   cbv
   exact bk hF (hj (by rw [ha,hI];simp)).symm
  rw [bn hg,zqq]at hq
  have hK:gM ns n y=true:=by rw [gM,hik,hm];simpa using hq
  cbv
  have e3:g .w .add .i64 j 1=j+1:=by rw [aN hg,aw _ (by omega)]
  rw [e3]
  exact gg yQ (j+1) [some 0,some 1] (wkS [0,1] (by decide) ⟨⟨_,rfl,rfl,rfl⟩,⟨_,rfl,rfl,rfl⟩,trivial⟩ zr4) ⟨by omega,by omega,fun i v hi hv=>by
   by_cases hr:i<j.toNat
   ·exact k2 i v hr hv
   ·obtain rfl:i=j.toNat:=by omega
    rw [hy]at hv
    cases hv
    exact hK⟩ (by omega)
 ·have eu:g .q .neq a0 0=true:=by rw [bn hg];simpa using hu
  have z6:=hX hu
  obtain⟨u1,u2,xb,yY⟩:=bq z6
  have y7:a0<=1048576:=Int.le_trans (qF hG u2) yX
  have hS:V[(a0-1).toNat]? =some xb.ac:=by rw [hV];exact gR yY
  have y6:oh ns a0=xb.kids:=by unfold oh;rw [yY]
  have z7:=(hs xb (zqd yY))
  obtain⟨b0,b1,⟨b2,b3,b4,b5,b6,b7,b8,b9,zb,zc,zd,⟨ze,zf⟩,⟨zg,zh⟩,⟨zi,zj⟩,⟨zk,zl⟩,⟨zm,zn⟩,⟨zo,zp⟩,⟨zq,zr⟩,zs,⟨⟨zt,zu⟩,⟨zv,zw⟩,⟨zx,zy⟩,⟨zz,zA⟩,⟨zB,zC⟩,⟨zD,zE⟩⟩,⟨⟨zF,zG⟩,⟨zH,zI⟩,⟨zK,zL⟩,⟨zM,zN⟩,⟨zO,zQ⟩,⟨zR,zS⟩⟩,⟨zT,zU,zV,zW⟩,⟨zX,zY,zZ,z0⟩,z1,z2⟩,z3,⟨y1⟩⟩:=xb
  obtain⟨ab,ag,-⟩:=z7
  simp only at y6
  replace hS:V[(a0-1).toNat]? =some [.J b0,.view (vw ak b1),.J b2,.J b3,.J b4,.J b5,.J b6,.J b7,.B b8,.B b9,.J zb,.J zc,.J zd,.J ze,.J zf,.J zg,.J zh,.J zi,.J zj,.J zk,.J zl,.J zm,.J zn,.J zo,.J zp,.J zq,.J zr,.J zs,.J zt,.J zu,.J zv,.J zw,.J zx,.J zy,.J zz,.J zA,.J zB,.J zC,.J zD,.J zE,.J zF,.J zG,.J zH,.J zI,.J zK,.J zL,.J zM,.J zN,.J zO,.J zQ,.J zR,.J zS,.J zT,.J zU,.J zV,.J zW,.J zX,.J zY,.J zZ,.J z0,.J z1,.J z2,.B z3,.view (vw aO.c y1)]:=hS
  have cH:=jz b1 n ab
  obtain⟨Cn,y3⟩:=nmE (cnt b1 n)
  have y2:C=decide (Cn=1):=by rw [hC,C4,y6,y3];simp [hu]
  rw [<-y3]at cH
  obtain⟨ah,hN⟩:=nmE (vw ak b1)
  obtain⟨y9,hO⟩:=nmE (vw aO.c y1)
  rw [<-hN,<-hO]at hS
  rw [<-hN]at cH
  cbv
  rw [eu]
  cbv
  (first|refine ad hg (de V a0 u1 y7 hS) ?_|refine aa hg (de V a0 u1 y7 hS) ?_)
  cbv
  rw [e1]
  (first|refine ad hg cH ?_|refine aa hg cH ?_)
  cbv
  cases hcn:g .q .neq Cn 1
  case true=>
   rw [bn hg,bne_iff_ne]at hcn
   have z4:C=false:=by rw [y2];simpa using hcn
   cbv
   exact bk hF (hj (by rw [ha,z4];simp)).symm
  rw [bn hg,zqq]at hcn
  have yS:C=true:=by rw [y2,hcn];rfl
  cbv
  refine bM hg ay (by kernel_rfl) (fun j:Int=>[(1,.p 0),(3,.i z),(4,.p 1),(5,.i j)]) (fun _=>[.bx 28 1 [.view V],.bx 69 64 [.J a0,.view he,.J a2,.J a3,.J a4,.J a5,.J a6,.J a7,.B a8,.B a9,.J h3,.J h4,.J h5,.J h6,.J h7,.J h8,.J h9,.J xa,.J xc,.J xd,.J xe,.J xf,.J xg,.J xh,.J xi,.J xj,.J xk,.J xl,.J xm,.J xn,.J xo,.J xp,.J xq,.J xr,.J xt,.J xu,.J xv,.J xw,.J xx,.J xy,.J xz,.J xA,.J xD,.J xE,.J xF,.J xG,.J xH,.J xI,.J xJ,.J xK,.J xL,.J xM,.J xN,.J xO,.J xP,.J xQ,.J xR,.J xS,.J xT,.J xU,.J xV,.J xW,.B hH,.view hf]]) (fun j:Int=>0<=j/\j<=aX he/\∀(i:Nat)(v:Int),i<j.toNat->a1[i]? =some v->gM ns n v=true) (fun j=>(aX he).toNat-j.toNat)
   0 [some 0,some 1] ⟨Int.le_refl 0,y8,fun i v hi=>by simp at hi⟩ (wkS [0,1] (by decide) ⟨⟨_,rfl,rfl,rfl⟩,⟨_,rfl,rfl,rfl⟩,trivial⟩ zr4) (fun j B2 hL yQ=> ?_)
  obtain⟨k0,k1,k2⟩:=hL
  cbv
  cases hk:g .q .lss j (g .ln he)
  ·rw [bh hg,bF hg,zqo]at hk
   have yU:D=true:=by rw [hD];exact w9 hU (by omega) k2
   replace ha:OK=E:=by rw [ha,yS,yU];simp
   cases hH
   ·replace hd:E= !(decide (0<aX hf)):=by rw [hd];simp
    cbv
    cases ht:g .q .gtr (g .ln hf) 0
    case true=>
     rw [cu hg,bF hg,zqp]at ht
     cbv
     exact bk hF (hj (by rw [ha,hd];simpa using ht)).symm
    rw [cu hg,bF hg,zqo]at ht
    have hh:OK=true:=by rw [ha,hd];simpa using ht
    cbv
    rw [e1,hn]
    exact gg hB (z+1) [some 0] (wkS [0] (by decide) ⟨⟨_,rfl,rfl,rfl⟩,trivial⟩ zr2) ⟨by omega,by omega,fun i y hi hy=>hW i y hi hy hh⟩ (by omega)
   ·replace hd:E= !(!TK||decide (0<aX he)):=by rw [hd];simp
    cbv
    (first|refine ad hg cT ?_|refine aa hg cT ?_)
    cases TK
    case false=>
     cbv
     exact bk hF (hj (by rw [ha,hd];rfl)).symm
    cbv
    cases ht:g .q .gtr (g .ln he) 0
    case true=>
     rw [cu hg,bF hg,zqp]at ht
     cbv
     exact bk hF (hj (by rw [ha,hd];simpa using ht)).symm
    rw [cu hg,bF hg,zqo]at ht
    have hh:OK=true:=by rw [ha,hd];simpa using ht
    cbv
    rw [e1,hn]
    exact gg hB (z+1) [some 0] (wkS [0] (by decide) ⟨⟨_,rfl,rfl,rfl⟩,trivial⟩ zr2) ⟨by omega,by omega,fun i y hi hy=>hW i y hi hy hh⟩ (by omega)
  rw [bh hg,bF hg,zqp]at hk
  cbv
  obtain⟨y,hy⟩:=oL (xs:=a1) k0 (fz hU hk)
  have hT:he[j.toNat]? =some (lc (ak y)):=by rw [hz];exact bf hy
  have ci:=fC V y
  rw [<-hP y]at ci
  refine goX hg _ k0 hT rfl ?_
  cbv
  cases hik:isN ns y
  ·rw [hik]at ci
   have hI:D=false:=by rw [hD];exact og hy (by rw [gM,hik];rfl)
   (first|refine ad hg ci ?_|refine aa hg ci ?_)
   cbv
   exact bk hF (hj (by rw [ha,hI];simp)).symm
  rw [hik]at ci
  (first|refine ad hg ci ?_|refine aa hg ci ?_)
  obtain⟨i1,i2,x,hQ⟩:=bq hik
  have hr:y<=1048576:=Int.le_trans (qF hG i2) yX
  have hw:V[(y-1).toNat]? =some x.ac:=by rw [hV];exact gR hQ
  have hm:=sB hQ
  obtain⟨c0,c1,⟨c2,c3,c4,c5,c6,c7,c8,c9,xY,xZ,x0,⟨x1,x2⟩,⟨x3,x4⟩,⟨x5,x6⟩,⟨x7,x8⟩,⟨x9,ya⟩,⟨yb,yc⟩,⟨yd,ye⟩,yf,⟨⟨yg,yh⟩,⟨yi,yj⟩,⟨yk,yl⟩,⟨ym,yn⟩,⟨yo,yp⟩,⟨yq,yr⟩⟩,⟨⟨ys,yt⟩,⟨yu,yv⟩,⟨yw,yx⟩,⟨yy,yz⟩,⟨yA,yB⟩,⟨yC,yD⟩⟩,⟨yE,yF,yG,yH⟩,⟨yI,yJ,yK,yL⟩,yM,yN⟩,yO,⟨hM⟩⟩:=x
  simp only at hm
  replace hw:V[(y-1).toNat]? =some [.J c0,.view (vw ak c1),.J c2,.J c3,.J c4,.J c5,.J c6,.J c7,.B c8,.B c9,.J xY,.J xZ,.J x0,.J x1,.J x2,.J x3,.J x4,.J x5,.J x6,.J x7,.J x8,.J x9,.J ya,.J yb,.J yc,.J yd,.J ye,.J yf,.J yg,.J yh,.J yi,.J yj,.J yk,.J yl,.J ym,.J yn,.J yo,.J yp,.J yq,.J yr,.J ys,.J yt,.J yu,.J yv,.J yw,.J yx,.J yy,.J yz,.J yA,.J yB,.J yC,.J yD,.J yE,.J yF,.J yG,.J yH,.J yI,.J yJ,.J yK,.J yL,.J yM,.J yN,.B yO,.view (vw aO.c hM)]:=hw
  obtain⟨za,hJ⟩:=nmE (vw ak c1)
  obtain⟨hZ,hp⟩:=nmE (vw aO.c hM)
  rw [<-hJ,<-hp]at hw
  cbv
  refine goX hg _ k0 hT rfl ?_
  cbv
  (first|refine ad hg (de V y i1 hr hw) ?_|refine aa hg (de V y i1 hr hw) ?_)
  cbv
  rw [e1]
  cases hq:g .q .neq c0 n
  case true=>
   rw [bn hg,bne_iff_ne]at hq
   have hI:D=false:=by rw [hD];exact og hy (by rw [gM,hik,hm];simpa using hq)
   cbv
   exact bk hF (hj (by rw [ha,hI];simp)).symm
  rw [bn hg,zqq]at hq
  have hK:gM ns n y=true:=by rw [gM,hik,hm];simpa using hq
  cbv
  have e3:g .w .add .i64 j 1=j+1:=by rw [aN hg,aw _ (by omega)]
  rw [e3]
  exact gg yQ (j+1) [some 0,some 1] (wkS [0,1] (by decide) ⟨⟨_,rfl,rfl,rfl⟩,⟨_,rfl,rfl,rfl⟩,trivial⟩ zr4) ⟨by omega,by omega,fun i v hi hv=>by
   by_cases hr:i<j.toNat
   ·exact k2 i v hr hv
   ·obtain rfl:i=j.toNat:=by omega
    rw [hy]at hv
    cases hv
    exact hK⟩ (by omega)
theorem uA(ns:List af)(hl:ns.length<=1048576)(hs:∀y∈ns,y.small):PC0 40 [.agg [.view (vwA af.ac ns)]] (.t (abl (eo ns))):=by
 obtain⟨V,hV⟩:=nmE (vwA af.ac ns)
 have hH:aX V=(ns.length:Int):=by rw [az,hV,bC]
 have ag:0<=aX V:=by omega
 have yh:aX V<=1048576:=by omega
 have x2:∀n,isN ns n=rng n 1 (aX V):=fun n=>by rw [hH];rfl
 have cD:=fun n=>sn ns n hl
 obtain⟨R,hR⟩:=nmE (eo ns)
 rw [<-hR]
 rw [<-hV]at cD⊢
 refine ae (aJ f40) ay func40 fun g F hg hF=> ?_
 cbv
 cases h12:g .q .gtr (g .ln V) 12
 case true=>
  rw [cu hg,bF hg,zqp]at h12
  cbv
  exact bk hF (by rw [hR,xC hH (by omega)])
 rw [cu hg,bF hg,zqo]at h12
 cbv
 refine bM hg ay (by kernel_rfl) (fun z:Int=>[(1,.p 0),(16,.v V),(17,.i (g .ln V)),(18,.i z)]) (fun _=>[.bx 28 1 [.view V]]) (fun z=>0<=z/\z<=aX V/\∀(i:Nat)(x:af),i<z.toNat->ns[i]? =some x->fG ns ((i:Int)+1) x=true) (fun z=>(aX V).toNat-z.toNat)
  0 [some 0] ⟨Int.le_refl 0,ag,fun i x hi=>by simp at hi⟩ (wkS [0] (by decide) ⟨⟨_,rfl,rfl,rfl⟩,trivial⟩ zr4) (fun z B al hB=> ?_)
 obtain⟨h0,h1,h2⟩:=al
 cbv
 cases hc:g .q .lss z (g .ln V)
 ·rw [bh hg,bF hg,zqo]at hc
  cbv
  exact bk hF (by rw [hR,xB hH (by omega) (by omega) h2])
 rw [bh hg,bF hg,zqp]at hc
 cbv
 obtain⟨x,hx⟩:=oL (xs:=ns) h0 (fz hH hc)
 have hS:V[z.toNat]? =some x.ac:=by rw [hV];exact gR hx
 have am:=hs x (zqd hx)
 have ho:fG ns (z+1) x=false->R=false:=fun h=>by rw [hR];exact zJ h0 hx h
 have yj:=Dn hH h0 hc
 have yi:=Gl hx
 obtain⟨n,hn⟩:=nmE (z+1)
 rw [<-hn]at ho yj yi
 obtain⟨OK,xX⟩:=nmE (fG ns n x)
 have ha:=xX
 rw [fG]at ha
 rw [<-xX]at ho
 obtain⟨A,hA⟩:=nmE (zP x.style)
 obtain⟨Dp,xW⟩:=nmE (uP ns n)
 obtain⟨Bd,xT⟩:=nmE (rng Dp 1 4)
 obtain⟨C,hC⟩:=nmE (C4 ns n x.up)
 obtain⟨D,hD⟩:=nmE (x.kids.all (gM ns n))
 obtain⟨E,hE⟩:=nmE (G3 x)
 have hQ:Bd=true->x.up≠0->isN ns x.up=true:=fun hb hu=>Dy (by omega) yj yi (by rw [<-xW,<-xT];exact hb) hu
 rw [<-hA,<-xW,<-xT,<-hC,<-hD,<-hE]at ha
 have cA:=se x.style
 have xS:=cD n
 have cB:=bQ Dp 1 4
 have cT:=sa x.table.rules
 rw [<-hA]at cA
 rw [<-xW]at xS
 rw [<-xT]at cB
 have hO:∀(i:Nat)(y:af),i<(z+1).toNat->ns[i]? =some y->OK=true->fG ns ((i:Int)+1) y=true:=fun i y hi hy hk=>by
  by_cases hJ:i<z.toNat
  ·exact h2 i y hJ hy
  ·obtain rfl:i=z.toNat:=by omega
   rw [hx]at hy
   cases hy
   rw [show((z.toNat:Nat):Int)+1=n by omega,<-xX];exact hk
 obtain⟨a0,a1,⟨a2,a3,a4,a5,a6,a7,a8,a9,hT,hU,hW,⟨hX,hY⟩,⟨hZ,h3⟩,⟨h4,h5⟩,⟨h6,h7⟩,⟨h8,h9⟩,⟨xa,xc⟩,⟨xd,xe⟩,xf,⟨⟨xg,xh⟩,⟨xi,xj⟩,⟨xk,xl⟩,⟨xm,xn⟩,⟨xo,xp⟩,⟨xq,xr⟩⟩,⟨⟨xt,xu⟩,⟨xv,xw⟩,⟨xx,xy⟩,⟨xz,xA⟩,⟨xD,xE⟩,⟨xF,xG⟩⟩,⟨xH,xI,xJ,xK⟩,⟨xL,xM,xN,xO⟩,xP,xQ⟩,hr,⟨xR⟩⟩:=x
 obtain⟨ax,ya,-⟩:=am
 replace cT:=cT ya
 simp only at hQ hC hD hE cA cT
 replace hS:V[z.toNat]? =some [.J a0,.view (vw ak a1),.J a2,.J a3,.J a4,.J a5,.J a6,.J a7,.B a8,.B a9,.J hT,.J hU,.J hW,.J hX,.J hY,.J hZ,.J h3,.J h4,.J h5,.J h6,.J h7,.J h8,.J h9,.J xa,.J xc,.J xd,.J xe,.J xf,.J xg,.J xh,.J xi,.J xj,.J xk,.J xl,.J xm,.J xn,.J xo,.J xp,.J xq,.J xr,.J xt,.J xu,.J xv,.J xw,.J xx,.J xy,.J xz,.J xA,.J xD,.J xE,.J xF,.J xG,.J xH,.J xI,.J xJ,.J xK,.J xL,.J xM,.J xN,.J xO,.J xP,.J xQ,.B hr,.view (vw aO.c xR)]:=hS
 obtain⟨TK,xY⟩:=nmE (DR xR)
 rw [<-xY]at cT
 obtain⟨hf,hw⟩:=nmE (vw ak a1)
 obtain⟨hh,hp⟩:=nmE (vw aO.c xR)
 have x8:=qE hw
 have x9:=qE hp
 have ao:0<=aX hf:=by omega
 have au:aX hf<=1048576:=by omega
 rw [<-hw,<-hp]at hS
 rw [<-hp]at cT
 have e1:g .w .add .i64 z 1=n:=by rw [aN hg,aw _ (by omega),hn]
 refine goX hg _ h0 hS rfl ?_
 cbv
 rw [e1]
 (first|refine ad hg cA ?_|refine aa hg cA ?_)
 cases A
 case false=>
  cbv
  exact bk hF (ho ha).symm
 cbv
 (first|refine ad hg xS ?_|refine aa hg xS ?_)
 cbv
 (first|refine ad hg cB ?_|refine aa hg cB ?_)
 cases Bd
 case false=>
  cbv
  exact bk hF (ho (by rw [ha];rfl)).symm
 replace hQ:=hQ rfl
 have hd:E= !((hr&&(!TK||decide (0<aX hf)))||(!hr&&decide (0<aX hh))):=by rw [hE,xY,x8,x9];rfl
 clear hE xY
 cbv
 refine bM hg ay (by kernel_rfl) (fun j:Int=>[(1,.p 0),(4,.p 1),(5,.i n),(16,.v V),(17,.i (g .ln V)),(18,.i z),(37,.v hf),(38,.i (g .ln hf)),(39,.i j)]) (fun _=>[.bx 28 1 [.view V],.bx 69 64 [.J a0,.view hf,.J a2,.J a3,.J a4,.J a5,.J a6,.J a7,.B a8,.B a9,.J hT,.J hU,.J hW,.J hX,.J hY,.J hZ,.J h3,.J h4,.J h5,.J h6,.J h7,.J h8,.J h9,.J xa,.J xc,.J xd,.J xe,.J xf,.J xg,.J xh,.J xi,.J xj,.J xk,.J xl,.J xm,.J xn,.J xo,.J xp,.J xq,.J xr,.J xt,.J xu,.J xv,.J xw,.J xx,.J xy,.J xz,.J xA,.J xD,.J xE,.J xF,.J xG,.J xH,.J xI,.J xJ,.J xK,.J xL,.J xM,.J xN,.J xO,.J xP,.J xQ,.B hr,.view hh]]) (fun j:Int=>0<=j/\j<=aX hf/\∀(i:Nat)(v:Int),i<j.toNat->a1[i]? =some v->gM ns n v=true) (fun j=>(aX hf).toNat-j.toNat)
  0 [some 0,some 1] ⟨Int.le_refl 0,ao,fun i v hi=>by simp at hi⟩ (wkS [0,1] (by decide) ⟨⟨_,rfl,rfl,rfl⟩,⟨_,rfl,rfl,rfl⟩,trivial⟩ zr9) (fun j B2 x4 z9=> ?_)
 obtain⟨k0,k1,k2⟩:=x4
 cbv
 cases hk:g .q .lss j (g .ln hf)
 case true=>
  rw [bh hg,bF hg,zqp]at hk
  cbv
  obtain⟨y,hy⟩:=oL (xs:=a1) k0 (fz x8 hk)
  have x7:hf[j.toNat]? =some (lc (ak y)):=by rw [hw];exact bf hy
  have ci:=jM V y
  rw [<-x2 y]at ci
  refine goX hg _ k0 x7 rfl ?_
  cbv
  cases hik:isN ns y
  ·rw [hik]at ci
   have xV:D=false:=by rw [hD];exact og hy (by rw [gM,hik];rfl)
   (first|refine ad hg ci ?_|refine aa hg ci ?_)
   cbv
   exact bk hF (ho (by rw [ha,xV];simp)).symm
  rw [hik]at ci
  (first|refine ad hg ci ?_|refine aa hg ci ?_)
  obtain⟨i1,i2,x,ym⟩:=bq hik
  have hJ:y<=1048576:=Int.le_trans (qF hH i2) yh
  have hN:V[(y-1).toNat]? =some x.ac:=by rw [hV];exact gR ym
  have hI:=sB ym
  obtain⟨c0,c1,⟨c2,c3,c4,c5,c6,c7,c8,c9,zg,zh,zi,⟨zj,zk⟩,⟨zl,zm⟩,⟨zn,zo⟩,⟨zp,zq⟩,⟨zr,zs⟩,⟨zt,zu⟩,⟨zv,zw⟩,zx,⟨⟨zy,zz⟩,⟨zA,zB⟩,⟨zC,zD⟩,⟨zE,zF⟩,⟨zG,zH⟩,⟨zI,zK⟩⟩,⟨⟨zL,zM⟩,⟨zN,zO⟩,⟨zQ,zR⟩,⟨zS,zT⟩,⟨zU,zV⟩,⟨zW,zX⟩⟩,⟨zY,zZ,z0,z1⟩,⟨z2,z3,z4,z5⟩,z6,z7⟩,z8,⟨yc⟩⟩:=x
  simp only at hI
  replace hN:V[(y-1).toNat]? =some [.J c0,.view (vw ak c1),.J c2,.J c3,.J c4,.J c5,.J c6,.J c7,.B c8,.B c9,.J zg,.J zh,.J zi,.J zj,.J zk,.J zl,.J zm,.J zn,.J zo,.J zp,.J zq,.J zr,.J zs,.J zt,.J zu,.J zv,.J zw,.J zx,.J zy,.J zz,.J zA,.J zB,.J zC,.J zD,.J zE,.J zF,.J zG,.J zH,.J zI,.J zK,.J zL,.J zM,.J zN,.J zO,.J zQ,.J zR,.J zS,.J zT,.J zU,.J zV,.J zW,.J zX,.J zY,.J zZ,.J z0,.J z1,.J z2,.J z3,.J z4,.J z5,.J z6,.J z7,.B z8,.view (vw aO.c yc)]:=hN
  obtain⟨ar,xZ⟩:=nmE (vw ak c1)
  obtain⟨yo,hL⟩:=nmE (vw aO.c yc)
  rw [<-xZ,<-hL]at hN
  cbv
  (first|refine ad hg (fY V y i1 hJ hN) ?_|refine aa hg (fY V y i1 hJ hN) ?_)
  cbv
  cases hq:g .q .neq c0 n
  case true=>
   rw [bn hg,bne_iff_ne]at hq
   have xV:D=false:=by rw [hD];exact og hy (by rw [gM,hik,hI];simpa using hq)
   cbv
   exact bk hF (ho (by rw [ha,xV];simp)).symm
  rw [bn hg,zqq]at hq
  have x3:gM ns n y=true:=by rw [gM,hik,hI];simpa using hq
  cbv
  have e3:g .w .add .i64 j 1=j+1:=by rw [aN hg,aw _ (by omega)]
  rw [e3]
  exact gg z9 (j+1) [some 0,some 1] (wkS [0,1] (by decide) ⟨⟨_,rfl,rfl,rfl⟩,⟨_,rfl,rfl,rfl⟩,trivial⟩ zr9) ⟨by omega,by omega,fun i v hi hv=>by
   by_cases hJ:i<j.toNat
   ·exact k2 i v hJ hv
   ·obtain rfl:i=j.toNat:=by omega
    rw [hy]at hv
    cases hv
    exact x3⟩ (by omega)
 rw [bh hg,bF hg,zqo]at hk
 have yg:D=true:=by rw [hD];exact w9 x8 (by omega) k2
 by_cases hu:a0=0
 ·have xU:C=true:=by rw [hC,C4,hu];rfl
  have eu:g .q .neq a0 0=false:=by rw [bn hg];simpa using hu
  cbv
  rw [eu]
  cbv
  replace ha:OK=E:=by rw [ha,xU,yg];simp
  cases hr
  ·replace hd:E= !(decide (0<aX hh)):=by rw [hd];simp
   cbv
   cases ht:g .q .gtr (g .ln hh) 0
   case true=>
    rw [cu hg,bF hg,zqp]at ht
    cbv
    exact bk hF (ho (by rw [ha,hd];simpa using ht)).symm
   rw [cu hg,bF hg,zqo]at ht
   have hj:OK=true:=by rw [ha,hd];simpa using ht
   cbv
   rw [e1,hn]
   exact gg hB (z+1) [some 0] (wkS [0] (by decide) ⟨⟨_,rfl,rfl,rfl⟩,trivial⟩ zr4) ⟨by omega,by omega,fun i y hi hy=>hO i y hi hy hj⟩ (by omega)
  ·replace hd:E= !(!TK||decide (0<aX hf)):=by rw [hd];simp
   cbv
   (first|refine ad hg cT ?_|refine aa hg cT ?_)
   cases TK
   case false=>
    cbv
    exact bk hF (ho (by rw [ha,hd];rfl)).symm
   cbv
   cases ht:g .q .gtr (g .ln hf) 0
   case true=>
    rw [cu hg,bF hg,zqp]at ht
    cbv
    exact bk hF (ho (by rw [ha,hd];simpa using ht)).symm
   rw [cu hg,bF hg,zqo]at ht
   have hj:OK=true:=by rw [ha,hd];simpa using ht
   cbv
   rw [e1,hn]
   exact gg hB (z+1) [some 0] (wkS [0] (by decide) ⟨⟨_,rfl,rfl,rfl⟩,trivial⟩ zr4) ⟨by omega,by omega,fun i y hi hy=>hO i y hi hy hj⟩ (by omega)
 ·have eu:g .q .neq a0 0=true:=by rw [bn hg];simpa using hu
  have ai:=hQ hu
  obtain⟨u1,u2,xb,x6⟩:=bq ai
  have yl:a0<=1048576:=Int.le_trans (qF hH u2) yh
  have hM:V[(a0-1).toNat]? =some xb.ac:=by rw [hV];exact gR x6
  have yk:oh ns a0=xb.kids:=by unfold oh;rw [x6]
  have aj:=(hs xb (zqd x6))
  obtain⟨b0,b1,⟨b2,b3,b4,b5,b6,b7,b8,b9,yp,yq,yr,⟨ys,yt⟩,⟨yu,yv⟩,⟨yw,yx⟩,⟨yy,yz⟩,⟨yA,yB⟩,⟨yC,yD⟩,⟨yE,yF⟩,yG,⟨⟨yH,yI⟩,⟨yJ,yK⟩,⟨yL,yM⟩,⟨yN,yO⟩,⟨yP,yQ⟩,⟨yR,yS⟩⟩,⟨⟨yT,yU⟩,⟨yV,yW⟩,⟨yX,yY⟩,⟨yZ,y0⟩,⟨y1,y2⟩,⟨y3,y4⟩⟩,⟨y5,y6,y7,y8⟩,⟨y9,za,zb,zc⟩,zd,ze⟩,zf,⟨yb⟩⟩:=xb
  obtain⟨aA,aq,-⟩:=aj
  simp only at yk
  replace hM:V[(a0-1).toNat]? =some [.J b0,.view (vw ak b1),.J b2,.J b3,.J b4,.J b5,.J b6,.J b7,.B b8,.B b9,.J yp,.J yq,.J yr,.J ys,.J yt,.J yu,.J yv,.J yw,.J yx,.J yy,.J yz,.J yA,.J yB,.J yC,.J yD,.J yE,.J yF,.J yG,.J yH,.J yI,.J yJ,.J yK,.J yL,.J yM,.J yN,.J yO,.J yP,.J yQ,.J yR,.J yS,.J yT,.J yU,.J yV,.J yW,.J yX,.J yY,.J yZ,.J y0,.J y1,.J y2,.J y3,.J y4,.J y5,.J y6,.J y7,.J y8,.J y9,.J za,.J zb,.J zc,.J zd,.J ze,.B zf,.view (vw aO.c yb)]:=hM
  obtain⟨Cn,yf⟩:=nmE (cnt b1 n)
  have ye:C=decide (Cn=1):=by rw [hC,C4,yk,yf];simp [hu]
  obtain⟨hm,hG⟩:=nmE (vw ak b1)
  obtain⟨yn,hK⟩:=nmE (vw aO.c yb)
  have an:=qE hG
  have ap:0<=aX hm:=by omega
  have av:aX hm<=1048576:=by omega
  have x0:∀z:Int,aX hm<=z->wQ (fun k=>if k=n then 1 else 0) b1 z.toNat=Cn:=fun z hz=>by rw [yf];exact lD _ (by omega)
  rw [<-hG,<-hK]at hM
  cbv
  rw [eu]
  cbv
  (first|refine ad hg (fY V a0 u1 yl hM) ?_|refine aa hg (fY V a0 u1 yl hM) ?_)
  cbv
  refine bM hg ay (by kernel_rfl) (fun s:Int×Int=>[(1,.p 0),(4,.p 1),(5,.i n),(8,.i s.2),(16,.v V),(17,.i (g .ln V)),(18,.i z),(63,.v hm),(64,.i (g .ln hm)),(65,.i s.1)]) (fun _=>[.bx 28 1 [.view V],.bx 69 64 [.J a0,.view hf,.J a2,.J a3,.J a4,.J a5,.J a6,.J a7,.B a8,.B a9,.J hT,.J hU,.J hW,.J hX,.J hY,.J hZ,.J h3,.J h4,.J h5,.J h6,.J h7,.J h8,.J h9,.J xa,.J xc,.J xd,.J xe,.J xf,.J xg,.J xh,.J xi,.J xj,.J xk,.J xl,.J xm,.J xn,.J xo,.J xp,.J xq,.J xr,.J xt,.J xu,.J xv,.J xw,.J xx,.J xy,.J xz,.J xA,.J xD,.J xE,.J xF,.J xG,.J xH,.J xI,.J xJ,.J xK,.J xL,.J xM,.J xN,.J xO,.J xP,.J xQ,.B hr,.view hh]]) (fun s=>0<=s.1/\s.1<=aX hm/\0<=s.2/\s.2<=s.1/\s.2=wQ (fun k=>if k=n then 1 else 0) b1 s.1.toNat) (fun s=>(aX hm).toNat-s.1.toNat)
   (0,0) [some 0,some 1] ⟨Int.le_refl 0,ap,Int.le_refl 0,Int.le_refl 0,(jj _ _).symm⟩ (wkS [0,1] (by decide) ⟨⟨_,rfl,rfl,rfl⟩,⟨_,rfl,rfl,rfl⟩,trivial⟩ ⟨rfl,rfl,rfl,rfl,rfl,rfl,rfl,rfl,rfl,rfl,trivial⟩) (fun s B3 x5 yd=> ?_)
  obtain⟨i,d⟩:=s
  obtain⟨q0,q1,q2,q3,q4⟩:=x5
  simp only at q0 q1 q2 q3 q4
  cbv
  cases hq:g .q .lss i (g .ln hm)
  case true=>
   rw [bh hg,bF hg,zqp]at hq
   cbv
   obtain⟨y,hy⟩:=oL (xs:=b1) q0 (fz an hq)
   have x7:hm[i.toNat]? =some (lc (ak y)):=by rw [hG];exact bf hy
   have hP:=jk (fun k:Int=>if k=n then(1:Int)else 0) hy
   have e3:g .w .add .i64 i 1=i+1:=by rw [aN hg,aw _ (by omega)]
   refine goX hg _ q0 x7 rfl ?_
   cbv
   cases he:g .q .eql y n
   ·have x1:y≠n:=by rw [bj hg]at he;simpa using he
    simp only [if_neg x1]at hP
    cbv
    rw [e3]
    exact gg yd (i+1,d) [some 0,some 1] (wkS [0,1] (by decide) ⟨⟨_,rfl,rfl,rfl⟩,⟨_,rfl,rfl,rfl⟩,trivial⟩ ⟨rfl,rfl,rfl,rfl,rfl,rfl,rfl,rfl,rfl,rfl,trivial⟩) ⟨by simp only;omega,by simp only;omega,q2,by simp only;omega,by simp only;rw [show(i+1).toNat=i.toNat+1 by omega,hP];omega⟩ (by show(aX hm).toNat-(i+1).toNat<(aX hm).toNat-i.toNat;omega)
   ·have x1:y=n:=by rw [bj hg]at he;simpa using he
    simp only [if_pos x1]at hP
    have e4:g .w .add .i64 d 1=d+1:=by rw [aN hg,aw _ (by omega)]
    cbv
    rw [e3,e4]
    exact gg yd (i+1,d+1) [some 0,some 1] (wkS [0,1] (by decide) ⟨⟨_,rfl,rfl,rfl⟩,⟨_,rfl,rfl,rfl⟩,trivial⟩ ⟨rfl,rfl,rfl,rfl,rfl,rfl,rfl,rfl,rfl,rfl,trivial⟩) ⟨by simp only;omega,by simp only;omega,by simp only;omega,by simp only;omega,by simp only;rw [show(i+1).toNat=i.toNat+1 by omega,hP];omega⟩ (by show(aX hm).toNat-(i+1).toNat<(aX hm).toNat-i.toNat;omega)
  rw [bh hg,bF hg,zqo]at hq
  have ah:d=Cn:=by rw [q4,x0 i (by omega)]
  subst ah
  cbv
  cases hcn:g .q .neq d 1
  case true=>
   rw [bn hg,bne_iff_ne]at hcn
   have ab:C=false:=by rw [ye];simpa using hcn
   cbv
   exact bk hF (ho (by rw [ha,ab];simp)).symm
  rw [bn hg,zqq]at hcn
  have xU:C=true:=by rw [ye,hcn];rfl
  cbv
  replace ha:OK=E:=by rw [ha,xU,yg];simp
  cases hr
  ·replace hd:E= !(decide (0<aX hh)):=by rw [hd];simp
   cbv
   cases ht:g .q .gtr (g .ln hh) 0
   case true=>
    rw [cu hg,bF hg,zqp]at ht
    cbv
    exact bk hF (ho (by rw [ha,hd];simpa using ht)).symm
   rw [cu hg,bF hg,zqo]at ht
   have hj:OK=true:=by rw [ha,hd];simpa using ht
   cbv
   rw [e1,hn]
   exact gg hB (z+1) [some 0] (wkS [0] (by decide) ⟨⟨_,rfl,rfl,rfl⟩,trivial⟩ zr4) ⟨by omega,by omega,fun i y hi hy=>hO i y hi hy hj⟩ (by omega)
  ·replace hd:E= !(!TK||decide (0<aX hf)):=by rw [hd];simp
   cbv
   (first|refine ad hg cT ?_|refine aa hg cT ?_)
   cases TK
   case false=>
    cbv
    exact bk hF (ho (by rw [ha,hd];rfl)).symm
   cbv
   cases ht:g .q .gtr (g .ln hf) 0
   case true=>
    rw [cu hg,bF hg,zqp]at ht
    cbv
    exact bk hF (ho (by rw [ha,hd];simpa using ht)).symm
   rw [cu hg,bF hg,zqo]at ht
   have hj:OK=true:=by rw [ha,hd];simpa using ht
   cbv
   rw [e1,hn]
   exact gg hB (z+1) [some 0] (wkS [0] (by decide) ⟨⟨_,rfl,rfl,rfl⟩,trivial⟩ zr4) ⟨by omega,by omega,fun i y hi hy=>hO i y hi hy hj⟩ (by omega)
end Go.Proofs.YtckchgoblpgpbaaGreat
