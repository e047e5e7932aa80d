/- Boxes that are placed apart: the children, the law of their spaces. -/
import Derived.Test.YtkicjdeddpihaaaGreatS4az
set_option linter.unusedVariables false
set_option linter.unusedSimpArgs false
set_option maxHeartbeats 16000000
namespace Go.Proofs.YtkicjdeddpihaaaGreat
open Go.ChangeShapes Go.WideShapes Go.ChangeAt Go.RowKit Am Go.Proofs.Tryz
set_option maxRecDepth 100000
def vu(ns:List ag)(n:Int):List Int:=match ns[(n-1).toNat]? with|some x=>x.kids|none=>[]
def ia(ns:List ag)(n:Int)(k:Int):Bool:=isN ns k&&decide (upN ns k=n)
def Jk(x:ag):Bool:= !((x.measured&&(!F8 x.table.rules||decide ((0:Int)<(x.kids.length:Int))))||(!x.measured&&decide ((0:Int)<(x.table.rules.length:Int))))
def EZ(ns:List ag)(n up:Int):Bool:=decide (up=0)||decide (cnt (vu ns up) n=1)
def fD(ns:List ag)(n:Int)(x:ag):Bool:=BC x.style&&(rng (wi ns n) 1 4&&(EZ ns n x.up&&(x.kids.all (ia ns n)&&Jk x)))
def goT(ns:List ag):List ag->Int->Bool
 | [],_=>true
 |x::xs,i=>fD ns (i+1) x&&goT ns xs (i+1)
def fc(ns:List ag):Bool:=decide ((ns.length:Int)<=12)&&goT ns ns 0
theorem jZ(ns:List ag):∀(xs:List ag)(k:Int),goT ns xs k=true↔∀(i:Nat)(x:ag),xs[i]? =some x->fD ns (k+(i:Int)+1) x=true
 | [],k=>by simp [goT]
 |x::xs,k=>by
  simp only [goT,zqs]
  rw [jZ ns xs (k+1)]
  constructor
  ·rintro⟨h1,h2⟩ i y hy
   cases i with
   |zero=>simp at hy;subst hy;simpa using h1
   |succ i=>have:=h2 i y (by simpa using hy);rw [show k+((i+1:Nat):Int)+1=k+1+(i:Int)+1 by omega];exact this
  ·intro h
   refine⟨by simpa using h 0 x rfl,fun i y hy=> ?_⟩
   have:=h (i+1) y (by simpa using hy)
   rw [show k+((i+1:Nat):Int)+1=k+1+(i:Int)+1 by omega]at this
   exact this
variable {ns:List ag}
theorem Bs{z:Int}{x:ag}(h0:0<=z)(hx:ns[z.toNat]? =some x)(h:fD ns (z+1) x=false):fc ns=false:=by
 cases hg:goT ns ns 0
 ·simp [fc,hg]
 ·have:=(jZ ns ns 0).1 hg z.toNat x hx
  rw [show(0:Int)+((z.toNat:Nat):Int)+1=z+1 by omega,h]at this
  cases this
variable {z M:Int}
theorem yM(hM:M=(ns.length:Int))(h12:M<=12)(hz:M<=z)(h:∀(i:Nat)(x:ag),i<z.toNat->ns[i]? =some x->fD ns ((i:Int)+1) x=true):fc ns=true:=by
 have hg:goT ns ns 0=true:=(jZ ns ns 0).2 fun i x hx=>by
  have hi:=(List.getElem?_eq_some_iff.1 hx).1
  have:=h i x (by omega) hx
  rwa [show(0:Int)+(i:Int)+1=(i:Int)+1 by omega]
 simp only [fc,hg,Bool.and_true,zqp]
 omega
theorem yN{M:Int}(hM:M=(ns.length:Int))(h:¬M<=12):fc ns=false:=by
 simp only [fc,Bool.and_eq_false_iff,zqo]
 left;omega
variable {n:Int}
theorem FG{x:ag}(h0:n≠0)(hn:isN ns n=true)(hx:ns[(n-1).toNat]? =some x)(hd:rng (wi ns n) 1 4=true)(hu:x.up≠0):isN ns x.up=true:=by
 cases hi:isN ns x.up
 ·exfalso
  have hl:ns.length≠0:=fun h=>by
   have:=(bC hn).2.1
   have:=(bC hn).1
   omega
  obtain⟨L,hL⟩:∃L,ns.length=L+1:=⟨ns.length-1,by omega⟩
  rw [wi,hL,kg ns h0 hn,tJ hx,vY ns _ _ _ hu hi]at hd
  simp [rng]at hd
 ·rfl
variable {xs:List Int}
theorem oP{i:Nat}{k:Int}(h:xs[i]? =some k)(hk:ia ns n k=false):xs.all (ia ns n)=false:=by
 rw [List.all_eq_false]
 exact⟨k,zqd h,by rw [hk];decide⟩
theorem yk(hM:M=(xs.length:Int))(hz:M<=z)(h:∀(i:Nat)(v:Int),i<z.toNat->xs[i]? =some v->ia ns n v=true):xs.all (ia ns n)=true:=by
 rw [zqf]
 exact qB hM hz h
theorem rE{n:Nat}{a z:Int}(h:a=(n:Int))(hz:z<=(n:Int)):z<=a:=h▸hz
theorem Ft(hM:M=(ns.length:Int))(h0:0<=z)(h1:z<M):isN ns (z+1)=true:=by
 simp only [isN,rng,zqs,zqp];omega
theorem IL{z:Int}{x:ag}(h:ns[z.toNat]? =some x):ns[(z+1-1).toNat]? =some x:=by rw [show z+1-1=z by omega];exact h
theorem rD{α:Type}{c:α->Array Value}{xs:List α}{V:LLA}(hV:V=vw c xs):aN V=(xs.length:Int):=by rw [hV,ah,ar]
theorem nj(ns:List ag)(hl:ns.length<=1048576)(hs:∀y∈ns,y.small):PC0 54 [.agg [.view (vwA ag.ac ns)]] (.t (abl (fc ns))):=by
 obtain⟨V,hV⟩:=nmE (vwA ag.ac ns)
 have hG:aN V=(ns.length:Int):=by rw [ah,hV,bB]
 have z4:0<=aN V:=by omega
 have yY:aN V<=1048576:=by omega
 have hP:∀n,isN ns n=rng n 1 (aN V):=fun n=>by rw [hG];rfl
 have cD:=fun n=>sJ ns n hl
 obtain⟨R,hR⟩:=nmE (fc ns)
 rw [<-hR]
 rw [<-hV]at cD⊢
 refine ad (aM f54) ay func54 fun g F hg hF=> ?_
 cbv
 cases h12:g .q .gtr (g .ln V) 12
 case true=>
  rw [cj hg,bz hg,zqp]at h12
  cbv
  exact bk hF (by rw [hR,yN hG (by omega)])
 rw [cj hg,bz hg,zqo]at h12
 cbv
 refine bO hg ay (by kernel_rfl) (fun z:Int=>[(1,.p 0),(3,.i z)]) (fun _=>[.bx 32 1 [.view V]]) (fun z=>0<=z/\z<=aN V/\∀(i:Nat)(x:ag),i<z.toNat->ns[i]? =some x->fD ns ((i:Int)+1) x=true) (fun z=>(aN V).toNat-z.toNat)
  0 [some 0] ⟨Int.le_refl 0,z4,fun i x hi=>by simp at hi⟩ (wkS [0] (by decide) ⟨⟨_,rfl,rfl,rfl⟩,trivial⟩ zr2) (fun z B z7 hB=> ?_)
 obtain⟨h0,h1,h2⟩:=z7
 cbv
 cases hc:g .q .lss z (g .ln V)
 ·rw [bg hg,bz hg,zqo]at hc
  cbv
  exact bk hF (by rw [hR,yM hG (by omega) (by omega) h2])
 rw [bg hg,bz hg,zqp]at hc
 cbv
 obtain⟨x,hx⟩:=pk (xs:=ns) h0 (gc hG hc)
 have hY:V[z.toNat]? =some x.ac:=by rw [hV];exact gO hx
 have z8:=hs x (zqd hx)
 have hj:fD ns (z+1) x=false->R=false:=fun h=>by rw [hR];exact Bs h0 hx h
 have y6:=Ft hG h0 hc
 have y5:=IL hx
 obtain⟨n,hn⟩:=nmE (z+1)
 rw [<-hn]at hj y6 y5
 obtain⟨OK,yW⟩:=nmE (fD ns n x)
 have ha:=yW
 rw [fD]at ha
 rw [<-yW]at hj
 obtain⟨A,hA⟩:=nmE (BC x.style)
 obtain⟨Dp,yU⟩:=nmE (wi ns n)
 obtain⟨Bd,yS⟩:=nmE (rng Dp 1 4)
 obtain⟨C,hC⟩:=nmE (EZ ns n x.up)
 obtain⟨D,hD⟩:=nmE (x.kids.all (ia ns n))
 obtain⟨E,hE⟩:=nmE (Jk x)
 have hX:Bd=true->x.up≠0->isN ns x.up=true:=fun hb hu=>FG (by omega) y6 y5 (by rw [<-yU,<-yS];exact hb) hu
 rw [<-hA,<-yU,<-yS,<-hC,<-hD,<-hE]at ha
 have cA:=sF x.style
 have yQ:=cD n
 have cB:=bi Dp 1 4
 have cT:=sE x.table.rules
 rw [<-hA]at cA
 rw [<-yU]at yQ
 rw [<-yS]at cB
 have hW:∀(i:Nat)(y:ag),i<(z+1).toNat->ns[i]? =some y->OK=true->fD ns ((i:Int)+1) y=true:=fun i y hi hy hk=>by
  by_cases hr:i<z.toNat
  ·exact h2 i y hr hy
  ·obtain rfl:i=z.toNat:=by omega
   rw [hx]at hy
   cases hy
   rw [show((z.toNat:Nat):Int)+1=n by omega,<-yW];exact hk
 obtain⟨a0,a1,⟨a2,a3,a4,a5,a6,a7,a8,a9,h3,h4,h5,⟨h6,h7⟩,⟨h8,h9⟩,⟨xa,xc⟩,⟨xd,xe⟩,⟨xf,xg⟩,⟨xh,xi⟩,⟨xj,xk⟩,xl,⟨⟨xm,xn⟩,⟨xo,xp⟩,⟨xq,xr⟩,⟨xt,xu⟩,⟨xv,xw⟩,⟨xx,xy⟩⟩,⟨⟨xz,xA⟩,⟨xB,xC⟩,⟨xD,xE⟩,⟨xF,xG⟩,⟨xH,xI⟩,⟨xJ,xK⟩⟩,⟨xL,xM,xN,xO⟩,⟨xP,xQ,xR,xS⟩,xT,xU⟩,hH,⟨xV⟩⟩:=x
 obtain⟨al,y1,-⟩:=z8
 replace cT:=cT y1
 simp only at hX hC hD hE cA cT
 replace hY:V[z.toNat]? =some [.J a0,.view (vw aj a1),.J a2,.J a3,.J a4,.J a5,.J a6,.J a7,.B a8,.B a9,.J h3,.J h4,.J h5,.J h6,.J h7,.J h8,.J h9,.J xa,.J xc,.J xd,.J xe,.J xf,.J xg,.J xh,.J xi,.J xj,.J xk,.J xl,.J xm,.J xn,.J xo,.J xp,.J xq,.J xr,.J xt,.J xu,.J xv,.J xw,.J xx,.J xy,.J xz,.J xA,.J xB,.J xC,.J xD,.J xE,.J xF,.J xG,.J xH,.J xI,.J xJ,.J xK,.J xL,.J xM,.J xN,.J xO,.J xP,.J xQ,.J xR,.J xS,.J xT,.J xU,.B hH,.view (vw aK.c xV)]:=hY
 obtain⟨TK,yX⟩:=nmE (F8 xV)
 rw [<-yX]at cT
 obtain⟨he,hz⟩:=nmE (vw aj a1)
 obtain⟨hf,ho⟩:=nmE (vw aK.c xV)
 have hU:=rD hz
 have y0:=rD ho
 have y9:0<=aN he:=by omega
 have ai:aN he<=1048576:=by omega
 rw [<-hz,<-ho]at hY
 rw [<-ho]at cT
 have e1:g .w .add .i64 z 1=n:=by rw [aJ hg,ak _ (by omega),hn]
 refine goX hg _ h0 hY rfl ?_
 cbv
 (first|refine ae hg cA ?_|refine aa hg cA ?_)
 cases A
 case false=>
  cbv
  exact bk hF (hj ha).symm
 cbv
 rw [e1]
 (first|refine ae hg yQ ?_|refine aa hg yQ ?_)
 cbv
 (first|refine ae hg cB ?_|refine aa hg cB ?_)
 cases Bd
 case false=>
  cbv
  exact bk hF (hj (by rw [ha];rfl)).symm
 replace hX:=hX rfl
 have hd:E= !((hH&&(!TK||decide (0<aN he)))||(!hH&&decide (0<aN hf))):=by rw [hE,yX,hU,y0];rfl
 clear hE yX
 by_cases hu:a0=0
 ·have yT:C=true:=by rw [hC,EZ,hu];rfl
  have eu:g .q .neq a0 0=false:=by rw [bj hg];simpa using hu
  cbv
  rw [eu]
  cbv
  refine bO hg ay (by kernel_rfl) (fun j:Int=>[(1,.p 0),(3,.i z),(4,.p 1),(5,.i j)]) (fun _=>[.bx 32 1 [.view V],.bx 119 64 [.J a0,.view he,.J a2,.J a3,.J a4,.J a5,.J a6,.J a7,.B a8,.B a9,.J h3,.J h4,.J h5,.J h6,.J h7,.J h8,.J h9,.J xa,.J xc,.J xd,.J xe,.J xf,.J xg,.J xh,.J xi,.J xj,.J xk,.J xl,.J xm,.J xn,.J xo,.J xp,.J xq,.J xr,.J xt,.J xu,.J xv,.J xw,.J xx,.J xy,.J xz,.J xA,.J xB,.J xC,.J xD,.J xE,.J xF,.J xG,.J xH,.J xI,.J xJ,.J xK,.J xL,.J xM,.J xN,.J xO,.J xP,.J xQ,.J xR,.J xS,.J xT,.J xU,.B hH,.view hf]]) (fun j:Int=>0<=j/\j<=aN he/\∀(i:Nat)(v:Int),i<j.toNat->a1[i]? =some v->ia ns n v=true) (fun j=>(aN he).toNat-j.toNat)
   0 [some 0,some 1] ⟨Int.le_refl 0,y9,fun i v hi=>by simp at hi⟩ (wkS [0,1] (by decide) ⟨⟨_,rfl,rfl,rfl⟩,⟨_,rfl,rfl,rfl⟩,trivial⟩ zr4) (fun j B2 hL yR=> ?_)
  obtain⟨k0,k1,k2⟩:=hL
  cbv
  cases hk:g .q .lss j (g .ln he)
  ·rw [bg hg,bz hg,zqo]at hk
   have yV:D=true:=by rw [hD];exact yk hU (by omega) k2
   replace ha:OK=E:=by rw [ha,yT,yV];simp
   cases hH
   ·replace hd:E= !(decide (0<aN hf)):=by rw [hd];simp
    cbv
    cases ht:g .q .gtr (g .ln hf) 0
    case true=>
     rw [cj hg,bz hg,zqp]at ht
     cbv
     exact bk hF (hj (by rw [ha,hd];simpa using ht)).symm
    rw [cj hg,bz hg,zqo]at ht
    have hh:OK=true:=by rw [ha,hd];simpa using ht
    cbv
    rw [e1,hn]
    exact gX hB (z+1) [some 0] (wkS [0] (by decide) ⟨⟨_,rfl,rfl,rfl⟩,trivial⟩ zr2) ⟨by omega,by omega,fun i y hi hy=>hW i y hi hy hh⟩ (by omega)
   ·replace hd:E= !(!TK||decide (0<aN he)):=by rw [hd];simp
    cbv
    (first|refine ae hg cT ?_|refine aa hg cT ?_)
    cases TK
    case false=>
     cbv
     exact bk hF (hj (by rw [ha,hd];rfl)).symm
    cbv
    cases ht:g .q .gtr (g .ln he) 0
    case true=>
     rw [cj hg,bz hg,zqp]at ht
     cbv
     exact bk hF (hj (by rw [ha,hd];simpa using ht)).symm
    rw [cj hg,bz hg,zqo]at ht
    have hh:OK=true:=by rw [ha,hd];simpa using ht
    cbv
    rw [e1,hn]
    exact gX hB (z+1) [some 0] (wkS [0] (by decide) ⟨⟨_,rfl,rfl,rfl⟩,trivial⟩ zr2) ⟨by omega,by omega,fun i y hi hy=>hW i y hi hy hh⟩ (by omega)
  rw [bg hg,bz hg,zqp]at hk
  cbv
  obtain⟨y,hy⟩:=pk (xs:=a1) k0 (gc hU hk)
  have hT:he[j.toNat]? =some (lc (aj y)):=by rw [hz];exact ba hy
  have ci:=gP V y
  rw [<-hP y]at ci
  refine goX hg _ k0 hT rfl ?_
  cbv
  cases hik:isN ns y
  ·rw [hik]at ci
   have hI:D=false:=by rw [hD];exact oP hy (by rw [ia,hik];rfl)
   (first|refine ae hg ci ?_|refine aa hg ci ?_)
   cbv
   exact bk hF (hj (by rw [ha,hI];simp)).symm
  rw [hik]at ci
  (first|refine ae hg ci ?_|refine aa hg ci ?_)
  obtain⟨i1,i2,x,hQ⟩:=bC hik
  have hr:y<=1048576:=Int.le_trans (rE hG i2) yY
  have hw:V[(y-1).toNat]? =some x.ac:=by rw [hV];exact gO hQ
  have hm:=tJ hQ
  obtain⟨c0,c1,⟨c2,c3,c4,c5,c6,c7,c8,c9,xW,xX,xY,⟨xZ,x0⟩,⟨x1,x2⟩,⟨x3,x4⟩,⟨x5,x6⟩,⟨x7,x8⟩,⟨x9,ya⟩,⟨yb,yc⟩,yd,⟨⟨ye,yf⟩,⟨yg,yh⟩,⟨yi,yj⟩,⟨yl,ym⟩,⟨yn,yo⟩,⟨yp,yq⟩⟩,⟨⟨yr,ys⟩,⟨yt,yu⟩,⟨yv,yw⟩,⟨yx,yy⟩,⟨yz,yA⟩,⟨yB,yC⟩⟩,⟨yD,yE,yF,yG⟩,⟨yH,yI,yJ,yK⟩,yL,yO⟩,yP,⟨hM⟩⟩:=x
  simp only at hm
  replace hw:V[(y-1).toNat]? =some [.J c0,.view (vw aj c1),.J c2,.J c3,.J c4,.J c5,.J c6,.J c7,.B c8,.B c9,.J xW,.J xX,.J xY,.J xZ,.J x0,.J x1,.J x2,.J x3,.J x4,.J x5,.J x6,.J x7,.J x8,.J x9,.J ya,.J yb,.J yc,.J yd,.J ye,.J yf,.J yg,.J yh,.J yi,.J yj,.J yl,.J ym,.J yn,.J yo,.J yp,.J yq,.J yr,.J ys,.J yt,.J yu,.J yv,.J yw,.J yx,.J yy,.J yz,.J yA,.J yB,.J yC,.J yD,.J yE,.J yF,.J yG,.J yH,.J yI,.J yJ,.J yK,.J yL,.J yO,.B yP,.view (vw aK.c hM)]:=hw
  obtain⟨zb,hJ⟩:=nmE (vw aj c1)
  obtain⟨hZ,hp⟩:=nmE (vw aK.c hM)
  rw [<-hJ,<-hp]at hw
  cbv
  refine goX hg _ k0 hT rfl ?_
  cbv
  (first|refine ae hg (dh V y i1 hr hw) ?_|refine aa hg (dh V y i1 hr hw) ?_)
  cbv
  rw [e1]
  cases hq:g .q .neq c0 n
  case true=>
   rw [bj hg,bne_iff_ne]at hq
   have hI:D=false:=by rw [hD];exact oP hy (by rw [ia,hik,hm];simpa using hq)
   cbv
   exact bk hF (hj (by rw [ha,hI];simp)).symm
  rw [bj hg,zqq]at hq
  have hK:ia ns n y=true:=by rw [ia,hik,hm];simpa using hq
  cbv
  have e3:g .w .add .i64 j 1=j+1:=by rw [aJ hg,ak _ (by omega)]
  rw [e3]
  exact gX yR (j+1) [some 0,some 1] (wkS [0,1] (by decide) ⟨⟨_,rfl,rfl,rfl⟩,⟨_,rfl,rfl,rfl⟩,trivial⟩ zr4) ⟨by omega,by omega,fun i v hi hv=>by
   by_cases hr:i<j.toNat
   ·exact k2 i v hr hv
   ·obtain rfl:i=j.toNat:=by omega
    rw [hy]at hv
    cases hv
    exact hK⟩ (by omega)
 ·have eu:g .q .neq a0 0=true:=by rw [bj hg];simpa using hu
  have z5:=hX hu
  obtain⟨u1,u2,xb,yZ⟩:=bC z5
  have y8:a0<=1048576:=Int.le_trans (rE hG u2) yY
  have hS:V[(a0-1).toNat]? =some xb.ac:=by rw [hV];exact gO yZ
  have y7:vu ns a0=xb.kids:=by unfold vu;rw [yZ]
  have z6:=(hs xb (zqd yZ))
  obtain⟨b0,b1,⟨b2,b3,b4,b5,b6,b7,b8,b9,zc,zd,ze,⟨zf,zg⟩,⟨zh,zi⟩,⟨zj,zk⟩,⟨zl,zm⟩,⟨zn,zo⟩,⟨zp,zq⟩,⟨zr,zs⟩,zt,⟨⟨zu,zv⟩,⟨zw,zx⟩,⟨zy,zz⟩,⟨zA,zB⟩,⟨zC,zD⟩,⟨zE,zF⟩⟩,⟨⟨zG,zH⟩,⟨zI,zJ⟩,⟨zK,zL⟩,⟨zM,zN⟩,⟨zO,zP⟩,⟨zQ,zR⟩⟩,⟨zS,zT,zU,zV⟩,⟨zW,zX,zY,zZ⟩,z0,z1⟩,z2,⟨y2⟩⟩:=xb
  obtain⟨z9,ab,-⟩:=z6
  simp only at y7
  replace hS:V[(a0-1).toNat]? =some [.J b0,.view (vw aj b1),.J b2,.J b3,.J b4,.J b5,.J b6,.J b7,.B b8,.B b9,.J zc,.J zd,.J ze,.J zf,.J zg,.J zh,.J zi,.J zj,.J zk,.J zl,.J zm,.J zn,.J zo,.J zp,.J zq,.J zr,.J zs,.J zt,.J zu,.J zv,.J zw,.J zx,.J zy,.J zz,.J zA,.J zB,.J zC,.J zD,.J zE,.J zF,.J zG,.J zH,.J zI,.J zJ,.J zK,.J zL,.J zM,.J zN,.J zO,.J zP,.J zQ,.J zR,.J zS,.J zT,.J zU,.J zV,.J zW,.J zX,.J zY,.J zZ,.J z0,.J z1,.B z2,.view (vw aK.c y2)]:=hS
  have cH:=ni b1 n z9
  obtain⟨Cn,y4⟩:=nmE (cnt b1 n)
  have y3:C=decide (Cn=1):=by rw [hC,EZ,y7,y4];simp [hu]
  rw [<-y4]at cH
  obtain⟨af,hN⟩:=nmE (vw aj b1)
  obtain⟨za,hO⟩:=nmE (vw aK.c y2)
  rw [<-hN,<-hO]at hS
  rw [<-hN]at cH
  cbv
  rw [eu]
  cbv
  (first|refine ae hg (dh V a0 u1 y8 hS) ?_|refine aa hg (dh V a0 u1 y8 hS) ?_)
  cbv
  rw [e1]
  (first|refine ae hg cH ?_|refine aa hg cH ?_)
  cbv
  cases hcn:g .q .neq Cn 1
  case true=>
   rw [bj hg,bne_iff_ne]at hcn
   have z3:C=false:=by rw [y3];simpa using hcn
   cbv
   exact bk hF (hj (by rw [ha,z3];simp)).symm
  rw [bj hg,zqq]at hcn
  have yT:C=true:=by rw [y3,hcn];rfl
  cbv
  refine bO hg ay (by kernel_rfl) (fun j:Int=>[(1,.p 0),(3,.i z),(4,.p 1),(5,.i j)]) (fun _=>[.bx 32 1 [.view V],.bx 119 64 [.J a0,.view he,.J a2,.J a3,.J a4,.J a5,.J a6,.J a7,.B a8,.B a9,.J h3,.J h4,.J h5,.J h6,.J h7,.J h8,.J h9,.J xa,.J xc,.J xd,.J xe,.J xf,.J xg,.J xh,.J xi,.J xj,.J xk,.J xl,.J xm,.J xn,.J xo,.J xp,.J xq,.J xr,.J xt,.J xu,.J xv,.J xw,.J xx,.J xy,.J xz,.J xA,.J xB,.J xC,.J xD,.J xE,.J xF,.J xG,.J xH,.J xI,.J xJ,.J xK,.J xL,.J xM,.J xN,.J xO,.J xP,.J xQ,.J xR,.J xS,.J xT,.J xU,.B hH,.view hf]]) (fun j:Int=>0<=j/\j<=aN he/\∀(i:Nat)(v:Int),i<j.toNat->a1[i]? =some v->ia ns n v=true) (fun j=>(aN he).toNat-j.toNat)
   0 [some 0,some 1] ⟨Int.le_refl 0,y9,fun i v hi=>by simp at hi⟩ (wkS [0,1] (by decide) ⟨⟨_,rfl,rfl,rfl⟩,⟨_,rfl,rfl,rfl⟩,trivial⟩ zr4) (fun j B2 hL yR=> ?_)
  obtain⟨k0,k1,k2⟩:=hL
  cbv
  cases hk:g .q .lss j (g .ln he)
  ·rw [bg hg,bz hg,zqo]at hk
   have yV:D=true:=by rw [hD];exact yk hU (by omega) k2
   replace ha:OK=E:=by rw [ha,yT,yV];simp
   cases hH
   ·replace hd:E= !(decide (0<aN hf)):=by rw [hd];simp
    cbv
    cases ht:g .q .gtr (g .ln hf) 0
    case true=>
     rw [cj hg,bz hg,zqp]at ht
     cbv
     exact bk hF (hj (by rw [ha,hd];simpa using ht)).symm
    rw [cj hg,bz hg,zqo]at ht
    have hh:OK=true:=by rw [ha,hd];simpa using ht
    cbv
    rw [e1,hn]
    exact gX hB (z+1) [some 0] (wkS [0] (by decide) ⟨⟨_,rfl,rfl,rfl⟩,trivial⟩ zr2) ⟨by omega,by omega,fun i y hi hy=>hW i y hi hy hh⟩ (by omega)
   ·replace hd:E= !(!TK||decide (0<aN he)):=by rw [hd];simp
    cbv
    (first|refine ae hg cT ?_|refine aa hg cT ?_)
    cases TK
    case false=>
     cbv
     exact bk hF (hj (by rw [ha,hd];rfl)).symm
    cbv
    cases ht:g .q .gtr (g .ln he) 0
    case true=>
     rw [cj hg,bz hg,zqp]at ht
     cbv
     exact bk hF (hj (by rw [ha,hd];simpa using ht)).symm
    rw [cj hg,bz hg,zqo]at ht
    have hh:OK=true:=by rw [ha,hd];simpa using ht
    cbv
    rw [e1,hn]
    exact gX hB (z+1) [some 0] (wkS [0] (by decide) ⟨⟨_,rfl,rfl,rfl⟩,trivial⟩ zr2) ⟨by omega,by omega,fun i y hi hy=>hW i y hi hy hh⟩ (by omega)
  rw [bg hg,bz hg,zqp]at hk
  cbv
  obtain⟨y,hy⟩:=pk (xs:=a1) k0 (gc hU hk)
  have hT:he[j.toNat]? =some (lc (aj y)):=by rw [hz];exact ba hy
  have ci:=gP V y
  rw [<-hP y]at ci
  refine goX hg _ k0 hT rfl ?_
  cbv
  cases hik:isN ns y
  ·rw [hik]at ci
   have hI:D=false:=by rw [hD];exact oP hy (by rw [ia,hik];rfl)
   (first|refine ae hg ci ?_|refine aa hg ci ?_)
   cbv
   exact bk hF (hj (by rw [ha,hI];simp)).symm
  rw [hik]at ci
  (first|refine ae hg ci ?_|refine aa hg ci ?_)
  obtain⟨i1,i2,x,hQ⟩:=bC hik
  have hr:y<=1048576:=Int.le_trans (rE hG i2) yY
  have hw:V[(y-1).toNat]? =some x.ac:=by rw [hV];exact gO hQ
  have hm:=tJ hQ
  obtain⟨c0,c1,⟨c2,c3,c4,c5,c6,c7,c8,c9,xW,xX,xY,⟨xZ,x0⟩,⟨x1,x2⟩,⟨x3,x4⟩,⟨x5,x6⟩,⟨x7,x8⟩,⟨x9,ya⟩,⟨yb,yc⟩,yd,⟨⟨ye,yf⟩,⟨yg,yh⟩,⟨yi,yj⟩,⟨yl,ym⟩,⟨yn,yo⟩,⟨yp,yq⟩⟩,⟨⟨yr,ys⟩,⟨yt,yu⟩,⟨yv,yw⟩,⟨yx,yy⟩,⟨yz,yA⟩,⟨yB,yC⟩⟩,⟨yD,yE,yF,yG⟩,⟨yH,yI,yJ,yK⟩,yL,yO⟩,yP,⟨hM⟩⟩:=x
  simp only at hm
  replace hw:V[(y-1).toNat]? =some [.J c0,.view (vw aj c1),.J c2,.J c3,.J c4,.J c5,.J c6,.J c7,.B c8,.B c9,.J xW,.J xX,.J xY,.J xZ,.J x0,.J x1,.J x2,.J x3,.J x4,.J x5,.J x6,.J x7,.J x8,.J x9,.J ya,.J yb,.J yc,.J yd,.J ye,.J yf,.J yg,.J yh,.J yi,.J yj,.J yl,.J ym,.J yn,.J yo,.J yp,.J yq,.J yr,.J ys,.J yt,.J yu,.J yv,.J yw,.J yx,.J yy,.J yz,.J yA,.J yB,.J yC,.J yD,.J yE,.J yF,.J yG,.J yH,.J yI,.J yJ,.J yK,.J yL,.J yO,.B yP,.view (vw aK.c hM)]:=hw
  obtain⟨zb,hJ⟩:=nmE (vw aj c1)
  obtain⟨hZ,hp⟩:=nmE (vw aK.c hM)
  rw [<-hJ,<-hp]at hw
  cbv
  refine goX hg _ k0 hT rfl ?_
  cbv
  (first|refine ae hg (dh V y i1 hr hw) ?_|refine aa hg (dh V y i1 hr hw) ?_)
  cbv
  rw [e1]
  cases hq:g .q .neq c0 n
  case true=>
   rw [bj hg,bne_iff_ne]at hq
   have hI:D=false:=by rw [hD];exact oP hy (by rw [ia,hik,hm];simpa using hq)
   cbv
   exact bk hF (hj (by rw [ha,hI];simp)).symm
  rw [bj hg,zqq]at hq
  have hK:ia ns n y=true:=by rw [ia,hik,hm];simpa using hq
  cbv
  have e3:g .w .add .i64 j 1=j+1:=by rw [aJ hg,ak _ (by omega)]
  rw [e3]
  exact gX yR (j+1) [some 0,some 1] (wkS [0,1] (by decide) ⟨⟨_,rfl,rfl,rfl⟩,⟨_,rfl,rfl,rfl⟩,trivial⟩ zr4) ⟨by omega,by omega,fun i v hi hv=>by
   by_cases hr:i<j.toNat
   ·exact k2 i v hr hv
   ·obtain rfl:i=j.toNat:=by omega
    rw [hy]at hv
    cases hv
    exact hK⟩ (by omega)
theorem vG(ns:List ag)(hl:ns.length<=1048576)(hs:∀y∈ns,y.small):PC0 72 [.agg [.view (vwA ag.ac ns)]] (.t (abl (fc ns))):=by
 obtain⟨V,hV⟩:=nmE (vwA ag.ac ns)
 have hH:aN V=(ns.length:Int):=by rw [ah,hV,bB]
 have af:0<=aN V:=by omega
 have yg:aN V<=1048576:=by omega
 have x1:∀n,isN ns n=rng n 1 (aN V):=fun n=>by rw [hH];rfl
 have cD:=fun n=>tx ns n hl
 obtain⟨R,hR⟩:=nmE (fc ns)
 rw [<-hR]
 rw [<-hV]at cD⊢
 refine ad (aM f72) ay func72 fun g F hg hF=> ?_
 cbv
 cases h12:g .q .gtr (g .ln V) 12
 case true=>
  rw [cj hg,bz hg,zqp]at h12
  cbv
  exact bk hF (by rw [hR,yN hH (by omega)])
 rw [cj hg,bz hg,zqo]at h12
 cbv
 refine bO hg ay (by kernel_rfl) (fun z:Int=>[(1,.p 0),(16,.v V),(17,.i (g .ln V)),(18,.i z)]) (fun _=>[.bx 32 1 [.view V]]) (fun z=>0<=z/\z<=aN V/\∀(i:Nat)(x:ag),i<z.toNat->ns[i]? =some x->fD ns ((i:Int)+1) x=true) (fun z=>(aN V).toNat-z.toNat)
  0 [some 0] ⟨Int.le_refl 0,af,fun i x hi=>by simp at hi⟩ (wkS [0] (by decide) ⟨⟨_,rfl,rfl,rfl⟩,trivial⟩ zr4) (fun z B an hB=> ?_)
 obtain⟨h0,h1,h2⟩:=an
 cbv
 cases hc:g .q .lss z (g .ln V)
 ·rw [bg hg,bz hg,zqo]at hc
  cbv
  exact bk hF (by rw [hR,yM hH (by omega) (by omega) h2])
 rw [bg hg,bz hg,zqp]at hc
 cbv
 obtain⟨x,hx⟩:=pk (xs:=ns) h0 (gc hH hc)
 have hS:V[z.toNat]? =some x.ac:=by rw [hV];exact gO hx
 have ao:=hs x (zqd hx)
 have ho:fD ns (z+1) x=false->R=false:=fun h=>by rw [hR];exact Bs h0 hx h
 have yi:=Ft hH h0 hc
 have yh:=IL hx
 obtain⟨n,hn⟩:=nmE (z+1)
 rw [<-hn]at ho yi yh
 obtain⟨OK,xW⟩:=nmE (fD ns n x)
 have ha:=xW
 rw [fD]at ha
 rw [<-xW]at ho
 obtain⟨A,hA⟩:=nmE (BC x.style)
 obtain⟨Dp,xV⟩:=nmE (wi ns n)
 obtain⟨Bd,xR⟩:=nmE (rng Dp 1 4)
 obtain⟨C,hC⟩:=nmE (EZ ns n x.up)
 obtain⟨D,hD⟩:=nmE (x.kids.all (ia ns n))
 obtain⟨E,hE⟩:=nmE (Jk x)
 have hQ:Bd=true->x.up≠0->isN ns x.up=true:=fun hb hu=>FG (by omega) yi yh (by rw [<-xV,<-xR];exact hb) hu
 rw [<-hA,<-xV,<-xR,<-hC,<-hD,<-hE]at ha
 have cA:=tj x.style
 have xQ:=cD n
 have cB:=bR Dp 1 4
 have cT:=th x.table.rules
 rw [<-hA]at cA
 rw [<-xV]at xQ
 rw [<-xR]at cB
 have hO:∀(i:Nat)(y:ag),i<(z+1).toNat->ns[i]? =some y->OK=true->fD ns ((i:Int)+1) y=true:=fun i y hi hy hk=>by
  by_cases hJ:i<z.toNat
  ·exact h2 i y hJ hy
  ·obtain rfl:i=z.toNat:=by omega
   rw [hx]at hy
   cases hy
   rw [show((z.toNat:Nat):Int)+1=n by omega,<-xW];exact hk
 obtain⟨a0,a1,⟨a2,a3,a4,a5,a6,a7,a8,a9,hT,hU,hW,⟨hX,hY⟩,⟨hZ,h3⟩,⟨h4,h5⟩,⟨h6,h7⟩,⟨h8,h9⟩,⟨xa,xc⟩,⟨xd,xe⟩,xf,⟨⟨xg,xh⟩,⟨xi,xj⟩,⟨xk,xl⟩,⟨xm,xn⟩,⟨xo,xp⟩,⟨xq,xr⟩⟩,⟨⟨xt,xu⟩,⟨xv,xw⟩,⟨xx,xy⟩,⟨xz,xA⟩,⟨xB,xC⟩,⟨xD,xE⟩⟩,⟨xF,xG,xH,xI⟩,⟨xJ,xK,xL,xM⟩,xN,xO⟩,hr,⟨xP⟩⟩:=x
 obtain⟨az,x9,-⟩:=ao
 replace cT:=cT x9
 simp only at hQ hC hD hE cA cT
 replace hS:V[z.toNat]? =some [.J a0,.view (vw aj a1),.J a2,.J a3,.J a4,.J a5,.J a6,.J a7,.B a8,.B a9,.J hT,.J hU,.J hW,.J hX,.J hY,.J hZ,.J h3,.J h4,.J h5,.J h6,.J h7,.J h8,.J h9,.J xa,.J xc,.J xd,.J xe,.J xf,.J xg,.J xh,.J xi,.J xj,.J xk,.J xl,.J xm,.J xn,.J xo,.J xp,.J xq,.J xr,.J xt,.J xu,.J xv,.J xw,.J xx,.J xy,.J xz,.J xA,.J xB,.J xC,.J xD,.J xE,.J xF,.J xG,.J xH,.J xI,.J xJ,.J xK,.J xL,.J xM,.J xN,.J xO,.B hr,.view (vw aK.c xP)]:=hS
 obtain⟨TK,xX⟩:=nmE (F8 xP)
 rw [<-xX]at cT
 obtain⟨hf,hw⟩:=nmE (vw aj a1)
 obtain⟨hh,hp⟩:=nmE (vw aK.c xP)
 have x7:=rD hw
 have x8:=rD hp
 have aq:0<=aN hf:=by omega
 have aw:aN hf<=1048576:=by omega
 rw [<-hw,<-hp]at hS
 rw [<-hp]at cT
 have e1:g .w .add .i64 z 1=n:=by rw [aJ hg,ak _ (by omega),hn]
 refine goX hg _ h0 hS rfl ?_
 cbv
 rw [e1]
 (first|refine ae hg cA ?_|refine aa hg cA ?_)
 cases A
 case false=>
  cbv
  exact bk hF (ho ha).symm
 cbv
 (first|refine ae hg xQ ?_|refine aa hg xQ ?_)
 cbv
 (first|refine ae hg cB ?_|refine aa hg cB ?_)
 cases Bd
 case false=>
  cbv
  exact bk hF (ho (by rw [ha];rfl)).symm
 replace hQ:=hQ rfl
 have hd:E= !((hr&&(!TK||decide (0<aN hf)))||(!hr&&decide (0<aN hh))):=by rw [hE,xX,x7,x8];rfl
 clear hE xX
 cbv
 refine bO hg ay (by kernel_rfl) (fun j:Int=>[(1,.p 0),(4,.p 1),(5,.i n),(16,.v V),(17,.i (g .ln V)),(18,.i z),(37,.v hf),(38,.i (g .ln hf)),(39,.i j)]) (fun _=>[.bx 32 1 [.view V],.bx 119 64 [.J a0,.view hf,.J a2,.J a3,.J a4,.J a5,.J a6,.J a7,.B a8,.B a9,.J hT,.J hU,.J hW,.J hX,.J hY,.J hZ,.J h3,.J h4,.J h5,.J h6,.J h7,.J h8,.J h9,.J xa,.J xc,.J xd,.J xe,.J xf,.J xg,.J xh,.J xi,.J xj,.J xk,.J xl,.J xm,.J xn,.J xo,.J xp,.J xq,.J xr,.J xt,.J xu,.J xv,.J xw,.J xx,.J xy,.J xz,.J xA,.J xB,.J xC,.J xD,.J xE,.J xF,.J xG,.J xH,.J xI,.J xJ,.J xK,.J xL,.J xM,.J xN,.J xO,.B hr,.view hh]]) (fun j:Int=>0<=j/\j<=aN hf/\∀(i:Nat)(v:Int),i<j.toNat->a1[i]? =some v->ia ns n v=true) (fun j=>(aN hf).toNat-j.toNat)
  0 [some 0,some 1] ⟨Int.le_refl 0,aq,fun i v hi=>by simp at hi⟩ (wkS [0,1] (by decide) ⟨⟨_,rfl,rfl,rfl⟩,⟨_,rfl,rfl,rfl⟩,trivial⟩ zr9) (fun j B2 x3 z9=> ?_)
 obtain⟨k0,k1,k2⟩:=x3
 cbv
 cases hk:g .q .lss j (g .ln hf)
 case true=>
  rw [bg hg,bz hg,zqp]at hk
  cbv
  obtain⟨y,hy⟩:=pk (xs:=a1) k0 (gc x7 hk)
  have x6:hf[j.toNat]? =some (lc (aj y)):=by rw [hw];exact ba hy
  have ci:=jW V y
  rw [<-x1 y]at ci
  refine goX hg _ k0 x6 rfl ?_
  cbv
  cases hik:isN ns y
  ·rw [hik]at ci
   have xU:D=false:=by rw [hD];exact oP hy (by rw [ia,hik];rfl)
   (first|refine ae hg ci ?_|refine aa hg ci ?_)
   cbv
   exact bk hF (ho (by rw [ha,xU];simp)).symm
  rw [hik]at ci
  (first|refine ae hg ci ?_|refine aa hg ci ?_)
  obtain⟨i1,i2,x,ym⟩:=bC hik
  have hJ:y<=1048576:=Int.le_trans (rE hH i2) yg
  have hN:V[(y-1).toNat]? =some x.ac:=by rw [hV];exact gO ym
  have hI:=tJ ym
  obtain⟨c0,c1,⟨c2,c3,c4,c5,c6,c7,c8,c9,zi,zj,zk,⟨zl,zm⟩,⟨zn,zo⟩,⟨zp,zq⟩,⟨zr,zs⟩,⟨zt,zu⟩,⟨zv,zw⟩,⟨zx,zy⟩,zz,⟨⟨zA,zB⟩,⟨zC,zD⟩,⟨zE,zF⟩,⟨zG,zH⟩,⟨zI,zJ⟩,⟨zK,zL⟩⟩,⟨⟨zM,zN⟩,⟨zO,zP⟩,⟨zQ,zR⟩,⟨zS,zT⟩,⟨zU,zV⟩,⟨zW,zX⟩⟩,⟨zY,zZ,z0,z1⟩,⟨z2,z3,z4,z5⟩,z6,z7⟩,z8,⟨yb⟩⟩:=x
  simp only at hI
  replace hN:V[(y-1).toNat]? =some [.J c0,.view (vw aj c1),.J c2,.J c3,.J c4,.J c5,.J c6,.J c7,.B c8,.B c9,.J zi,.J zj,.J zk,.J zl,.J zm,.J zn,.J zo,.J zp,.J zq,.J zr,.J zs,.J zt,.J zu,.J zv,.J zw,.J zx,.J zy,.J zz,.J zA,.J zB,.J zC,.J zD,.J zE,.J zF,.J zG,.J zH,.J zI,.J zJ,.J zK,.J zL,.J zM,.J zN,.J zO,.J zP,.J zQ,.J zR,.J zS,.J zT,.J zU,.J zV,.J zW,.J zX,.J zY,.J zZ,.J z0,.J z1,.J z2,.J z3,.J z4,.J z5,.J z6,.J z7,.B z8,.view (vw aK.c yb)]:=hN
  obtain⟨av,xY⟩:=nmE (vw aj c1)
  obtain⟨yo,hL⟩:=nmE (vw aK.c yb)
  rw [<-xY,<-hL]at hN
  cbv
  (first|refine ae hg (gg V y i1 hJ hN) ?_|refine aa hg (gg V y i1 hJ hN) ?_)
  cbv
  cases hq:g .q .neq c0 n
  case true=>
   rw [bj hg,bne_iff_ne]at hq
   have xU:D=false:=by rw [hD];exact oP hy (by rw [ia,hik,hI];simpa using hq)
   cbv
   exact bk hF (ho (by rw [ha,xU];simp)).symm
  rw [bj hg,zqq]at hq
  have x2:ia ns n y=true:=by rw [ia,hik,hI];simpa using hq
  cbv
  have e3:g .w .add .i64 j 1=j+1:=by rw [aJ hg,ak _ (by omega)]
  rw [e3]
  exact gX z9 (j+1) [some 0,some 1] (wkS [0,1] (by decide) ⟨⟨_,rfl,rfl,rfl⟩,⟨_,rfl,rfl,rfl⟩,trivial⟩ zr9) ⟨by omega,by omega,fun i v hi hv=>by
   by_cases hJ:i<j.toNat
   ·exact k2 i v hJ hv
   ·obtain rfl:i=j.toNat:=by omega
    rw [hy]at hv
    cases hv
    exact x2⟩ (by omega)
 rw [bg hg,bz hg,zqo]at hk
 have yf:D=true:=by rw [hD];exact yk x7 (by omega) k2
 by_cases hu:a0=0
 ·have xS:C=true:=by rw [hC,EZ,hu];rfl
  have eu:g .q .neq a0 0=false:=by rw [bj hg];simpa using hu
  cbv
  rw [eu]
  cbv
  replace ha:OK=E:=by rw [ha,xS,yf];simp
  cases hr
  ·replace hd:E= !(decide (0<aN hh)):=by rw [hd];simp
   cbv
   cases ht:g .q .gtr (g .ln hh) 0
   case true=>
    rw [cj hg,bz hg,zqp]at ht
    cbv
    exact bk hF (ho (by rw [ha,hd];simpa using ht)).symm
   rw [cj hg,bz hg,zqo]at ht
   have hj:OK=true:=by rw [ha,hd];simpa using ht
   cbv
   rw [e1,hn]
   exact gX hB (z+1) [some 0] (wkS [0] (by decide) ⟨⟨_,rfl,rfl,rfl⟩,trivial⟩ zr4) ⟨by omega,by omega,fun i y hi hy=>hO i y hi hy hj⟩ (by omega)
  ·replace hd:E= !(!TK||decide (0<aN hf)):=by rw [hd];simp
   cbv
   (first|refine ae hg cT ?_|refine aa hg cT ?_)
   cases TK
   case false=>
    cbv
    exact bk hF (ho (by rw [ha,hd];rfl)).symm
   cbv
   cases ht:g .q .gtr (g .ln hf) 0
   case true=>
    rw [cj hg,bz hg,zqp]at ht
    cbv
    exact bk hF (ho (by rw [ha,hd];simpa using ht)).symm
   rw [cj hg,bz hg,zqo]at ht
   have hj:OK=true:=by rw [ha,hd];simpa using ht
   cbv
   rw [e1,hn]
   exact gX hB (z+1) [some 0] (wkS [0] (by decide) ⟨⟨_,rfl,rfl,rfl⟩,trivial⟩ zr4) ⟨by omega,by omega,fun i y hi hy=>hO i y hi hy hj⟩ (by omega)
 ·have eu:g .q .neq a0 0=true:=by rw [bj hg];simpa using hu
  have al:=hQ hu
  obtain⟨u1,u2,xb,x5⟩:=bC al
  have yl:a0<=1048576:=Int.le_trans (rE hH u2) yg
  have hM:V[(a0-1).toNat]? =some xb.ac:=by rw [hV];exact gO x5
  have yj:vu ns a0=xb.kids:=by unfold vu;rw [x5]
  have am:=(hs xb (zqd x5))
  obtain⟨b0,b1,⟨b2,b3,b4,b5,b6,b7,b8,b9,yp,yq,yr,⟨ys,yt⟩,⟨yu,yv⟩,⟨yw,yx⟩,⟨yy,yz⟩,⟨yA,yB⟩,⟨yC,yD⟩,⟨yE,yF⟩,yG,⟨⟨yH,yI⟩,⟨yJ,yK⟩,⟨yL,yO⟩,⟨yP,yQ⟩,⟨yR,yS⟩,⟨yT,yU⟩⟩,⟨⟨yV,yW⟩,⟨yX,yY⟩,⟨yZ,y0⟩,⟨y1,y2⟩,⟨y3,y4⟩,⟨y5,y6⟩⟩,⟨y7,y8,y9,za⟩,⟨zb,zc,zd,ze⟩,zf,zg⟩,zh,⟨ya⟩⟩:=xb
  obtain⟨aA,au,-⟩:=am
  simp only at yj
  replace hM:V[(a0-1).toNat]? =some [.J b0,.view (vw aj b1),.J b2,.J b3,.J b4,.J b5,.J b6,.J b7,.B b8,.B b9,.J yp,.J yq,.J yr,.J ys,.J yt,.J yu,.J yv,.J yw,.J yx,.J yy,.J yz,.J yA,.J yB,.J yC,.J yD,.J yE,.J yF,.J yG,.J yH,.J yI,.J yJ,.J yK,.J yL,.J yO,.J yP,.J yQ,.J yR,.J yS,.J yT,.J yU,.J yV,.J yW,.J yX,.J yY,.J yZ,.J y0,.J y1,.J y2,.J y3,.J y4,.J y5,.J y6,.J y7,.J y8,.J y9,.J za,.J zb,.J zc,.J zd,.J ze,.J zf,.J zg,.B zh,.view (vw aK.c ya)]:=hM
  obtain⟨Cn,ye⟩:=nmE (cnt b1 n)
  have yd:C=decide (Cn=1):=by rw [hC,EZ,yj,ye];simp [hu]
  obtain⟨hm,hG⟩:=nmE (vw aj b1)
  obtain⟨yn,hK⟩:=nmE (vw aK.c ya)
  have ap:=rD hG
  have ar:0<=aN hm:=by omega
  have ax:aN hm<=1048576:=by omega
  have xZ:∀z:Int,aN hm<=z->xT (fun k=>if k=n then 1 else 0) b1 z.toNat=Cn:=fun z hz=>by rw [ye];exact lU _ (by omega)
  rw [<-hG,<-hK]at hM
  cbv
  rw [eu]
  cbv
  (first|refine ae hg (gg V a0 u1 yl hM) ?_|refine aa hg (gg V a0 u1 yl hM) ?_)
  cbv
  refine bO hg ay (by kernel_rfl) (fun s:Int×Int=>[(1,.p 0),(4,.p 1),(5,.i n),(8,.i s.2),(16,.v V),(17,.i (g .ln V)),(18,.i z),(63,.v hm),(64,.i (g .ln hm)),(65,.i s.1)]) (fun _=>[.bx 32 1 [.view V],.bx 119 64 [.J a0,.view hf,.J a2,.J a3,.J a4,.J a5,.J a6,.J a7,.B a8,.B a9,.J hT,.J hU,.J hW,.J hX,.J hY,.J hZ,.J h3,.J h4,.J h5,.J h6,.J h7,.J h8,.J h9,.J xa,.J xc,.J xd,.J xe,.J xf,.J xg,.J xh,.J xi,.J xj,.J xk,.J xl,.J xm,.J xn,.J xo,.J xp,.J xq,.J xr,.J xt,.J xu,.J xv,.J xw,.J xx,.J xy,.J xz,.J xA,.J xB,.J xC,.J xD,.J xE,.J xF,.J xG,.J xH,.J xI,.J xJ,.J xK,.J xL,.J xM,.J xN,.J xO,.B hr,.view hh]]) (fun s=>0<=s.1/\s.1<=aN hm/\0<=s.2/\s.2<=s.1/\s.2=xT (fun k=>if k=n then 1 else 0) b1 s.1.toNat) (fun s=>(aN hm).toNat-s.1.toNat)
   (0,0) [some 0,some 1] ⟨Int.le_refl 0,ar,Int.le_refl 0,Int.le_refl 0,(jz _ _).symm⟩ (wkS [0,1] (by decide) ⟨⟨_,rfl,rfl,rfl⟩,⟨_,rfl,rfl,rfl⟩,trivial⟩ ⟨rfl,rfl,rfl,rfl,rfl,rfl,rfl,rfl,rfl,rfl,trivial⟩) (fun s B3 x4 yc=> ?_)
  obtain⟨i,d⟩:=s
  obtain⟨q0,q1,q2,q3,q4⟩:=x4
  simp only at q0 q1 q2 q3 q4
  cbv
  cases hq:g .q .lss i (g .ln hm)
  case true=>
   rw [bg hg,bz hg,zqp]at hq
   cbv
   obtain⟨y,hy⟩:=pk (xs:=b1) q0 (gc ap hq)
   have x6:hm[i.toNat]? =some (lc (aj y)):=by rw [hG];exact ba hy
   have hP:=jA (fun k:Int=>if k=n then(1:Int)else 0) hy
   have e3:g .w .add .i64 i 1=i+1:=by rw [aJ hg,ak _ (by omega)]
   refine goX hg _ q0 x6 rfl ?_
   cbv
   cases he:g .q .eql y n
   ·have x0:y≠n:=by rw [bn hg]at he;simpa using he
    simp only [if_neg x0]at hP
    cbv
    rw [e3]
    exact gX yc (i+1,d) [some 0,some 1] (wkS [0,1] (by decide) ⟨⟨_,rfl,rfl,rfl⟩,⟨_,rfl,rfl,rfl⟩,trivial⟩ ⟨rfl,rfl,rfl,rfl,rfl,rfl,rfl,rfl,rfl,rfl,trivial⟩) ⟨by simp only;omega,by simp only;omega,q2,by simp only;omega,by simp only;rw [show(i+1).toNat=i.toNat+1 by omega,hP];omega⟩ (by show(aN hm).toNat-(i+1).toNat<(aN hm).toNat-i.toNat;omega)
   ·have x0:y=n:=by rw [bn hg]at he;simpa using he
    simp only [if_pos x0]at hP
    have e4:g .w .add .i64 d 1=d+1:=by rw [aJ hg,ak _ (by omega)]
    cbv
    rw [e3,e4]
    exact gX yc (i+1,d+1) [some 0,some 1] (wkS [0,1] (by decide) ⟨⟨_,rfl,rfl,rfl⟩,⟨_,rfl,rfl,rfl⟩,trivial⟩ ⟨rfl,rfl,rfl,rfl,rfl,rfl,rfl,rfl,rfl,rfl,trivial⟩) ⟨by simp only;omega,by simp only;omega,by simp only;omega,by simp only;omega,by simp only;rw [show(i+1).toNat=i.toNat+1 by omega,hP];omega⟩ (by show(aN hm).toNat-(i+1).toNat<(aN hm).toNat-i.toNat;omega)
  rw [bg hg,bz hg,zqo]at hq
  have ai:d=Cn:=by rw [q4,xZ i (by omega)]
  subst ai
  cbv
  cases hcn:g .q .neq d 1
  case true=>
   rw [bj hg,bne_iff_ne]at hcn
   have ab:C=false:=by rw [yd];simpa using hcn
   cbv
   exact bk hF (ho (by rw [ha,ab];simp)).symm
  rw [bj hg,zqq]at hcn
  have xS:C=true:=by rw [yd,hcn];rfl
  cbv
  replace ha:OK=E:=by rw [ha,xS,yf];simp
  cases hr
  ·replace hd:E= !(decide (0<aN hh)):=by rw [hd];simp
   cbv
   cases ht:g .q .gtr (g .ln hh) 0
   case true=>
    rw [cj hg,bz hg,zqp]at ht
    cbv
    exact bk hF (ho (by rw [ha,hd];simpa using ht)).symm
   rw [cj hg,bz hg,zqo]at ht
   have hj:OK=true:=by rw [ha,hd];simpa using ht
   cbv
   rw [e1,hn]
   exact gX hB (z+1) [some 0] (wkS [0] (by decide) ⟨⟨_,rfl,rfl,rfl⟩,trivial⟩ zr4) ⟨by omega,by omega,fun i y hi hy=>hO i y hi hy hj⟩ (by omega)
  ·replace hd:E= !(!TK||decide (0<aN hf)):=by rw [hd];simp
   cbv
   (first|refine ae hg cT ?_|refine aa hg cT ?_)
   cases TK
   case false=>
    cbv
    exact bk hF (ho (by rw [ha,hd];rfl)).symm
   cbv
   cases ht:g .q .gtr (g .ln hf) 0
   case true=>
    rw [cj hg,bz hg,zqp]at ht
    cbv
    exact bk hF (ho (by rw [ha,hd];simpa using ht)).symm
   rw [cj hg,bz hg,zqo]at ht
   have hj:OK=true:=by rw [ha,hd];simpa using ht
   cbv
   rw [e1,hn]
   exact gX hB (z+1) [some 0] (wkS [0] (by decide) ⟨⟨_,rfl,rfl,rfl⟩,trivial⟩ zr4) ⟨by omega,by omega,fun i y hi hy=>hO i y hi hy hj⟩ (by omega)
def DT(x:ag)(K R:LLA):List AC:= .J x.up:: .view K::(lc (ao.c x.style)++[.B x.measured,.view R])
theorem zw(x:ag):x.ac=DT x (vw aj x.kids) (vw aK.c x.table.rules):=rfl
theorem xK{p:Int->Bool}{z:Int}{x:Int}(h0:0<=z)(hx:xs[z.toNat]? =some x):(xs.take (z+1).toNat).filter p=(xs.take z.toNat).filter p++if p x then [x]else []:=by
 rw [show(z+1).toNat=z.toNat+1 by omega,List.take_add_one,hx,List.filter_append]
 simp only [Option.toList_some]
 cases h:p x<;>simp [h]
theorem wu(xs ys:List Int):vw aj (xs++ys)=vw aj xs++vw aj ys:=by simp [vw]
theorem dv(ns:List ag)(n:Int)(x:ag)(h1:1<=n)(h2:n<=1048576)(hx:ns[(n-1).toNat]? =some x)(V K R:LLA)(hV:V=vwA ag.ac ns)(hK:K=vw aj x.kids)(hR:R=vw aK.c x.table.rules):PC0 75 [.agg [.view V],ai n] (.t (.agg (DT x K R))):=by
 subst hV hK hR
 rw [<-zw]
 obtain⟨a0,a1,⟨a2,a3,a4,a5,a6,a7,a8,a9,ha,hb,hc,⟨hd,he⟩,⟨hf,hg⟩,⟨hh,hi⟩,⟨hj,hk⟩,⟨hl,hm⟩,⟨hn,ho⟩,⟨hp,hq⟩,hr,⟨⟨hs,ht⟩,⟨hu,hv⟩,⟨hw,hy⟩,⟨hz,hA⟩,⟨hB,hC⟩,⟨hD,hE⟩⟩,⟨⟨hF,hG⟩,⟨hH,hI⟩,⟨hJ,hL⟩,⟨hM,hN⟩,⟨hO,hP⟩,⟨hQ,hS⟩⟩,⟨hT,hU,hW,hX⟩,⟨hY,hZ,h0,h3⟩,h4,h5⟩,h6,⟨h7⟩⟩:=x
 exact gg _ n h1 h2 (gO hx)
theorem bL(ns:List ag)(n:Int)(x:ag)(h1:1<=n)(h2:n<=1048576)(hx:ns[(n-1).toNat]? =some x)(V K R:LLA)(hV:V=vwA ag.ac ns)(hK:K=vw aj x.kids)(hR:R=vw aK.c x.table.rules):PC0 57 [.agg [.view V],ai n] (.t (.agg (DT x K R))):=by
 subst hV hK hR
 rw [<-zw]
 obtain⟨a0,a1,⟨a2,a3,a4,a5,a6,a7,a8,a9,ha,hb,hc,⟨hd,he⟩,⟨hf,hg⟩,⟨hh,hi⟩,⟨hj,hk⟩,⟨hl,hm⟩,⟨hn,ho⟩,⟨hp,hq⟩,hr,⟨⟨hs,ht⟩,⟨hu,hv⟩,⟨hw,hy⟩,⟨hz,hA⟩,⟨hB,hC⟩,⟨hD,hE⟩⟩,⟨⟨hF,hG⟩,⟨hH,hI⟩,⟨hJ,hL⟩,⟨hM,hN⟩,⟨hO,hP⟩,⟨hQ,hS⟩⟩,⟨hT,hU,hW,hX⟩,⟨hY,hZ,h0,h3⟩,h4,h5⟩,h6,⟨h7⟩⟩:=x
 exact dh _ n h1 h2 (gO hx)
theorem jv(h:fc ns=true){x:ag}(h1:1<=n)(hx:ns[(n-1).toNat]? =some x):∀k∈x.kids,isN ns k=true:=fun k hk=>by
 simp only [fc,zqs]at h
 have:=(jZ ns ns 0).1 h.2 _ x hx
 simp only [fD,zqs,zqf,ia]at this
 exact(this.2.2.2.1 k hk).1
end Go.Proofs.YtkicjdeddpihaaaGreat
