/- Boxes that are placed apart: the children, the law of their spaces. -/
import Derived.Test.YtkicjdeddpihaaaGreatS1az
set_option linter.unusedVariables false
set_option linter.unusedSimpArgs false
set_option maxHeartbeats 16000000
namespace Go.Proofs.YtkicjdeddpihaaaGreat
open Go.ChangeShapes Go.WideShapes Go.ChangeAt Go.RowKit Am Go.Proofs.Tryz
set_option maxRecDepth 100000
def vG(ns:List ag)(n:Int):List Int:=match ns[(n-1).toNat]? with|some x=>x.kids|none=>[]
def ig(ns:List ag)(n:Int)(k:Int):Bool:=isN ns k&&decide (upN ns k=n)
def Jw(x:ag):Bool:= !((x.measured&&(!Gn x.table.rules||decide ((0:Int)<(x.kids.length:Int))))||(!x.measured&&decide ((0:Int)<(x.table.rules.length:Int))))
def Fj(ns:List ag)(n up:Int):Bool:=decide (up=0)||decide (cnt (vG ns up) n=1)
def fF(ns:List ag)(n:Int)(x:ag):Bool:=BO x.style&&(rng (wj ns n) 1 4&&(Fj ns n x.up&&(x.kids.all (ig ns n)&&Jw x)))
def goT(ns:List ag):List ag->Int->Bool
 | [],_=>true
 |x::xs,i=>fF ns (i+1) x&&goT ns xs (i+1)
def eV(ns:List ag):Bool:=decide ((ns.length:Int)<=12)&&goT ns ns 0
theorem j7(ns:List ag):∀(xs:List ag)(k:Int),goT ns xs k=true↔∀(i:Nat)(x:ag),xs[i]? =some x->fF ns (k+(i:Int)+1) x=true
 | [],k=>by simp [goT]
 |x::xs,k=>by
  simp only [goT,zqs]
  rw [j7 ns xs (k+1)]
  constructor
  ·rintro⟨h1,h2⟩ i y hy
   cases i with
   |zero=>simp at hy;subst hy;simpa using h1
   |succ i=>have:=h2 i y (by simpa using hy);rw [show k+((i+1:Nat):Int)+1=k+1+(i:Int)+1 by omega];exact this
  ·intro h
   refine⟨by simpa using h 0 x rfl,fun i y hy=> ?_⟩
   have:=h (i+1) y (by simpa using hy)
   rw [show k+((i+1:Nat):Int)+1=k+1+(i:Int)+1 by omega]at this
   exact this
variable {ns:List ag}
theorem BG{z:Int}{x:ag}(h0:0<=z)(hx:ns[z.toNat]? =some x)(h:fF ns (z+1) x=false):eV ns=false:=by
 cases hg:goT ns ns 0
 ·simp [eV,hg]
 ·have:=(j7 ns ns 0).1 hg z.toNat x hx
  rw [show(0:Int)+((z.toNat:Nat):Int)+1=z+1 by omega,h]at this
  cases this
variable {z M:Int}
theorem yX(hM:M=(ns.length:Int))(h12:M<=12)(hz:M<=z)(h:∀(i:Nat)(x:ag),i<z.toNat->ns[i]? =some x->fF ns ((i:Int)+1) x=true):eV ns=true:=by
 have hg:goT ns ns 0=true:=(j7 ns ns 0).2 fun i x hx=>by
  have hi:=(List.getElem?_eq_some_iff.1 hx).1
  have:=h i x (by omega) hx
  rwa [show(0:Int)+(i:Int)+1=(i:Int)+1 by omega]
 simp only [eV,hg,Bool.and_true,zqp]
 omega
theorem yY{M:Int}(hM:M=(ns.length:Int))(h:¬M<=12):eV ns=false:=by
 simp only [eV,Bool.and_eq_false_iff,zqo]
 left;omega
variable {n:Int}
theorem FV{x:ag}(h0:n≠0)(hn:isN ns n=true)(hx:ns[(n-1).toNat]? =some x)(hd:rng (wj ns n) 1 4=true)(hu:x.up≠0):isN ns x.up=true:=by
 cases hi:isN ns x.up
 ·exfalso
  have hl:ns.length≠0:=fun h=>by
   have:=(bD hn).2.1
   have:=(bD hn).1
   omega
  obtain⟨L,hL⟩:∃L,ns.length=L+1:=⟨ns.length-1,by omega⟩
  rw [wj,hL,kh ns h0 hn,tS hx,wi ns _ _ _ hu hi]at hd
  simp [rng]at hd
 ·rfl
variable {xs:List Int}
theorem oZ{i:Nat}{k:Int}(h:xs[i]? =some k)(hk:ig ns n k=false):xs.all (ig ns n)=false:=by
 rw [List.all_eq_false]
 exact⟨k,zqd h,by rw [hk];decide⟩
theorem yv(hM:M=(xs.length:Int))(hz:M<=z)(h:∀(i:Nat)(v:Int),i<z.toNat->xs[i]? =some v->ig ns n v=true):xs.all (ig ns n)=true:=by
 rw [zqf]
 exact qL hM hz h
theorem rO{n:Nat}{a z:Int}(h:a=(n:Int))(hz:z<=(n:Int)):z<=a:=h▸hz
theorem FJ(hM:M=(ns.length:Int))(h0:0<=z)(h1:z<M):isN ns (z+1)=true:=by
 simp only [isN,rng,zqs,zqp];omega
theorem IZ{z:Int}{x:ag}(h:ns[z.toNat]? =some x):ns[(z+1-1).toNat]? =some x:=by rw [show z+1-1=z by omega];exact h
theorem rN{α:Type}{c:α->Array Value}{xs:List α}{V:LLA}(hV:V=vw c xs):aM V=(xs.length:Int):=by rw [hV,ah,ar]
theorem nu(ns:List ag)(hl:ns.length<=1048576)(hs:∀y∈ns,y.small):PC0 54 [.agg [.view (vwA ag.ac ns)]] (.t (abl (eV ns))):=by
 obtain⟨V,hV⟩:=nmE (vwA ag.ac ns)
 have hG:aM V=(ns.length:Int):=by rw [ah,hV,bB]
 have z5:0<=aM V:=by omega
 have yZ:aM V<=1048576:=by omega
 have hQ:∀n,isN ns n=rng n 1 (aM V):=fun n=>by rw [hG];rfl
 have cD:=fun n=>sU ns n hl
 obtain⟨R,hR⟩:=nmE (eV ns)
 rw [<-hR]
 rw [<-hV]at cD⊢
 refine ae (aK f54) ay func54 fun g F hg hF=> ?_
 cbv
 cases h12:g .q .gtr (g .ln V) 12
 case true=>
  rw [cj hg,bA hg,zqp]at h12
  cbv
  exact bk hF (by rw [hR,yY hG (by omega)])
 rw [cj hg,bA hg,zqo]at h12
 cbv
 refine bO hg ay (by kernel_rfl) (fun z:Int=>[(1,.p 0),(3,.i z)]) (fun _=>[.bx 32 1 [.view V]]) (fun z=>0<=z/\z<=aM V/\∀(i:Nat)(x:ag),i<z.toNat->ns[i]? =some x->fF ns ((i:Int)+1) x=true) (fun z=>(aM V).toNat-z.toNat)
  0 [some 0] ⟨Int.le_refl 0,z5,fun i x hi=>by simp at hi⟩ (wkS [0] (by decide) ⟨⟨_,rfl,rfl,rfl⟩,trivial⟩ zr2) (fun z B z8 hB=> ?_)
 obtain⟨h0,h1,h2⟩:=z8
 cbv
 cases hc:g .q .lss z (g .ln V)
 ·rw [bg hg,bA hg,zqo]at hc
  cbv
  exact bk hF (by rw [hR,yX hG (by omega) (by omega) h2])
 rw [bg hg,bA hg,zqp]at hc
 cbv
 obtain⟨x,hx⟩:=pJ (xs:=ns) h0 (gg hG hc)
 have hZ:V[z.toNat]? =some x.ac:=by rw [hV];exact gR hx
 have z9:=hs x (zqd hx)
 have hj:fF ns (z+1) x=false->R=false:=fun h=>by rw [hR];exact BG h0 hx h
 have y7:=FJ hG h0 hc
 have y6:=IZ hx
 obtain⟨n,hn⟩:=nmE (z+1)
 rw [<-hn]at hj y7 y6
 obtain⟨OK,yV⟩:=nmE (fF ns n x)
 have ha:=yV
 rw [fF]at ha
 rw [<-yV]at hj
 obtain⟨A,hA⟩:=nmE (BO x.style)
 obtain⟨Dp,yT⟩:=nmE (wj ns n)
 obtain⟨Bd,yR⟩:=nmE (rng Dp 1 4)
 obtain⟨C,hC⟩:=nmE (Fj ns n x.up)
 obtain⟨D,hD⟩:=nmE (x.kids.all (ig ns n))
 obtain⟨E,hE⟩:=nmE (Jw x)
 have hY:Bd=true->x.up≠0->isN ns x.up=true:=fun hb hu=>FV (by omega) y7 y6 (by rw [<-yT,<-yR];exact hb) hu
 rw [<-hA,<-yT,<-yR,<-hC,<-hD,<-hE]at ha
 have cA:=sO x.style
 have yP:=cD n
 have cB:=bj Dp 1 4
 have cT:=sN x.table.rules
 rw [<-hA]at cA
 rw [<-yT]at yP
 rw [<-yR]at cB
 have hX:∀(i:Nat)(y:ag),i<(z+1).toNat->ns[i]? =some y->OK=true->fF ns ((i:Int)+1) y=true:=fun i y hi hy hk=>by
  by_cases hr:i<z.toNat
  ·exact h2 i y hr hy
  ·obtain rfl:i=z.toNat:=by omega
   rw [hx]at hy
   cases hy
   rw [show((z.toNat:Nat):Int)+1=n by omega,<-yV];exact hk
 obtain⟨a0,a1,⟨a2,a3,a4,a5,a6,a7,a8,a9,h4,h5,h6,⟨h7,h8⟩,⟨h9,xa⟩,⟨xc,xd⟩,⟨xe,xf⟩,⟨xg,xh⟩,⟨xi,xj⟩,⟨xk,xl⟩,xm,⟨⟨xn,xo⟩,⟨xp,xq⟩,⟨xr,xt⟩,⟨xu,xv⟩,⟨xw,xx⟩,⟨xy,xz⟩⟩,⟨⟨xA,xB⟩,⟨xC,xD⟩,⟨xE,xF⟩,⟨xG,xH⟩,⟨xI,xJ⟩,⟨xK,xL⟩⟩,⟨xM,xN,xO,xP⟩,⟨xQ,xR,xS,xT⟩,xU,xV⟩,hH,⟨xW⟩⟩:=x
 obtain⟨al,y2,-⟩:=z9
 replace cT:=cT y2
 simp only at hY hC hD hE cA cT
 replace hZ:V[z.toNat]? =some [.J a0,.view (vw aj a1),.J a2,.J a3,.J a4,.J a5,.J a6,.J a7,.B a8,.B a9,.J h4,.J h5,.J h6,.J h7,.J h8,.J h9,.J xa,.J xc,.J xd,.J xe,.J xf,.J xg,.J xh,.J xi,.J xj,.J xk,.J xl,.J xm,.J xn,.J xo,.J xp,.J xq,.J xr,.J xt,.J xu,.J xv,.J xw,.J xx,.J xy,.J xz,.J xA,.J xB,.J xC,.J xD,.J xE,.J xF,.J xG,.J xH,.J xI,.J xJ,.J xK,.J xL,.J xM,.J xN,.J xO,.J xP,.J xQ,.J xR,.J xS,.J xT,.J xU,.J xV,.B hH,.view (vw aI.c xW)]:=hZ
 obtain⟨TK,yW⟩:=nmE (Gn xW)
 rw [<-yW]at cT
 obtain⟨he,hz⟩:=nmE (vw aj a1)
 obtain⟨hf,ho⟩:=nmE (vw aI.c xW)
 have hW:=rN hz
 have y1:=rN ho
 have za:0<=aM he:=by omega
 have ak:aM he<=1048576:=by omega
 rw [<-hz,<-ho]at hZ
 rw [<-ho]at cT
 have e1:g .w .add .i64 z 1=n:=by rw [aJ hg,aq _ (by omega),hn]
 refine goX hg _ h0 hZ rfl ?_
 cbv
 (first|refine ad hg cA ?_|refine aa hg cA ?_)
 cases A
 case false=>
  cbv
  exact bk hF (hj ha).symm
 cbv
 rw [e1]
 (first|refine ad hg yP ?_|refine aa hg yP ?_)
 cbv
 (first|refine ad hg cB ?_|refine aa hg cB ?_)
 cases Bd
 case false=>
  cbv
  exact bk hF (hj (by rw [ha];rfl)).symm
 replace hY:=hY rfl
 have hd:E= !((hH&&(!TK||decide (0<aM he)))||(!hH&&decide (0<aM hf))):=by rw [hE,yW,hW,y1];rfl
 clear hE yW
 by_cases hu:a0=0
 ·have yS:C=true:=by rw [hC,Fj,hu];rfl
  have eu:g .q .neq a0 0=false:=by rw [bh hg];simpa using hu
  cbv
  rw [eu]
  cbv
  refine bO hg ay (by kernel_rfl) (fun j:Int=>[(1,.p 0),(3,.i z),(4,.p 1),(5,.i j)]) (fun _=>[.bx 32 1 [.view V],.bx 119 64 [.J a0,.view he,.J a2,.J a3,.J a4,.J a5,.J a6,.J a7,.B a8,.B a9,.J h4,.J h5,.J h6,.J h7,.J h8,.J h9,.J xa,.J xc,.J xd,.J xe,.J xf,.J xg,.J xh,.J xi,.J xj,.J xk,.J xl,.J xm,.J xn,.J xo,.J xp,.J xq,.J xr,.J xt,.J xu,.J xv,.J xw,.J xx,.J xy,.J xz,.J xA,.J xB,.J xC,.J xD,.J xE,.J xF,.J xG,.J xH,.J xI,.J xJ,.J xK,.J xL,.J xM,.J xN,.J xO,.J xP,.J xQ,.J xR,.J xS,.J xT,.J xU,.J xV,.B hH,.view hf]]) (fun j:Int=>0<=j/\j<=aM he/\∀(i:Nat)(v:Int),i<j.toNat->a1[i]? =some v->ig ns n v=true) (fun j=>(aM he).toNat-j.toNat)
   0 [some 0,some 1] ⟨Int.le_refl 0,za,fun i v hi=>by simp at hi⟩ (wkS [0,1] (by decide) ⟨⟨_,rfl,rfl,rfl⟩,⟨_,rfl,rfl,rfl⟩,trivial⟩ zr4) (fun j B2 hL yQ=> ?_)
  obtain⟨k0,k1,k2⟩:=hL
  cbv
  cases hk:g .q .lss j (g .ln he)
  ·rw [bg hg,bA hg,zqo]at hk
   have yU:D=true:=by rw [hD];exact yv hW (by omega) k2
   replace ha:OK=E:=by rw [ha,yS,yU];simp
   cases hH
   ·replace hd:E= !(decide (0<aM hf)):=by rw [hd];simp
    cbv
    cases ht:g .q .gtr (g .ln hf) 0
    case true=>
     rw [cj hg,bA hg,zqp]at ht
     cbv
     exact bk hF (hj (by rw [ha,hd];simpa using ht)).symm
    rw [cj hg,bA hg,zqo]at ht
    have hh:OK=true:=by rw [ha,hd];simpa using ht
    cbv
    rw [e1,hn]
    exact hP hB (z+1) [some 0] (wkS [0] (by decide) ⟨⟨_,rfl,rfl,rfl⟩,trivial⟩ zr2) ⟨by omega,by omega,fun i y hi hy=>hX i y hi hy hh⟩ (by omega)
   ·replace hd:E= !(!TK||decide (0<aM he)):=by rw [hd];simp
    cbv
    (first|refine ad hg cT ?_|refine aa hg cT ?_)
    cases TK
    case false=>
     cbv
     exact bk hF (hj (by rw [ha,hd];rfl)).symm
    cbv
    cases ht:g .q .gtr (g .ln he) 0
    case true=>
     rw [cj hg,bA hg,zqp]at ht
     cbv
     exact bk hF (hj (by rw [ha,hd];simpa using ht)).symm
    rw [cj hg,bA hg,zqo]at ht
    have hh:OK=true:=by rw [ha,hd];simpa using ht
    cbv
    rw [e1,hn]
    exact hP hB (z+1) [some 0] (wkS [0] (by decide) ⟨⟨_,rfl,rfl,rfl⟩,trivial⟩ zr2) ⟨by omega,by omega,fun i y hi hy=>hX i y hi hy hh⟩ (by omega)
  rw [bg hg,bA hg,zqp]at hk
  cbv
  obtain⟨y,hy⟩:=pJ (xs:=a1) k0 (gg hW hk)
  have hU:he[j.toNat]? =some (lc (aj y)):=by rw [hz];exact ba hy
  have ci:=gU V y
  rw [<-hQ y]at ci
  refine goX hg _ k0 hU rfl ?_
  cbv
  cases hik:isN ns y
  ·rw [hik]at ci
   have hI:D=false:=by rw [hD];exact oZ hy (by rw [ig,hik];rfl)
   (first|refine ad hg ci ?_|refine aa hg ci ?_)
   cbv
   exact bk hF (hj (by rw [ha,hI];simp)).symm
  rw [hik]at ci
  (first|refine ad hg ci ?_|refine aa hg ci ?_)
  obtain⟨i1,i2,x,hS⟩:=bD hik
  have hr:y<=1048576:=Int.le_trans (rO hG i2) yZ
  have hw:V[(y-1).toNat]? =some x.ac:=by rw [hV];exact gR hS
  have hm:=tS hS
  obtain⟨c0,c1,⟨c2,c3,c4,c5,c6,c7,c8,c9,xX,xY,xZ,⟨x0,x1⟩,⟨x2,x3⟩,⟨x4,x5⟩,⟨x6,x7⟩,⟨x8,x9⟩,⟨ya,yb⟩,⟨yc,yd⟩,ye,⟨⟨yf,yg⟩,⟨yh,yi⟩,⟨yj,yk⟩,⟨yl,ym⟩,⟨yn,yo⟩,⟨yp,yq⟩⟩,⟨⟨yr,ys⟩,⟨yt,yu⟩,⟨yw,yx⟩,⟨yy,yz⟩,⟨yA,yB⟩,⟨yC,yD⟩⟩,⟨yE,yF,yG,yH⟩,⟨yI,yJ,yK,yL⟩,yM,yN⟩,yO,⟨hM⟩⟩:=x
  simp only at hm
  replace hw:V[(y-1).toNat]? =some [.J c0,.view (vw aj c1),.J c2,.J c3,.J c4,.J c5,.J c6,.J c7,.B c8,.B c9,.J xX,.J xY,.J xZ,.J x0,.J x1,.J x2,.J x3,.J x4,.J x5,.J x6,.J x7,.J x8,.J x9,.J ya,.J yb,.J yc,.J yd,.J ye,.J yf,.J yg,.J yh,.J yi,.J yj,.J yk,.J yl,.J ym,.J yn,.J yo,.J yp,.J yq,.J yr,.J ys,.J yt,.J yu,.J yw,.J yx,.J yy,.J yz,.J yA,.J yB,.J yC,.J yD,.J yE,.J yF,.J yG,.J yH,.J yI,.J yJ,.J yK,.J yL,.J yM,.J yN,.B yO,.view (vw aI.c hM)]:=hw
  obtain⟨zc,hJ⟩:=nmE (vw aj c1)
  obtain⟨h3,hp⟩:=nmE (vw aI.c hM)
  rw [<-hJ,<-hp]at hw
  cbv
  refine goX hg _ k0 hU rfl ?_
  cbv
  (first|refine ad hg (dh V y i1 hr hw) ?_|refine aa hg (dh V y i1 hr hw) ?_)
  cbv
  rw [e1]
  cases hq:g .q .neq c0 n
  case true=>
   rw [bh hg,bne_iff_ne]at hq
   have hI:D=false:=by rw [hD];exact oZ hy (by rw [ig,hik,hm];simpa using hq)
   cbv
   exact bk hF (hj (by rw [ha,hI];simp)).symm
  rw [bh hg,zqq]at hq
  have hK:ig ns n y=true:=by rw [ig,hik,hm];simpa using hq
  cbv
  have e3:g .w .add .i64 j 1=j+1:=by rw [aJ hg,aq _ (by omega)]
  rw [e3]
  exact hP yQ (j+1) [some 0,some 1] (wkS [0,1] (by decide) ⟨⟨_,rfl,rfl,rfl⟩,⟨_,rfl,rfl,rfl⟩,trivial⟩ zr4) ⟨by omega,by omega,fun i v hi hv=>by
   by_cases hr:i<j.toNat
   ·exact k2 i v hr hv
   ·obtain rfl:i=j.toNat:=by omega
    rw [hy]at hv
    cases hv
    exact hK⟩ (by omega)
 ·have eu:g .q .neq a0 0=true:=by rw [bh hg];simpa using hu
  have z6:=hY hu
  obtain⟨u1,u2,xb,y0⟩:=bD z6
  have y9:a0<=1048576:=Int.le_trans (rO hG u2) yZ
  have hT:V[(a0-1).toNat]? =some xb.ac:=by rw [hV];exact gR y0
  have y8:vG ns a0=xb.kids:=by unfold vG;rw [y0]
  have z7:=(hs xb (zqd y0))
  obtain⟨b0,b1,⟨b2,b3,b4,b5,b6,b7,b8,b9,zd,ze,zf,⟨zg,zh⟩,⟨zi,zj⟩,⟨zk,zl⟩,⟨zm,zn⟩,⟨zo,zp⟩,⟨zq,zr⟩,⟨zs,zt⟩,zu,⟨⟨zv,zw⟩,⟨zx,zy⟩,⟨zz,zA⟩,⟨zB,zC⟩,⟨zD,zE⟩,⟨zF,zG⟩⟩,⟨⟨zH,zI⟩,⟨zJ,zK⟩,⟨zL,zM⟩,⟨zN,zO⟩,⟨zP,zQ⟩,⟨zR,zS⟩⟩,⟨zT,zU,zV,zW⟩,⟨zX,zY,zZ,z0⟩,z1,z2⟩,z3,⟨y3⟩⟩:=xb
  obtain⟨ab,af,-⟩:=z7
  simp only at y8
  replace hT:V[(a0-1).toNat]? =some [.J b0,.view (vw aj b1),.J b2,.J b3,.J b4,.J b5,.J b6,.J b7,.B b8,.B b9,.J zd,.J ze,.J zf,.J zg,.J zh,.J zi,.J zj,.J zk,.J zl,.J zm,.J zn,.J zo,.J zp,.J zq,.J zr,.J zs,.J zt,.J zu,.J zv,.J zw,.J zx,.J zy,.J zz,.J zA,.J zB,.J zC,.J zD,.J zE,.J zF,.J zG,.J zH,.J zI,.J zJ,.J zK,.J zL,.J zM,.J zN,.J zO,.J zP,.J zQ,.J zR,.J zS,.J zT,.J zU,.J zV,.J zW,.J zX,.J zY,.J zZ,.J z0,.J z1,.J z2,.B z3,.view (vw aI.c y3)]:=hT
  have cH:=nt b1 n ab
  obtain⟨Cn,y5⟩:=nmE (cnt b1 n)
  have y4:C=decide (Cn=1):=by rw [hC,Fj,y8,y5];simp [hu]
  rw [<-y5]at cH
  obtain⟨ai,hN⟩:=nmE (vw aj b1)
  obtain⟨zb,hO⟩:=nmE (vw aI.c y3)
  rw [<-hN,<-hO]at hT
  rw [<-hN]at cH
  cbv
  rw [eu]
  cbv
  (first|refine ad hg (dh V a0 u1 y9 hT) ?_|refine aa hg (dh V a0 u1 y9 hT) ?_)
  cbv
  rw [e1]
  (first|refine ad hg cH ?_|refine aa hg cH ?_)
  cbv
  cases hcn:g .q .neq Cn 1
  case true=>
   rw [bh hg,bne_iff_ne]at hcn
   have z4:C=false:=by rw [y4];simpa using hcn
   cbv
   exact bk hF (hj (by rw [ha,z4];simp)).symm
  rw [bh hg,zqq]at hcn
  have yS:C=true:=by rw [y4,hcn];rfl
  cbv
  refine bO hg ay (by kernel_rfl) (fun j:Int=>[(1,.p 0),(3,.i z),(4,.p 1),(5,.i j)]) (fun _=>[.bx 32 1 [.view V],.bx 119 64 [.J a0,.view he,.J a2,.J a3,.J a4,.J a5,.J a6,.J a7,.B a8,.B a9,.J h4,.J h5,.J h6,.J h7,.J h8,.J h9,.J xa,.J xc,.J xd,.J xe,.J xf,.J xg,.J xh,.J xi,.J xj,.J xk,.J xl,.J xm,.J xn,.J xo,.J xp,.J xq,.J xr,.J xt,.J xu,.J xv,.J xw,.J xx,.J xy,.J xz,.J xA,.J xB,.J xC,.J xD,.J xE,.J xF,.J xG,.J xH,.J xI,.J xJ,.J xK,.J xL,.J xM,.J xN,.J xO,.J xP,.J xQ,.J xR,.J xS,.J xT,.J xU,.J xV,.B hH,.view hf]]) (fun j:Int=>0<=j/\j<=aM he/\∀(i:Nat)(v:Int),i<j.toNat->a1[i]? =some v->ig ns n v=true) (fun j=>(aM he).toNat-j.toNat)
   0 [some 0,some 1] ⟨Int.le_refl 0,za,fun i v hi=>by simp at hi⟩ (wkS [0,1] (by decide) ⟨⟨_,rfl,rfl,rfl⟩,⟨_,rfl,rfl,rfl⟩,trivial⟩ zr4) (fun j B2 hL yQ=> ?_)
  obtain⟨k0,k1,k2⟩:=hL
  cbv
  cases hk:g .q .lss j (g .ln he)
  ·rw [bg hg,bA hg,zqo]at hk
   have yU:D=true:=by rw [hD];exact yv hW (by omega) k2
   replace ha:OK=E:=by rw [ha,yS,yU];simp
   cases hH
   ·replace hd:E= !(decide (0<aM hf)):=by rw [hd];simp
    cbv
    cases ht:g .q .gtr (g .ln hf) 0
    case true=>
     rw [cj hg,bA hg,zqp]at ht
     cbv
     exact bk hF (hj (by rw [ha,hd];simpa using ht)).symm
    rw [cj hg,bA hg,zqo]at ht
    have hh:OK=true:=by rw [ha,hd];simpa using ht
    cbv
    rw [e1,hn]
    exact hP hB (z+1) [some 0] (wkS [0] (by decide) ⟨⟨_,rfl,rfl,rfl⟩,trivial⟩ zr2) ⟨by omega,by omega,fun i y hi hy=>hX i y hi hy hh⟩ (by omega)
   ·replace hd:E= !(!TK||decide (0<aM he)):=by rw [hd];simp
    cbv
    (first|refine ad hg cT ?_|refine aa hg cT ?_)
    cases TK
    case false=>
     cbv
     exact bk hF (hj (by rw [ha,hd];rfl)).symm
    cbv
    cases ht:g .q .gtr (g .ln he) 0
    case true=>
     rw [cj hg,bA hg,zqp]at ht
     cbv
     exact bk hF (hj (by rw [ha,hd];simpa using ht)).symm
    rw [cj hg,bA hg,zqo]at ht
    have hh:OK=true:=by rw [ha,hd];simpa using ht
    cbv
    rw [e1,hn]
    exact hP hB (z+1) [some 0] (wkS [0] (by decide) ⟨⟨_,rfl,rfl,rfl⟩,trivial⟩ zr2) ⟨by omega,by omega,fun i y hi hy=>hX i y hi hy hh⟩ (by omega)
  rw [bg hg,bA hg,zqp]at hk
  cbv
  obtain⟨y,hy⟩:=pJ (xs:=a1) k0 (gg hW hk)
  have hU:he[j.toNat]? =some (lc (aj y)):=by rw [hz];exact ba hy
  have ci:=gU V y
  rw [<-hQ y]at ci
  refine goX hg _ k0 hU rfl ?_
  cbv
  cases hik:isN ns y
  ·rw [hik]at ci
   have hI:D=false:=by rw [hD];exact oZ hy (by rw [ig,hik];rfl)
   (first|refine ad hg ci ?_|refine aa hg ci ?_)
   cbv
   exact bk hF (hj (by rw [ha,hI];simp)).symm
  rw [hik]at ci
  (first|refine ad hg ci ?_|refine aa hg ci ?_)
  obtain⟨i1,i2,x,hS⟩:=bD hik
  have hr:y<=1048576:=Int.le_trans (rO hG i2) yZ
  have hw:V[(y-1).toNat]? =some x.ac:=by rw [hV];exact gR hS
  have hm:=tS hS
  obtain⟨c0,c1,⟨c2,c3,c4,c5,c6,c7,c8,c9,xX,xY,xZ,⟨x0,x1⟩,⟨x2,x3⟩,⟨x4,x5⟩,⟨x6,x7⟩,⟨x8,x9⟩,⟨ya,yb⟩,⟨yc,yd⟩,ye,⟨⟨yf,yg⟩,⟨yh,yi⟩,⟨yj,yk⟩,⟨yl,ym⟩,⟨yn,yo⟩,⟨yp,yq⟩⟩,⟨⟨yr,ys⟩,⟨yt,yu⟩,⟨yw,yx⟩,⟨yy,yz⟩,⟨yA,yB⟩,⟨yC,yD⟩⟩,⟨yE,yF,yG,yH⟩,⟨yI,yJ,yK,yL⟩,yM,yN⟩,yO,⟨hM⟩⟩:=x
  simp only at hm
  replace hw:V[(y-1).toNat]? =some [.J c0,.view (vw aj c1),.J c2,.J c3,.J c4,.J c5,.J c6,.J c7,.B c8,.B c9,.J xX,.J xY,.J xZ,.J x0,.J x1,.J x2,.J x3,.J x4,.J x5,.J x6,.J x7,.J x8,.J x9,.J ya,.J yb,.J yc,.J yd,.J ye,.J yf,.J yg,.J yh,.J yi,.J yj,.J yk,.J yl,.J ym,.J yn,.J yo,.J yp,.J yq,.J yr,.J ys,.J yt,.J yu,.J yw,.J yx,.J yy,.J yz,.J yA,.J yB,.J yC,.J yD,.J yE,.J yF,.J yG,.J yH,.J yI,.J yJ,.J yK,.J yL,.J yM,.J yN,.B yO,.view (vw aI.c hM)]:=hw
  obtain⟨zc,hJ⟩:=nmE (vw aj c1)
  obtain⟨h3,hp⟩:=nmE (vw aI.c hM)
  rw [<-hJ,<-hp]at hw
  cbv
  refine goX hg _ k0 hU rfl ?_
  cbv
  (first|refine ad hg (dh V y i1 hr hw) ?_|refine aa hg (dh V y i1 hr hw) ?_)
  cbv
  rw [e1]
  cases hq:g .q .neq c0 n
  case true=>
   rw [bh hg,bne_iff_ne]at hq
   have hI:D=false:=by rw [hD];exact oZ hy (by rw [ig,hik,hm];simpa using hq)
   cbv
   exact bk hF (hj (by rw [ha,hI];simp)).symm
  rw [bh hg,zqq]at hq
  have hK:ig ns n y=true:=by rw [ig,hik,hm];simpa using hq
  cbv
  have e3:g .w .add .i64 j 1=j+1:=by rw [aJ hg,aq _ (by omega)]
  rw [e3]
  exact hP yQ (j+1) [some 0,some 1] (wkS [0,1] (by decide) ⟨⟨_,rfl,rfl,rfl⟩,⟨_,rfl,rfl,rfl⟩,trivial⟩ zr4) ⟨by omega,by omega,fun i v hi hv=>by
   by_cases hr:i<j.toNat
   ·exact k2 i v hr hv
   ·obtain rfl:i=j.toNat:=by omega
    rw [hy]at hv
    cases hv
    exact hK⟩ (by omega)
theorem vU(ns:List ag)(hl:ns.length<=1048576)(hs:∀y∈ns,y.small):PC0 72 [.agg [.view (vwA ag.ac ns)]] (.t (abl (eV ns))):=by
 obtain⟨V,hV⟩:=nmE (vwA ag.ac ns)
 have hH:aM V=(ns.length:Int):=by rw [ah,hV,bB]
 have ai:0<=aM V:=by omega
 have yh:aM V<=1048576:=by omega
 have x1:∀n,isN ns n=rng n 1 (aM V):=fun n=>by rw [hH];rfl
 have cD:=fun n=>tG ns n hl
 obtain⟨R,hR⟩:=nmE (eV ns)
 rw [<-hR]
 rw [<-hV]at cD⊢
 refine ae (aK f72) ay func72 fun g F hg hF=> ?_
 cbv
 cases h12:g .q .gtr (g .ln V) 12
 case true=>
  rw [cj hg,bA hg,zqp]at h12
  cbv
  exact bk hF (by rw [hR,yY hH (by omega)])
 rw [cj hg,bA hg,zqo]at h12
 cbv
 refine bO hg ay (by kernel_rfl) (fun z:Int=>[(1,.p 0),(16,.v V),(17,.i (g .ln V)),(18,.i z)]) (fun _=>[.bx 32 1 [.view V]]) (fun z=>0<=z/\z<=aM V/\∀(i:Nat)(x:ag),i<z.toNat->ns[i]? =some x->fF ns ((i:Int)+1) x=true) (fun z=>(aM V).toNat-z.toNat)
  0 [some 0] ⟨Int.le_refl 0,ai,fun i x hi=>by simp at hi⟩ (wkS [0] (by decide) ⟨⟨_,rfl,rfl,rfl⟩,trivial⟩ zr4) (fun z B an hB=> ?_)
 obtain⟨h0,h1,h2⟩:=an
 cbv
 cases hc:g .q .lss z (g .ln V)
 ·rw [bg hg,bA hg,zqo]at hc
  cbv
  exact bk hF (by rw [hR,yX hH (by omega) (by omega) h2])
 rw [bg hg,bA hg,zqp]at hc
 cbv
 obtain⟨x,hx⟩:=pJ (xs:=ns) h0 (gg hH hc)
 have hT:V[z.toNat]? =some x.ac:=by rw [hV];exact gR hx
 have ao:=hs x (zqd hx)
 have ho:fF ns (z+1) x=false->R=false:=fun h=>by rw [hR];exact BG h0 hx h
 have yj:=FJ hH h0 hc
 have yi:=IZ hx
 obtain⟨n,hn⟩:=nmE (z+1)
 rw [<-hn]at ho yj yi
 obtain⟨OK,xW⟩:=nmE (fF ns n x)
 have ha:=xW
 rw [fF]at ha
 rw [<-xW]at ho
 obtain⟨A,hA⟩:=nmE (BO x.style)
 obtain⟨Dp,xV⟩:=nmE (wj ns n)
 obtain⟨Bd,xS⟩:=nmE (rng Dp 1 4)
 obtain⟨C,hC⟩:=nmE (Fj ns n x.up)
 obtain⟨D,hD⟩:=nmE (x.kids.all (ig ns n))
 obtain⟨E,hE⟩:=nmE (Jw x)
 have hS:Bd=true->x.up≠0->isN ns x.up=true:=fun hb hu=>FV (by omega) yj yi (by rw [<-xV,<-xS];exact hb) hu
 rw [<-hA,<-xV,<-xS,<-hC,<-hD,<-hE]at ha
 have cA:=tC x.style
 have xR:=cD n
 have cB:=bR Dp 1 4
 have cT:=tB x.table.rules
 rw [<-hA]at cA
 rw [<-xV]at xR
 rw [<-xS]at cB
 have hO:∀(i:Nat)(y:ag),i<(z+1).toNat->ns[i]? =some y->OK=true->fF ns ((i:Int)+1) y=true:=fun i y hi hy hk=>by
  by_cases hJ:i<z.toNat
  ·exact h2 i y hJ hy
  ·obtain rfl:i=z.toNat:=by omega
   rw [hx]at hy
   cases hy
   rw [show((z.toNat:Nat):Int)+1=n by omega,<-xW];exact hk
 obtain⟨a0,a1,⟨a2,a3,a4,a5,a6,a7,a8,a9,hU,hW,hX,⟨hY,hZ⟩,⟨h3,h4⟩,⟨h5,h6⟩,⟨h7,h8⟩,⟨h9,xa⟩,⟨xc,xd⟩,⟨xe,xf⟩,xg,⟨⟨xh,xi⟩,⟨xj,xk⟩,⟨xl,xm⟩,⟨xn,xo⟩,⟨xp,xq⟩,⟨xr,xt⟩⟩,⟨⟨xu,xv⟩,⟨xw,xx⟩,⟨xy,xz⟩,⟨xA,xB⟩,⟨xC,xD⟩,⟨xE,xF⟩⟩,⟨xG,xH,xI,xJ⟩,⟨xK,xL,xM,xN⟩,xO,xP⟩,hr,⟨xQ⟩⟩:=x
 obtain⟨aA,x9,-⟩:=ao
 replace cT:=cT x9
 simp only at hS hC hD hE cA cT
 replace hT:V[z.toNat]? =some [.J a0,.view (vw aj a1),.J a2,.J a3,.J a4,.J a5,.J a6,.J a7,.B a8,.B a9,.J hU,.J hW,.J hX,.J hY,.J hZ,.J h3,.J h4,.J h5,.J h6,.J h7,.J h8,.J h9,.J xa,.J xc,.J xd,.J xe,.J xf,.J xg,.J xh,.J xi,.J xj,.J xk,.J xl,.J xm,.J xn,.J xo,.J xp,.J xq,.J xr,.J xt,.J xu,.J xv,.J xw,.J xx,.J xy,.J xz,.J xA,.J xB,.J xC,.J xD,.J xE,.J xF,.J xG,.J xH,.J xI,.J xJ,.J xK,.J xL,.J xM,.J xN,.J xO,.J xP,.B hr,.view (vw aI.c xQ)]:=hT
 obtain⟨TK,xX⟩:=nmE (Gn xQ)
 rw [<-xX]at cT
 obtain⟨hf,hw⟩:=nmE (vw aj a1)
 obtain⟨hh,hp⟩:=nmE (vw aI.c xQ)
 have x7:=rN hw
 have x8:=rN hp
 have ar:0<=aM hf:=by omega
 have ax:aM hf<=1048576:=by omega
 rw [<-hw,<-hp]at hT
 rw [<-hp]at cT
 have e1:g .w .add .i64 z 1=n:=by rw [aJ hg,aq _ (by omega),hn]
 refine goX hg _ h0 hT rfl ?_
 cbv
 rw [e1]
 (first|refine ad hg cA ?_|refine aa hg cA ?_)
 cases A
 case false=>
  cbv
  exact bk hF (ho ha).symm
 cbv
 (first|refine ad hg xR ?_|refine aa hg xR ?_)
 cbv
 (first|refine ad hg cB ?_|refine aa hg cB ?_)
 cases Bd
 case false=>
  cbv
  exact bk hF (ho (by rw [ha];rfl)).symm
 replace hS:=hS rfl
 have hd:E= !((hr&&(!TK||decide (0<aM hf)))||(!hr&&decide (0<aM hh))):=by rw [hE,xX,x7,x8];rfl
 clear hE xX
 cbv
 refine bO hg ay (by kernel_rfl) (fun j:Int=>[(1,.p 0),(4,.p 1),(5,.i n),(16,.v V),(17,.i (g .ln V)),(18,.i z),(37,.v hf),(38,.i (g .ln hf)),(39,.i j)]) (fun _=>[.bx 32 1 [.view V],.bx 119 64 [.J a0,.view hf,.J a2,.J a3,.J a4,.J a5,.J a6,.J a7,.B a8,.B a9,.J hU,.J hW,.J hX,.J hY,.J hZ,.J h3,.J h4,.J h5,.J h6,.J h7,.J h8,.J h9,.J xa,.J xc,.J xd,.J xe,.J xf,.J xg,.J xh,.J xi,.J xj,.J xk,.J xl,.J xm,.J xn,.J xo,.J xp,.J xq,.J xr,.J xt,.J xu,.J xv,.J xw,.J xx,.J xy,.J xz,.J xA,.J xB,.J xC,.J xD,.J xE,.J xF,.J xG,.J xH,.J xI,.J xJ,.J xK,.J xL,.J xM,.J xN,.J xO,.J xP,.B hr,.view hh]]) (fun j:Int=>0<=j/\j<=aM hf/\∀(i:Nat)(v:Int),i<j.toNat->a1[i]? =some v->ig ns n v=true) (fun j=>(aM hf).toNat-j.toNat)
  0 [some 0,some 1] ⟨Int.le_refl 0,ar,fun i v hi=>by simp at hi⟩ (wkS [0,1] (by decide) ⟨⟨_,rfl,rfl,rfl⟩,⟨_,rfl,rfl,rfl⟩,trivial⟩ zr9) (fun j B2 x3 ab=> ?_)
 obtain⟨k0,k1,k2⟩:=x3
 cbv
 cases hk:g .q .lss j (g .ln hf)
 case true=>
  rw [bg hg,bA hg,zqp]at hk
  cbv
  obtain⟨y,hy⟩:=pJ (xs:=a1) k0 (gg x7 hk)
  have x6:hf[j.toNat]? =some (lc (aj y)):=by rw [hw];exact ba hy
  have ci:=jX V y
  rw [<-x1 y]at ci
  refine goX hg _ k0 x6 rfl ?_
  cbv
  cases hik:isN ns y
  ·rw [hik]at ci
   have xU:D=false:=by rw [hD];exact oZ hy (by rw [ig,hik];rfl)
   (first|refine ad hg ci ?_|refine aa hg ci ?_)
   cbv
   exact bk hF (ho (by rw [ha,xU];simp)).symm
  rw [hik]at ci
  (first|refine ad hg ci ?_|refine aa hg ci ?_)
  obtain⟨i1,i2,x,ym⟩:=bD hik
  have hJ:y<=1048576:=Int.le_trans (rO hH i2) yh
  have hN:V[(y-1).toNat]? =some x.ac:=by rw [hV];exact gR ym
  have hI:=tS ym
  obtain⟨c0,c1,⟨c2,c3,c4,c5,c6,c7,c8,c9,zj,zk,zl,⟨zm,zn⟩,⟨zo,zp⟩,⟨zq,zr⟩,⟨zs,zt⟩,⟨zu,zv⟩,⟨zw,zx⟩,⟨zy,zz⟩,zA,⟨⟨zB,zC⟩,⟨zD,zE⟩,⟨zF,zG⟩,⟨zH,zI⟩,⟨zJ,zK⟩,⟨zL,zM⟩⟩,⟨⟨zN,zO⟩,⟨zP,zQ⟩,⟨zR,zS⟩,⟨zT,zU⟩,⟨zV,zW⟩,⟨zX,zY⟩⟩,⟨zZ,z0,z1,z2⟩,⟨z3,z4,z5,z6⟩,z7,z8⟩,z9,⟨yb⟩⟩:=x
  simp only at hI
  replace hN:V[(y-1).toNat]? =some [.J c0,.view (vw aj c1),.J c2,.J c3,.J c4,.J c5,.J c6,.J c7,.B c8,.B c9,.J zj,.J zk,.J zl,.J zm,.J zn,.J zo,.J zp,.J zq,.J zr,.J zs,.J zt,.J zu,.J zv,.J zw,.J zx,.J zy,.J zz,.J zA,.J zB,.J zC,.J zD,.J zE,.J zF,.J zG,.J zH,.J zI,.J zJ,.J zK,.J zL,.J zM,.J zN,.J zO,.J zP,.J zQ,.J zR,.J zS,.J zT,.J zU,.J zV,.J zW,.J zX,.J zY,.J zZ,.J z0,.J z1,.J z2,.J z3,.J z4,.J z5,.J z6,.J z7,.J z8,.B z9,.view (vw aI.c yb)]:=hN
  obtain⟨aw,xY⟩:=nmE (vw aj c1)
  obtain⟨yo,hL⟩:=nmE (vw aI.c yb)
  rw [<-xY,<-hL]at hN
  cbv
  (first|refine ad hg (gl V y i1 hJ hN) ?_|refine aa hg (gl V y i1 hJ hN) ?_)
  cbv
  cases hq:g .q .neq c0 n
  case true=>
   rw [bh hg,bne_iff_ne]at hq
   have xU:D=false:=by rw [hD];exact oZ hy (by rw [ig,hik,hI];simpa using hq)
   cbv
   exact bk hF (ho (by rw [ha,xU];simp)).symm
  rw [bh hg,zqq]at hq
  have x2:ig ns n y=true:=by rw [ig,hik,hI];simpa using hq
  cbv
  have e3:g .w .add .i64 j 1=j+1:=by rw [aJ hg,aq _ (by omega)]
  rw [e3]
  exact hP ab (j+1) [some 0,some 1] (wkS [0,1] (by decide) ⟨⟨_,rfl,rfl,rfl⟩,⟨_,rfl,rfl,rfl⟩,trivial⟩ zr9) ⟨by omega,by omega,fun i v hi hv=>by
   by_cases hJ:i<j.toNat
   ·exact k2 i v hJ hv
   ·obtain rfl:i=j.toNat:=by omega
    rw [hy]at hv
    cases hv
    exact x2⟩ (by omega)
 rw [bg hg,bA hg,zqo]at hk
 have yg:D=true:=by rw [hD];exact yv x7 (by omega) k2
 by_cases hu:a0=0
 ·have xT:C=true:=by rw [hC,Fj,hu];rfl
  have eu:g .q .neq a0 0=false:=by rw [bh hg];simpa using hu
  cbv
  rw [eu]
  cbv
  replace ha:OK=E:=by rw [ha,xT,yg];simp
  cases hr
  ·replace hd:E= !(decide (0<aM hh)):=by rw [hd];simp
   cbv
   cases ht:g .q .gtr (g .ln hh) 0
   case true=>
    rw [cj hg,bA hg,zqp]at ht
    cbv
    exact bk hF (ho (by rw [ha,hd];simpa using ht)).symm
   rw [cj hg,bA hg,zqo]at ht
   have hj:OK=true:=by rw [ha,hd];simpa using ht
   cbv
   rw [e1,hn]
   exact hP hB (z+1) [some 0] (wkS [0] (by decide) ⟨⟨_,rfl,rfl,rfl⟩,trivial⟩ zr4) ⟨by omega,by omega,fun i y hi hy=>hO i y hi hy hj⟩ (by omega)
  ·replace hd:E= !(!TK||decide (0<aM hf)):=by rw [hd];simp
   cbv
   (first|refine ad hg cT ?_|refine aa hg cT ?_)
   cases TK
   case false=>
    cbv
    exact bk hF (ho (by rw [ha,hd];rfl)).symm
   cbv
   cases ht:g .q .gtr (g .ln hf) 0
   case true=>
    rw [cj hg,bA hg,zqp]at ht
    cbv
    exact bk hF (ho (by rw [ha,hd];simpa using ht)).symm
   rw [cj hg,bA hg,zqo]at ht
   have hj:OK=true:=by rw [ha,hd];simpa using ht
   cbv
   rw [e1,hn]
   exact hP hB (z+1) [some 0] (wkS [0] (by decide) ⟨⟨_,rfl,rfl,rfl⟩,trivial⟩ zr4) ⟨by omega,by omega,fun i y hi hy=>hO i y hi hy hj⟩ (by omega)
 ·have eu:g .q .neq a0 0=true:=by rw [bh hg];simpa using hu
  have al:=hS hu
  obtain⟨u1,u2,xb,x5⟩:=bD al
  have yl:a0<=1048576:=Int.le_trans (rO hH u2) yh
  have hM:V[(a0-1).toNat]? =some xb.ac:=by rw [hV];exact gR x5
  have yk:vG ns a0=xb.kids:=by unfold vG;rw [x5]
  have am:=(hs xb (zqd x5))
  obtain⟨b0,b1,⟨b2,b3,b4,b5,b6,b7,b8,b9,yp,yq,yr,⟨ys,yt⟩,⟨yu,yw⟩,⟨yx,yy⟩,⟨yz,yA⟩,⟨yB,yC⟩,⟨yD,yE⟩,⟨yF,yG⟩,yH,⟨⟨yI,yJ⟩,⟨yK,yL⟩,⟨yM,yN⟩,⟨yO,yP⟩,⟨yQ,yR⟩,⟨yS,yT⟩⟩,⟨⟨yU,yV⟩,⟨yW,yZ⟩,⟨y0,y1⟩,⟨y2,y3⟩,⟨y4,y5⟩,⟨y6,y7⟩⟩,⟨y8,y9,za,zb⟩,⟨zc,zd,ze,zf⟩,zg,zh⟩,zi,⟨ya⟩⟩:=xb
  obtain⟨aB,av,-⟩:=am
  simp only at yk
  replace hM:V[(a0-1).toNat]? =some [.J b0,.view (vw aj b1),.J b2,.J b3,.J b4,.J b5,.J b6,.J b7,.B b8,.B b9,.J yp,.J yq,.J yr,.J ys,.J yt,.J yu,.J yw,.J yx,.J yy,.J yz,.J yA,.J yB,.J yC,.J yD,.J yE,.J yF,.J yG,.J yH,.J yI,.J yJ,.J yK,.J yL,.J yM,.J yN,.J yO,.J yP,.J yQ,.J yR,.J yS,.J yT,.J yU,.J yV,.J yW,.J yZ,.J y0,.J y1,.J y2,.J y3,.J y4,.J y5,.J y6,.J y7,.J y8,.J y9,.J za,.J zb,.J zc,.J zd,.J ze,.J zf,.J zg,.J zh,.B zi,.view (vw aI.c ya)]:=hM
  obtain⟨Cn,yf⟩:=nmE (cnt b1 n)
  have yd:C=decide (Cn=1):=by rw [hC,Fj,yk,yf];simp [hu]
  obtain⟨hm,hG⟩:=nmE (vw aj b1)
  obtain⟨yn,hK⟩:=nmE (vw aI.c ya)
  have ap:=rN hG
  have au:0<=aM hm:=by omega
  have az:aM hm<=1048576:=by omega
  have xZ:∀z:Int,aM hm<=z->ye (fun k=>if k=n then 1 else 0) b1 z.toNat=Cn:=fun z hz=>by rw [yf];exact lX _ (by omega)
  rw [<-hG,<-hK]at hM
  cbv
  rw [eu]
  cbv
  (first|refine ad hg (gl V a0 u1 yl hM) ?_|refine aa hg (gl V a0 u1 yl hM) ?_)
  cbv
  refine bO hg ay (by kernel_rfl) (fun s:Int×Int=>[(1,.p 0),(4,.p 1),(5,.i n),(8,.i s.2),(16,.v V),(17,.i (g .ln V)),(18,.i z),(63,.v hm),(64,.i (g .ln hm)),(65,.i s.1)]) (fun _=>[.bx 32 1 [.view V],.bx 119 64 [.J a0,.view hf,.J a2,.J a3,.J a4,.J a5,.J a6,.J a7,.B a8,.B a9,.J hU,.J hW,.J hX,.J hY,.J hZ,.J h3,.J h4,.J h5,.J h6,.J h7,.J h8,.J h9,.J xa,.J xc,.J xd,.J xe,.J xf,.J xg,.J xh,.J xi,.J xj,.J xk,.J xl,.J xm,.J xn,.J xo,.J xp,.J xq,.J xr,.J xt,.J xu,.J xv,.J xw,.J xx,.J xy,.J xz,.J xA,.J xB,.J xC,.J xD,.J xE,.J xF,.J xG,.J xH,.J xI,.J xJ,.J xK,.J xL,.J xM,.J xN,.J xO,.J xP,.B hr,.view hh]]) (fun s=>0<=s.1/\s.1<=aM hm/\0<=s.2/\s.2<=s.1/\s.2=ye (fun k=>if k=n then 1 else 0) b1 s.1.toNat) (fun s=>(aM hm).toNat-s.1.toNat)
   (0,0) [some 0,some 1] ⟨Int.le_refl 0,au,Int.le_refl 0,Int.le_refl 0,(jB _ _).symm⟩ (wkS [0,1] (by decide) ⟨⟨_,rfl,rfl,rfl⟩,⟨_,rfl,rfl,rfl⟩,trivial⟩ ⟨rfl,rfl,rfl,rfl,rfl,rfl,rfl,rfl,rfl,rfl,trivial⟩) (fun s B3 x4 yc=> ?_)
  obtain⟨i,d⟩:=s
  obtain⟨q0,q1,q2,q3,q4⟩:=x4
  simp only at q0 q1 q2 q3 q4
  cbv
  cases hq:g .q .lss i (g .ln hm)
  case true=>
   rw [bg hg,bA hg,zqp]at hq
   cbv
   obtain⟨y,hy⟩:=pJ (xs:=b1) q0 (gg ap hq)
   have x6:hm[i.toNat]? =some (lc (aj y)):=by rw [hG];exact ba hy
   have hQ:=jC (fun k:Int=>if k=n then(1:Int)else 0) hy
   have e3:g .w .add .i64 i 1=i+1:=by rw [aJ hg,aq _ (by omega)]
   refine goX hg _ q0 x6 rfl ?_
   cbv
   cases he:g .q .eql y n
   ·have x0:y≠n:=by rw [bm hg]at he;simpa using he
    simp only [if_neg x0]at hQ
    cbv
    rw [e3]
    exact hP yc (i+1,d) [some 0,some 1] (wkS [0,1] (by decide) ⟨⟨_,rfl,rfl,rfl⟩,⟨_,rfl,rfl,rfl⟩,trivial⟩ ⟨rfl,rfl,rfl,rfl,rfl,rfl,rfl,rfl,rfl,rfl,trivial⟩) ⟨by simp only;omega,by simp only;omega,q2,by simp only;omega,by simp only;rw [show(i+1).toNat=i.toNat+1 by omega,hQ];omega⟩ (by show(aM hm).toNat-(i+1).toNat<(aM hm).toNat-i.toNat;omega)
   ·have x0:y=n:=by rw [bm hg]at he;simpa using he
    simp only [if_pos x0]at hQ
    have e4:g .w .add .i64 d 1=d+1:=by rw [aJ hg,aq _ (by omega)]
    cbv
    rw [e3,e4]
    exact hP yc (i+1,d+1) [some 0,some 1] (wkS [0,1] (by decide) ⟨⟨_,rfl,rfl,rfl⟩,⟨_,rfl,rfl,rfl⟩,trivial⟩ ⟨rfl,rfl,rfl,rfl,rfl,rfl,rfl,rfl,rfl,rfl,trivial⟩) ⟨by simp only;omega,by simp only;omega,by simp only;omega,by simp only;omega,by simp only;rw [show(i+1).toNat=i.toNat+1 by omega,hQ];omega⟩ (by show(aM hm).toNat-(i+1).toNat<(aM hm).toNat-i.toNat;omega)
  rw [bg hg,bA hg,zqo]at hq
  have ak:d=Cn:=by rw [q4,xZ i (by omega)]
  subst ak
  cbv
  cases hcn:g .q .neq d 1
  case true=>
   rw [bh hg,bne_iff_ne]at hcn
   have af:C=false:=by rw [yd];simpa using hcn
   cbv
   exact bk hF (ho (by rw [ha,af];simp)).symm
  rw [bh hg,zqq]at hcn
  have xT:C=true:=by rw [yd,hcn];rfl
  cbv
  replace ha:OK=E:=by rw [ha,xT,yg];simp
  cases hr
  ·replace hd:E= !(decide (0<aM hh)):=by rw [hd];simp
   cbv
   cases ht:g .q .gtr (g .ln hh) 0
   case true=>
    rw [cj hg,bA hg,zqp]at ht
    cbv
    exact bk hF (ho (by rw [ha,hd];simpa using ht)).symm
   rw [cj hg,bA hg,zqo]at ht
   have hj:OK=true:=by rw [ha,hd];simpa using ht
   cbv
   rw [e1,hn]
   exact hP hB (z+1) [some 0] (wkS [0] (by decide) ⟨⟨_,rfl,rfl,rfl⟩,trivial⟩ zr4) ⟨by omega,by omega,fun i y hi hy=>hO i y hi hy hj⟩ (by omega)
  ·replace hd:E= !(!TK||decide (0<aM hf)):=by rw [hd];simp
   cbv
   (first|refine ad hg cT ?_|refine aa hg cT ?_)
   cases TK
   case false=>
    cbv
    exact bk hF (ho (by rw [ha,hd];rfl)).symm
   cbv
   cases ht:g .q .gtr (g .ln hf) 0
   case true=>
    rw [cj hg,bA hg,zqp]at ht
    cbv
    exact bk hF (ho (by rw [ha,hd];simpa using ht)).symm
   rw [cj hg,bA hg,zqo]at ht
   have hj:OK=true:=by rw [ha,hd];simpa using ht
   cbv
   rw [e1,hn]
   exact hP hB (z+1) [some 0] (wkS [0] (by decide) ⟨⟨_,rfl,rfl,rfl⟩,trivial⟩ zr4) ⟨by omega,by omega,fun i y hi hy=>hO i y hi hy hj⟩ (by omega)
def D5(x:ag)(K R:LLA):List AC:= .J x.up:: .view K::(lc (ak.c x.style)++[.B x.measured,.view R])
theorem zJ(x:ag):x.ac=D5 x (vw aj x.kids) (vw aI.c x.table.rules):=rfl
theorem xU{p:Int->Bool}{z:Int}{x:Int}(h0:0<=z)(hx:xs[z.toNat]? =some x):(xs.take (z+1).toNat).filter p=(xs.take z.toNat).filter p++if p x then [x]else []:=by
 rw [show(z+1).toNat=z.toNat+1 by omega,List.take_add_one,hx,List.filter_append]
 simp only [Option.toList_some]
 cases h:p x<;>simp [h]
theorem wG(xs ys:List Int):vw aj (xs++ys)=vw aj xs++vw aj ys:=by simp [vw]
theorem du(ns:List ag)(n:Int)(x:ag)(h1:1<=n)(h2:n<=1048576)(hx:ns[(n-1).toNat]? =some x)(V K R:LLA)(hV:V=vwA ag.ac ns)(hK:K=vw aj x.kids)(hR:R=vw aI.c x.table.rules):PC0 75 [.agg [.view V],ai n] (.t (.agg (D5 x K R))):=by
 subst hV hK hR
 rw [<-zJ]
 obtain⟨a0,a1,⟨a2,a3,a4,a5,a6,a7,a8,a9,ha,hb,hc,⟨hd,he⟩,⟨hf,hg⟩,⟨hh,hi⟩,⟨hj,hk⟩,⟨hl,hm⟩,⟨hn,ho⟩,⟨hp,hq⟩,hr,⟨⟨hs,ht⟩,⟨hu,hv⟩,⟨hw,hy⟩,⟨hz,hA⟩,⟨hB,hC⟩,⟨hD,hE⟩⟩,⟨⟨hF,hG⟩,⟨hH,hI⟩,⟨hJ,hL⟩,⟨hM,hN⟩,⟨hO,hP⟩,⟨hQ,hS⟩⟩,⟨hT,hU,hW,hX⟩,⟨hY,hZ,h0,h3⟩,h4,h5⟩,h6,⟨h7⟩⟩:=x
 exact gl _ n h1 h2 (gR hx)
theorem bL(ns:List ag)(n:Int)(x:ag)(h1:1<=n)(h2:n<=1048576)(hx:ns[(n-1).toNat]? =some x)(V K R:LLA)(hV:V=vwA ag.ac ns)(hK:K=vw aj x.kids)(hR:R=vw aI.c x.table.rules):PC0 57 [.agg [.view V],ai n] (.t (.agg (D5 x K R))):=by
 subst hV hK hR
 rw [<-zJ]
 obtain⟨a0,a1,⟨a2,a3,a4,a5,a6,a7,a8,a9,ha,hb,hc,⟨hd,he⟩,⟨hf,hg⟩,⟨hh,hi⟩,⟨hj,hk⟩,⟨hl,hm⟩,⟨hn,ho⟩,⟨hp,hq⟩,hr,⟨⟨hs,ht⟩,⟨hu,hv⟩,⟨hw,hy⟩,⟨hz,hA⟩,⟨hB,hC⟩,⟨hD,hE⟩⟩,⟨⟨hF,hG⟩,⟨hH,hI⟩,⟨hJ,hL⟩,⟨hM,hN⟩,⟨hO,hP⟩,⟨hQ,hS⟩⟩,⟨hT,hU,hW,hX⟩,⟨hY,hZ,h0,h3⟩,h4,h5⟩,h6,⟨h7⟩⟩:=x
 exact dh _ n h1 h2 (gR hx)
theorem jy(h:eV ns=true){x:ag}(h1:1<=n)(hx:ns[(n-1).toNat]? =some x):∀k∈x.kids,isN ns k=true:=fun k hk=>by
 simp only [eV,zqs]at h
 have:=(j7 ns ns 0).1 h.2 _ x hx
 simp only [fF,zqs,zqf,ig]at this
 exact(this.2.2.2.1 k hk).1
end Go.Proofs.YtkicjdeddpihaaaGreat
