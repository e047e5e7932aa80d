/- Boxes that are placed apart: the children, the law of their spaces. -/
import Derived.Test.YtkicjdeddpihaaaGreatS3az
set_option linter.unusedVariables false
set_option linter.unusedSimpArgs false
set_option maxHeartbeats 16000000
namespace Go.Proofs.YtkicjdeddpihaaaGreat
open Go.ChangeShapes Go.WideShapes Go.ChangeAt Go.RowKit Am Go.Proofs.Tryz
set_option maxRecDepth 100000
def vN(ns:List af)(n:Int):List Int:=match ns[(n-1).toNat]? with|some x=>x.kids|none=>[]
def ij(ns:List af)(n:Int)(k:Int):Bool:=isN ns k&&decide (upN ns k=n)
def Jx(x:af):Bool:= !((x.measured&&(!Gk x.table.rules||decide ((0:Int)<(x.kids.length:Int))))||(!x.measured&&decide ((0:Int)<(x.table.rules.length:Int))))
def Fi(ns:List af)(n up:Int):Bool:=decide (up=0)||decide (cnt (vN ns up) n=1)
def fJ(ns:List af)(n:Int)(x:af):Bool:=BU x.style&&(rng (wo ns n) 1 4&&(Fi ns n x.up&&(x.kids.all (ij ns n)&&Jx x)))
def goT(ns:List af):List af->Int->Bool
 | [],_=>true
 |x::xs,i=>fJ ns (i+1) x&&goT ns xs (i+1)
def eV(ns:List af):Bool:=decide ((ns.length:Int)<=12)&&goT ns ns 0
theorem ka(ns:List af):∀(xs:List af)(k:Int),goT ns xs k=true↔∀(i:Nat)(x:af),xs[i]? =some x->fJ ns (k+(i:Int)+1) x=true
 | [],k=>by simp [goT]
 |x::xs,k=>by
  simp only [goT,zqs]
  rw [ka ns xs (k+1)]
  constructor
  ·rintro⟨h1,h2⟩ i y hy
   cases i with
   |zero=>simp at hy;subst hy;simpa using h1
   |succ i=>have:=h2 i y (by simpa using hy);rw [show k+((i+1:Nat):Int)+1=k+1+(i:Int)+1 by omega];exact this
  ·intro h
   refine⟨by simpa using h 0 x rfl,fun i y hy=> ?_⟩
   have:=h (i+1) y (by simpa using hy)
   rw [show k+((i+1:Nat):Int)+1=k+1+(i:Int)+1 by omega]at this
   exact this
variable {ns:List af}
theorem BM{z:Int}{x:af}(h0:0<=z)(hx:ns[z.toNat]? =some x)(h:fJ ns (z+1) x=false):eV ns=false:=by
 cases hg:goT ns ns 0
 ·simp [eV,hg]
 ·have:=(ka ns ns 0).1 hg z.toNat x hx
  rw [show(0:Int)+((z.toNat:Nat):Int)+1=z+1 by omega,h]at this
  cases this
variable {z M:Int}
theorem zb(hM:M=(ns.length:Int))(h12:M<=12)(hz:M<=z)(h:∀(i:Nat)(x:af),i<z.toNat->ns[i]? =some x->fJ ns ((i:Int)+1) x=true):eV ns=true:=by
 have hg:goT ns ns 0=true:=(ka ns ns 0).2 fun i x hx=>by
  have hi:=(List.getElem?_eq_some_iff.1 hx).1
  have:=h i x (by omega) hx
  rwa [show(0:Int)+(i:Int)+1=(i:Int)+1 by omega]
 simp only [eV,hg,Bool.and_true,zqp]
 omega
theorem zc{M:Int}(hM:M=(ns.length:Int))(h:¬M<=12):eV ns=false:=by
 simp only [eV,Bool.and_eq_false_iff,zqo]
 left;omega
variable {n:Int}
theorem FS{x:af}(h0:n≠0)(hn:isN ns n=true)(hx:ns[(n-1).toNat]? =some x)(hd:rng (wo ns n) 1 4=true)(hu:x.up≠0):isN ns x.up=true:=by
 cases hi:isN ns x.up
 ·exfalso
  have hl:ns.length≠0:=fun h=>by
   have:=(bD hn).2.1
   have:=(bD hn).1
   omega
  obtain⟨L,hL⟩:∃L,ns.length=L+1:=⟨ns.length-1,by omega⟩
  rw [wo,hL,kl ns h0 hn,ua hx,wn ns _ _ _ hu hi]at hd
  simp [rng]at hd
 ·rfl
variable {xs:List Int}
theorem pb{i:Nat}{k:Int}(h:xs[i]? =some k)(hk:ij ns n k=false):xs.all (ij ns n)=false:=by
 rw [List.all_eq_false]
 exact⟨k,zqd h,by rw [hk];decide⟩
theorem yB(hM:M=(xs.length:Int))(hz:M<=z)(h:∀(i:Nat)(v:Int),i<z.toNat->xs[i]? =some v->ij ns n v=true):xs.all (ij ns n)=true:=by
 rw [zqf]
 exact qS hM hz h
theorem rU{n:Nat}{a z:Int}(h:a=(n:Int))(hz:z<=(n:Int)):z<=a:=h▸hz
theorem FH(hM:M=(ns.length:Int))(h0:0<=z)(h1:z<M):isN ns (z+1)=true:=by
 simp only [isN,rng,zqs,zqp];omega
theorem I0{z:Int}{x:af}(h:ns[z.toNat]? =some x):ns[(z+1-1).toNat]? =some x:=by rw [show z+1-1=z by omega];exact h
theorem rT{α:Type}{c:α->Array Value}{xs:List α}{V:LLA}(hV:V=vw c xs):aM V=(xs.length:Int):=by rw [hV,aj,av]
theorem nz(ns:List af)(hl:ns.length<=1048576)(hs:∀y∈ns,y.small):PC0 54 [.agg [.view (vwA af.ac ns)]] (.t (abl (eV ns))):=by
 obtain⟨V,hV⟩:=nmE (vwA af.ac ns)
 have hG:aM V=(ns.length:Int):=by rw [aj,hV,bB]
 have z4:0<=aM V:=by omega
 have yW:aM V<=1048576:=by omega
 have hP:∀n,isN ns n=rng n 1 (aM V):=fun n=>by rw [hG];rfl
 have cD:=fun n=>s5 ns n hl
 obtain⟨R,hR⟩:=nmE (eV ns)
 rw [<-hR]
 rw [<-hV]at cD⊢
 refine ae (aK f54) ay func54 fun g F hg hF=> ?_
 cbv
 cases h12:g .q .gtr (g .ln V) 12
 case true=>
  rw [da hg,bA hg,zqp]at h12
  cbv
  exact bk hF (by rw [hR,zc hG (by omega)])
 rw [da hg,bA hg,zqo]at h12
 cbv
 refine bO hg ay (by kernel_rfl) (fun z:Int=>[(1,.p 0),(3,.i z)]) (fun _=>[.bx 32 1 [.view V]]) (fun z=>0<=z/\z<=aM V/\∀(i:Nat)(x:af),i<z.toNat->ns[i]? =some x->fJ ns ((i:Int)+1) x=true) (fun z=>(aM V).toNat-z.toNat)
  0 [some 0] ⟨Int.le_refl 0,z4,fun i x hi=>by simp at hi⟩ (wkS [0] (by decide) ⟨⟨_,rfl,rfl,rfl⟩,trivial⟩ zr2) (fun z B z7 hB=> ?_)
 obtain⟨h0,h1,h2⟩:=z7
 cbv
 cases hc:g .q .lss z (g .ln V)
 ·rw [bg hg,bA hg,zqo]at hc
  cbv
  exact bk hF (by rw [hR,zb hG (by omega) (by omega) h2])
 rw [bg hg,bA hg,zqp]at hc
 cbv
 obtain⟨x,hx⟩:=qc (xs:=ns) h0 (gg hG hc)
 have hY:V[z.toNat]? =some x.ac:=by rw [hV];exact gU hx
 have z8:=hs x (zqd hx)
 have hj:fJ ns (z+1) x=false->R=false:=fun h=>by rw [hR];exact BM h0 hx h
 have y4:=FH hG h0 hc
 have y3:=I0 hx
 obtain⟨n,hn⟩:=nmE (z+1)
 rw [<-hn]at hj y4 y3
 obtain⟨OK,yU⟩:=nmE (fJ ns n x)
 have ha:=yU
 rw [fJ]at ha
 rw [<-yU]at hj
 obtain⟨A,hA⟩:=nmE (BU x.style)
 obtain⟨Dp,yS⟩:=nmE (wo ns n)
 obtain⟨Bd,yQ⟩:=nmE (rng Dp 1 4)
 obtain⟨C,hC⟩:=nmE (Fi ns n x.up)
 obtain⟨D,hD⟩:=nmE (x.kids.all (ij ns n))
 obtain⟨E,hE⟩:=nmE (Jx x)
 have hX:Bd=true->x.up≠0->isN ns x.up=true:=fun hb hu=>FS (by omega) y4 y3 (by rw [<-yS,<-yQ];exact hb) hu
 rw [<-hA,<-yS,<-yQ,<-hC,<-hD,<-hE]at ha
 have cA:=sW x.style
 have yO:=cD n
 have cB:=bi Dp 1 4
 have cT:=sV x.table.rules
 rw [<-hA]at cA
 rw [<-yS]at yO
 rw [<-yQ]at cB
 have hW:∀(i:Nat)(y:af),i<(z+1).toNat->ns[i]? =some y->OK=true->fJ ns ((i:Int)+1) y=true:=fun i y hi hy hk=>by
  by_cases hr:i<z.toNat
  ·exact h2 i y hr hy
  ·obtain rfl:i=z.toNat:=by omega
   rw [hx]at hy
   cases hy
   rw [show((z.toNat:Nat):Int)+1=n by omega,<-yU];exact hk
 obtain⟨a0,a1,⟨a2,a3,a4,a5,a6,a7,a8,a9,h3,h4,h5,⟨h6,h7⟩,⟨h8,h9⟩,⟨xa,xc⟩,⟨xd,xe⟩,⟨xf,xg⟩,⟨xh,xi⟩,⟨xj,xk⟩,xl,⟨⟨xm,xn⟩,⟨xo,xp⟩,⟨xq,xr⟩,⟨xt,xu⟩,⟨xv,xw⟩,⟨xx,xy⟩⟩,⟨⟨xz,xA⟩,⟨xB,xC⟩,⟨xD,xE⟩,⟨xF,xG⟩,⟨xH,xI⟩,⟨xJ,xK⟩⟩,⟨xL,xM,xN,xO⟩,⟨xP,xQ,xR,xS⟩,xT,xU⟩,hH,⟨xV⟩⟩:=x
 obtain⟨ak,yZ,-⟩:=z8
 replace cT:=cT yZ
 simp only at hX hC hD hE cA cT
 replace hY:V[z.toNat]? =some [.J a0,.view (vw ah a1),.J a2,.J a3,.J a4,.J a5,.J a6,.J a7,.B a8,.B a9,.J h3,.J h4,.J h5,.J h6,.J h7,.J h8,.J h9,.J xa,.J xc,.J xd,.J xe,.J xf,.J xg,.J xh,.J xi,.J xj,.J xk,.J xl,.J xm,.J xn,.J xo,.J xp,.J xq,.J xr,.J xt,.J xu,.J xv,.J xw,.J xx,.J xy,.J xz,.J xA,.J xB,.J xC,.J xD,.J xE,.J xF,.J xG,.J xH,.J xI,.J xJ,.J xK,.J xL,.J xM,.J xN,.J xO,.J xP,.J xQ,.J xR,.J xS,.J xT,.J xU,.B hH,.view (vw aI.c xV)]:=hY
 obtain⟨TK,yV⟩:=nmE (Gk xV)
 rw [<-yV]at cT
 obtain⟨he,hz⟩:=nmE (vw ah a1)
 obtain⟨hf,ho⟩:=nmE (vw aI.c xV)
 have hU:=rT hz
 have yY:=rT ho
 have y7:0<=aM he:=by omega
 have ai:aM he<=1048576:=by omega
 rw [<-hz,<-ho]at hY
 rw [<-ho]at cT
 have e1:g .w .add .i64 z 1=n:=by rw [aJ hg,aq _ (by omega),hn]
 refine goX hg _ h0 hY rfl ?_
 cbv
 (first|refine ad hg cA ?_|refine aa hg cA ?_)
 cases A
 case false=>
  cbv
  exact bk hF (hj ha).symm
 cbv
 rw [e1]
 (first|refine ad hg yO ?_|refine aa hg yO ?_)
 cbv
 (first|refine ad hg cB ?_|refine aa hg cB ?_)
 cases Bd
 case false=>
  cbv
  exact bk hF (hj (by rw [ha];rfl)).symm
 replace hX:=hX rfl
 have hd:E= !((hH&&(!TK||decide (0<aM he)))||(!hH&&decide (0<aM hf))):=by rw [hE,yV,hU,yY];rfl
 clear hE yV
 by_cases hu:a0=0
 ·have yR:C=true:=by rw [hC,Fi,hu];rfl
  have eu:g .q .neq a0 0=false:=by rw [bj hg];simpa using hu
  cbv
  rw [eu]
  cbv
  refine bO hg ay (by kernel_rfl) (fun j:Int=>[(1,.p 0),(3,.i z),(4,.p 1),(5,.i j)]) (fun _=>[.bx 32 1 [.view V],.bx 119 64 [.J a0,.view he,.J a2,.J a3,.J a4,.J a5,.J a6,.J a7,.B a8,.B a9,.J h3,.J h4,.J h5,.J h6,.J h7,.J h8,.J h9,.J xa,.J xc,.J xd,.J xe,.J xf,.J xg,.J xh,.J xi,.J xj,.J xk,.J xl,.J xm,.J xn,.J xo,.J xp,.J xq,.J xr,.J xt,.J xu,.J xv,.J xw,.J xx,.J xy,.J xz,.J xA,.J xB,.J xC,.J xD,.J xE,.J xF,.J xG,.J xH,.J xI,.J xJ,.J xK,.J xL,.J xM,.J xN,.J xO,.J xP,.J xQ,.J xR,.J xS,.J xT,.J xU,.B hH,.view hf]]) (fun j:Int=>0<=j/\j<=aM he/\∀(i:Nat)(v:Int),i<j.toNat->a1[i]? =some v->ij ns n v=true) (fun j=>(aM he).toNat-j.toNat)
   0 [some 0,some 1] ⟨Int.le_refl 0,y7,fun i v hi=>by simp at hi⟩ (wkS [0,1] (by decide) ⟨⟨_,rfl,rfl,rfl⟩,⟨_,rfl,rfl,rfl⟩,trivial⟩ zr4) (fun j B2 hL yP=> ?_)
  obtain⟨k0,k1,k2⟩:=hL
  cbv
  cases hk:g .q .lss j (g .ln he)
  ·rw [bg hg,bA hg,zqo]at hk
   have yT:D=true:=by rw [hD];exact yB hU (by omega) k2
   replace ha:OK=E:=by rw [ha,yR,yT];simp
   cases hH
   ·replace hd:E= !(decide (0<aM hf)):=by rw [hd];simp
    cbv
    cases ht:g .q .gtr (g .ln hf) 0
    case true=>
     rw [da hg,bA hg,zqp]at ht
     cbv
     exact bk hF (hj (by rw [ha,hd];simpa using ht)).symm
    rw [da hg,bA hg,zqo]at ht
    have hh:OK=true:=by rw [ha,hd];simpa using ht
    cbv
    rw [e1,hn]
    exact ib hB (z+1) [some 0] (wkS [0] (by decide) ⟨⟨_,rfl,rfl,rfl⟩,trivial⟩ zr2) ⟨by omega,by omega,fun i y hi hy=>hW i y hi hy hh⟩ (by omega)
   ·replace hd:E= !(!TK||decide (0<aM he)):=by rw [hd];simp
    cbv
    (first|refine ad hg cT ?_|refine aa hg cT ?_)
    cases TK
    case false=>
     cbv
     exact bk hF (hj (by rw [ha,hd];rfl)).symm
    cbv
    cases ht:g .q .gtr (g .ln he) 0
    case true=>
     rw [da hg,bA hg,zqp]at ht
     cbv
     exact bk hF (hj (by rw [ha,hd];simpa using ht)).symm
    rw [da hg,bA hg,zqo]at ht
    have hh:OK=true:=by rw [ha,hd];simpa using ht
    cbv
    rw [e1,hn]
    exact ib hB (z+1) [some 0] (wkS [0] (by decide) ⟨⟨_,rfl,rfl,rfl⟩,trivial⟩ zr2) ⟨by omega,by omega,fun i y hi hy=>hW i y hi hy hh⟩ (by omega)
  rw [bg hg,bA hg,zqp]at hk
  cbv
  obtain⟨y,hy⟩:=qc (xs:=a1) k0 (gg hU hk)
  have hT:he[j.toNat]? =some (lc (ah y)):=by rw [hz];exact ba hy
  have ci:=gV V y
  rw [<-hP y]at ci
  refine goX hg _ k0 hT rfl ?_
  cbv
  cases hik:isN ns y
  ·rw [hik]at ci
   have hI:D=false:=by rw [hD];exact pb hy (by rw [ij,hik];rfl)
   (first|refine ad hg ci ?_|refine aa hg ci ?_)
   cbv
   exact bk hF (hj (by rw [ha,hI];simp)).symm
  rw [hik]at ci
  (first|refine ad hg ci ?_|refine aa hg ci ?_)
  obtain⟨i1,i2,x,hQ⟩:=bD hik
  have hr:y<=1048576:=Int.le_trans (rU hG i2) yW
  have hw:V[(y-1).toNat]? =some x.ac:=by rw [hV];exact gU hQ
  have hm:=ua hQ
  obtain⟨c0,c1,⟨c2,c3,c4,c5,c6,c7,c8,c9,xW,xX,xY,⟨xZ,x0⟩,⟨x1,x2⟩,⟨x3,x4⟩,⟨x5,x6⟩,⟨x7,x8⟩,⟨x9,ya⟩,⟨yb,yc⟩,yd,⟨⟨ye,yf⟩,⟨yg,yh⟩,⟨yi,yj⟩,⟨yk,yl⟩,⟨ym,yn⟩,⟨yo,yp⟩⟩,⟨⟨yq,yr⟩,⟨ys,yt⟩,⟨yu,yv⟩,⟨yw,yx⟩,⟨yy,yz⟩,⟨yA,yC⟩⟩,⟨yD,yE,yF,yG⟩,⟨yH,yI,yJ,yK⟩,yL,yM⟩,yN,⟨hM⟩⟩:=x
  simp only at hm
  replace hw:V[(y-1).toNat]? =some [.J c0,.view (vw ah c1),.J c2,.J c3,.J c4,.J c5,.J c6,.J c7,.B c8,.B c9,.J xW,.J xX,.J xY,.J xZ,.J x0,.J x1,.J x2,.J x3,.J x4,.J x5,.J x6,.J x7,.J x8,.J x9,.J ya,.J yb,.J yc,.J yd,.J ye,.J yf,.J yg,.J yh,.J yi,.J yj,.J yk,.J yl,.J ym,.J yn,.J yo,.J yp,.J yq,.J yr,.J ys,.J yt,.J yu,.J yv,.J yw,.J yx,.J yy,.J yz,.J yA,.J yC,.J yD,.J yE,.J yF,.J yG,.J yH,.J yI,.J yJ,.J yK,.J yL,.J yM,.B yN,.view (vw aI.c hM)]:=hw
  obtain⟨y9,hJ⟩:=nmE (vw ah c1)
  obtain⟨hZ,hp⟩:=nmE (vw aI.c hM)
  rw [<-hJ,<-hp]at hw
  cbv
  refine goX hg _ k0 hT rfl ?_
  cbv
  (first|refine ad hg (dl V y i1 hr hw) ?_|refine aa hg (dl V y i1 hr hw) ?_)
  cbv
  rw [e1]
  cases hq:g .q .neq c0 n
  case true=>
   rw [bj hg,bne_iff_ne]at hq
   have hI:D=false:=by rw [hD];exact pb hy (by rw [ij,hik,hm];simpa using hq)
   cbv
   exact bk hF (hj (by rw [ha,hI];simp)).symm
  rw [bj hg,zqq]at hq
  have hK:ij ns n y=true:=by rw [ij,hik,hm];simpa using hq
  cbv
  have e3:g .w .add .i64 j 1=j+1:=by rw [aJ hg,aq _ (by omega)]
  rw [e3]
  exact ib yP (j+1) [some 0,some 1] (wkS [0,1] (by decide) ⟨⟨_,rfl,rfl,rfl⟩,⟨_,rfl,rfl,rfl⟩,trivial⟩ zr4) ⟨by omega,by omega,fun i v hi hv=>by
   by_cases hr:i<j.toNat
   ·exact k2 i v hr hv
   ·obtain rfl:i=j.toNat:=by omega
    rw [hy]at hv
    cases hv
    exact hK⟩ (by omega)
 ·have eu:g .q .neq a0 0=true:=by rw [bj hg];simpa using hu
  have z5:=hX hu
  obtain⟨u1,u2,xb,yX⟩:=bD z5
  have y6:a0<=1048576:=Int.le_trans (rU hG u2) yW
  have hS:V[(a0-1).toNat]? =some xb.ac:=by rw [hV];exact gU yX
  have y5:vN ns a0=xb.kids:=by unfold vN;rw [yX]
  have z6:=(hs xb (zqd yX))
  obtain⟨b0,b1,⟨b2,b3,b4,b5,b6,b7,b8,b9,za,zd,ze,⟨zf,zg⟩,⟨zh,zi⟩,⟨zj,zk⟩,⟨zl,zm⟩,⟨zn,zo⟩,⟨zp,zq⟩,⟨zr,zs⟩,zt,⟨⟨zu,zv⟩,⟨zw,zx⟩,⟨zy,zz⟩,⟨zA,zB⟩,⟨zC,zD⟩,⟨zE,zF⟩⟩,⟨⟨zG,zH⟩,⟨zI,zJ⟩,⟨zK,zL⟩,⟨zM,zN⟩,⟨zO,zP⟩,⟨zQ,zR⟩⟩,⟨zS,zT,zU,zV⟩,⟨zW,zX,zY,zZ⟩,z0,z1⟩,z2,⟨y0⟩⟩:=xb
  obtain⟨z9,ab,-⟩:=z6
  simp only at y5
  replace hS:V[(a0-1).toNat]? =some [.J b0,.view (vw ah b1),.J b2,.J b3,.J b4,.J b5,.J b6,.J b7,.B b8,.B b9,.J za,.J zd,.J ze,.J zf,.J zg,.J zh,.J zi,.J zj,.J zk,.J zl,.J zm,.J zn,.J zo,.J zp,.J zq,.J zr,.J zs,.J zt,.J zu,.J zv,.J zw,.J zx,.J zy,.J zz,.J zA,.J zB,.J zC,.J zD,.J zE,.J zF,.J zG,.J zH,.J zI,.J zJ,.J zK,.J zL,.J zM,.J zN,.J zO,.J zP,.J zQ,.J zR,.J zS,.J zT,.J zU,.J zV,.J zW,.J zX,.J zY,.J zZ,.J z0,.J z1,.B z2,.view (vw aI.c y0)]:=hS
  have cH:=ny b1 n z9
  obtain⟨Cn,y2⟩:=nmE (cnt b1 n)
  have y1:C=decide (Cn=1):=by rw [hC,Fi,y5,y2];simp [hu]
  rw [<-y2]at cH
  obtain⟨ag,hN⟩:=nmE (vw ah b1)
  obtain⟨y8,hO⟩:=nmE (vw aI.c y0)
  rw [<-hN,<-hO]at hS
  rw [<-hN]at cH
  cbv
  rw [eu]
  cbv
  (first|refine ad hg (dl V a0 u1 y6 hS) ?_|refine aa hg (dl V a0 u1 y6 hS) ?_)
  cbv
  rw [e1]
  (first|refine ad hg cH ?_|refine aa hg cH ?_)
  cbv
  cases hcn:g .q .neq Cn 1
  case true=>
   rw [bj hg,bne_iff_ne]at hcn
   have z3:C=false:=by rw [y1];simpa using hcn
   cbv
   exact bk hF (hj (by rw [ha,z3];simp)).symm
  rw [bj hg,zqq]at hcn
  have yR:C=true:=by rw [y1,hcn];rfl
  cbv
  refine bO hg ay (by kernel_rfl) (fun j:Int=>[(1,.p 0),(3,.i z),(4,.p 1),(5,.i j)]) (fun _=>[.bx 32 1 [.view V],.bx 119 64 [.J a0,.view he,.J a2,.J a3,.J a4,.J a5,.J a6,.J a7,.B a8,.B a9,.J h3,.J h4,.J h5,.J h6,.J h7,.J h8,.J h9,.J xa,.J xc,.J xd,.J xe,.J xf,.J xg,.J xh,.J xi,.J xj,.J xk,.J xl,.J xm,.J xn,.J xo,.J xp,.J xq,.J xr,.J xt,.J xu,.J xv,.J xw,.J xx,.J xy,.J xz,.J xA,.J xB,.J xC,.J xD,.J xE,.J xF,.J xG,.J xH,.J xI,.J xJ,.J xK,.J xL,.J xM,.J xN,.J xO,.J xP,.J xQ,.J xR,.J xS,.J xT,.J xU,.B hH,.view hf]]) (fun j:Int=>0<=j/\j<=aM he/\∀(i:Nat)(v:Int),i<j.toNat->a1[i]? =some v->ij ns n v=true) (fun j=>(aM he).toNat-j.toNat)
   0 [some 0,some 1] ⟨Int.le_refl 0,y7,fun i v hi=>by simp at hi⟩ (wkS [0,1] (by decide) ⟨⟨_,rfl,rfl,rfl⟩,⟨_,rfl,rfl,rfl⟩,trivial⟩ zr4) (fun j B2 hL yP=> ?_)
  obtain⟨k0,k1,k2⟩:=hL
  cbv
  cases hk:g .q .lss j (g .ln he)
  ·rw [bg hg,bA hg,zqo]at hk
   have yT:D=true:=by rw [hD];exact yB hU (by omega) k2
   replace ha:OK=E:=by rw [ha,yR,yT];simp
   cases hH
   ·replace hd:E= !(decide (0<aM hf)):=by rw [hd];simp
    cbv
    cases ht:g .q .gtr (g .ln hf) 0
    case true=>
     rw [da hg,bA hg,zqp]at ht
     cbv
     exact bk hF (hj (by rw [ha,hd];simpa using ht)).symm
    rw [da hg,bA hg,zqo]at ht
    have hh:OK=true:=by rw [ha,hd];simpa using ht
    cbv
    rw [e1,hn]
    exact ib hB (z+1) [some 0] (wkS [0] (by decide) ⟨⟨_,rfl,rfl,rfl⟩,trivial⟩ zr2) ⟨by omega,by omega,fun i y hi hy=>hW i y hi hy hh⟩ (by omega)
   ·replace hd:E= !(!TK||decide (0<aM he)):=by rw [hd];simp
    cbv
    (first|refine ad hg cT ?_|refine aa hg cT ?_)
    cases TK
    case false=>
     cbv
     exact bk hF (hj (by rw [ha,hd];rfl)).symm
    cbv
    cases ht:g .q .gtr (g .ln he) 0
    case true=>
     rw [da hg,bA hg,zqp]at ht
     cbv
     exact bk hF (hj (by rw [ha,hd];simpa using ht)).symm
    rw [da hg,bA hg,zqo]at ht
    have hh:OK=true:=by rw [ha,hd];simpa using ht
    cbv
    rw [e1,hn]
    exact ib hB (z+1) [some 0] (wkS [0] (by decide) ⟨⟨_,rfl,rfl,rfl⟩,trivial⟩ zr2) ⟨by omega,by omega,fun i y hi hy=>hW i y hi hy hh⟩ (by omega)
  rw [bg hg,bA hg,zqp]at hk
  cbv
  obtain⟨y,hy⟩:=qc (xs:=a1) k0 (gg hU hk)
  have hT:he[j.toNat]? =some (lc (ah y)):=by rw [hz];exact ba hy
  have ci:=gV V y
  rw [<-hP y]at ci
  refine goX hg _ k0 hT rfl ?_
  cbv
  cases hik:isN ns y
  ·rw [hik]at ci
   have hI:D=false:=by rw [hD];exact pb hy (by rw [ij,hik];rfl)
   (first|refine ad hg ci ?_|refine aa hg ci ?_)
   cbv
   exact bk hF (hj (by rw [ha,hI];simp)).symm
  rw [hik]at ci
  (first|refine ad hg ci ?_|refine aa hg ci ?_)
  obtain⟨i1,i2,x,hQ⟩:=bD hik
  have hr:y<=1048576:=Int.le_trans (rU hG i2) yW
  have hw:V[(y-1).toNat]? =some x.ac:=by rw [hV];exact gU hQ
  have hm:=ua hQ
  obtain⟨c0,c1,⟨c2,c3,c4,c5,c6,c7,c8,c9,xW,xX,xY,⟨xZ,x0⟩,⟨x1,x2⟩,⟨x3,x4⟩,⟨x5,x6⟩,⟨x7,x8⟩,⟨x9,ya⟩,⟨yb,yc⟩,yd,⟨⟨ye,yf⟩,⟨yg,yh⟩,⟨yi,yj⟩,⟨yk,yl⟩,⟨ym,yn⟩,⟨yo,yp⟩⟩,⟨⟨yq,yr⟩,⟨ys,yt⟩,⟨yu,yv⟩,⟨yw,yx⟩,⟨yy,yz⟩,⟨yA,yC⟩⟩,⟨yD,yE,yF,yG⟩,⟨yH,yI,yJ,yK⟩,yL,yM⟩,yN,⟨hM⟩⟩:=x
  simp only at hm
  replace hw:V[(y-1).toNat]? =some [.J c0,.view (vw ah c1),.J c2,.J c3,.J c4,.J c5,.J c6,.J c7,.B c8,.B c9,.J xW,.J xX,.J xY,.J xZ,.J x0,.J x1,.J x2,.J x3,.J x4,.J x5,.J x6,.J x7,.J x8,.J x9,.J ya,.J yb,.J yc,.J yd,.J ye,.J yf,.J yg,.J yh,.J yi,.J yj,.J yk,.J yl,.J ym,.J yn,.J yo,.J yp,.J yq,.J yr,.J ys,.J yt,.J yu,.J yv,.J yw,.J yx,.J yy,.J yz,.J yA,.J yC,.J yD,.J yE,.J yF,.J yG,.J yH,.J yI,.J yJ,.J yK,.J yL,.J yM,.B yN,.view (vw aI.c hM)]:=hw
  obtain⟨y9,hJ⟩:=nmE (vw ah c1)
  obtain⟨hZ,hp⟩:=nmE (vw aI.c hM)
  rw [<-hJ,<-hp]at hw
  cbv
  refine goX hg _ k0 hT rfl ?_
  cbv
  (first|refine ad hg (dl V y i1 hr hw) ?_|refine aa hg (dl V y i1 hr hw) ?_)
  cbv
  rw [e1]
  cases hq:g .q .neq c0 n
  case true=>
   rw [bj hg,bne_iff_ne]at hq
   have hI:D=false:=by rw [hD];exact pb hy (by rw [ij,hik,hm];simpa using hq)
   cbv
   exact bk hF (hj (by rw [ha,hI];simp)).symm
  rw [bj hg,zqq]at hq
  have hK:ij ns n y=true:=by rw [ij,hik,hm];simpa using hq
  cbv
  have e3:g .w .add .i64 j 1=j+1:=by rw [aJ hg,aq _ (by omega)]
  rw [e3]
  exact ib yP (j+1) [some 0,some 1] (wkS [0,1] (by decide) ⟨⟨_,rfl,rfl,rfl⟩,⟨_,rfl,rfl,rfl⟩,trivial⟩ zr4) ⟨by omega,by omega,fun i v hi hv=>by
   by_cases hr:i<j.toNat
   ·exact k2 i v hr hv
   ·obtain rfl:i=j.toNat:=by omega
    rw [hy]at hv
    cases hv
    exact hK⟩ (by omega)
theorem v8(ns:List af)(hl:ns.length<=1048576)(hs:∀y∈ns,y.small):PC0 72 [.agg [.view (vwA af.ac ns)]] (.t (abl (eV ns))):=by
 obtain⟨V,hV⟩:=nmE (vwA af.ac ns)
 have hH:aM V=(ns.length:Int):=by rw [aj,hV,bB]
 have ag:0<=aM V:=by omega
 have yf:aM V<=1048576:=by omega
 have x0:∀n,isN ns n=rng n 1 (aM V):=fun n=>by rw [hH];rfl
 have cD:=fun n=>tQ ns n hl
 obtain⟨R,hR⟩:=nmE (eV ns)
 rw [<-hR]
 rw [<-hV]at cD⊢
 refine ae (aK f72) ay func72 fun g F hg hF=> ?_
 cbv
 cases h12:g .q .gtr (g .ln V) 12
 case true=>
  rw [da hg,bA hg,zqp]at h12
  cbv
  exact bk hF (by rw [hR,zc hH (by omega)])
 rw [da hg,bA hg,zqo]at h12
 cbv
 refine bO hg ay (by kernel_rfl) (fun z:Int=>[(1,.p 0),(16,.v V),(17,.i (g .ln V)),(18,.i z)]) (fun _=>[.bx 32 1 [.view V]]) (fun z=>0<=z/\z<=aM V/\∀(i:Nat)(x:af),i<z.toNat->ns[i]? =some x->fJ ns ((i:Int)+1) x=true) (fun z=>(aM V).toNat-z.toNat)
  0 [some 0] ⟨Int.le_refl 0,ag,fun i x hi=>by simp at hi⟩ (wkS [0] (by decide) ⟨⟨_,rfl,rfl,rfl⟩,trivial⟩ zr4) (fun z B am hB=> ?_)
 obtain⟨h0,h1,h2⟩:=am
 cbv
 cases hc:g .q .lss z (g .ln V)
 ·rw [bg hg,bA hg,zqo]at hc
  cbv
  exact bk hF (by rw [hR,zb hH (by omega) (by omega) h2])
 rw [bg hg,bA hg,zqp]at hc
 cbv
 obtain⟨x,hx⟩:=qc (xs:=ns) h0 (gg hH hc)
 have hS:V[z.toNat]? =some x.ac:=by rw [hV];exact gU hx
 have an:=hs x (zqd hx)
 have ho:fJ ns (z+1) x=false->R=false:=fun h=>by rw [hR];exact BM h0 hx h
 have yh:=FH hH h0 hc
 have yg:=I0 hx
 obtain⟨n,hn⟩:=nmE (z+1)
 rw [<-hn]at ho yh yg
 obtain⟨OK,xV⟩:=nmE (fJ ns n x)
 have ha:=xV
 rw [fJ]at ha
 rw [<-xV]at ho
 obtain⟨A,hA⟩:=nmE (BU x.style)
 obtain⟨Dp,xU⟩:=nmE (wo ns n)
 obtain⟨Bd,xR⟩:=nmE (rng Dp 1 4)
 obtain⟨C,hC⟩:=nmE (Fi ns n x.up)
 obtain⟨D,hD⟩:=nmE (x.kids.all (ij ns n))
 obtain⟨E,hE⟩:=nmE (Jx x)
 have hQ:Bd=true->x.up≠0->isN ns x.up=true:=fun hb hu=>FS (by omega) yh yg (by rw [<-xU,<-xR];exact hb) hu
 rw [<-hA,<-xU,<-xR,<-hC,<-hD,<-hE]at ha
 have cA:=tL x.style
 have xQ:=cD n
 have cB:=bT Dp 1 4
 have cT:=tJ x.table.rules
 rw [<-hA]at cA
 rw [<-xU]at xQ
 rw [<-xR]at cB
 have hO:∀(i:Nat)(y:af),i<(z+1).toNat->ns[i]? =some y->OK=true->fJ ns ((i:Int)+1) y=true:=fun i y hi hy hk=>by
  by_cases hJ:i<z.toNat
  ·exact h2 i y hJ hy
  ·obtain rfl:i=z.toNat:=by omega
   rw [hx]at hy
   cases hy
   rw [show((z.toNat:Nat):Int)+1=n by omega,<-xV];exact hk
 obtain⟨a0,a1,⟨a2,a3,a4,a5,a6,a7,a8,a9,hT,hU,hW,⟨hX,hY⟩,⟨hZ,h3⟩,⟨h4,h5⟩,⟨h6,h7⟩,⟨h8,h9⟩,⟨xa,xc⟩,⟨xd,xe⟩,xf,⟨⟨xg,xh⟩,⟨xi,xj⟩,⟨xk,xl⟩,⟨xm,xn⟩,⟨xo,xp⟩,⟨xq,xr⟩⟩,⟨⟨xt,xu⟩,⟨xv,xw⟩,⟨xx,xy⟩,⟨xz,xA⟩,⟨xB,xC⟩,⟨xD,xE⟩⟩,⟨xF,xG,xH,xI⟩,⟨xJ,xK,xL,xM⟩,xN,xO⟩,hr,⟨xP⟩⟩:=x
 obtain⟨az,x8,-⟩:=an
 replace cT:=cT x8
 simp only at hQ hC hD hE cA cT
 replace hS:V[z.toNat]? =some [.J a0,.view (vw ah a1),.J a2,.J a3,.J a4,.J a5,.J a6,.J a7,.B a8,.B a9,.J hT,.J hU,.J hW,.J hX,.J hY,.J hZ,.J h3,.J h4,.J h5,.J h6,.J h7,.J h8,.J h9,.J xa,.J xc,.J xd,.J xe,.J xf,.J xg,.J xh,.J xi,.J xj,.J xk,.J xl,.J xm,.J xn,.J xo,.J xp,.J xq,.J xr,.J xt,.J xu,.J xv,.J xw,.J xx,.J xy,.J xz,.J xA,.J xB,.J xC,.J xD,.J xE,.J xF,.J xG,.J xH,.J xI,.J xJ,.J xK,.J xL,.J xM,.J xN,.J xO,.B hr,.view (vw aI.c xP)]:=hS
 obtain⟨TK,xW⟩:=nmE (Gk xP)
 rw [<-xW]at cT
 obtain⟨hf,hw⟩:=nmE (vw ah a1)
 obtain⟨hh,hp⟩:=nmE (vw aI.c xP)
 have x6:=rT hw
 have x7:=rT hp
 have ap:0<=aM hf:=by omega
 have aw:aM hf<=1048576:=by omega
 rw [<-hw,<-hp]at hS
 rw [<-hp]at cT
 have e1:g .w .add .i64 z 1=n:=by rw [aJ hg,aq _ (by omega),hn]
 refine goX hg _ h0 hS rfl ?_
 cbv
 rw [e1]
 (first|refine ad hg cA ?_|refine aa hg cA ?_)
 cases A
 case false=>
  cbv
  exact bk hF (ho ha).symm
 cbv
 (first|refine ad hg xQ ?_|refine aa hg xQ ?_)
 cbv
 (first|refine ad hg cB ?_|refine aa hg cB ?_)
 cases Bd
 case false=>
  cbv
  exact bk hF (ho (by rw [ha];rfl)).symm
 replace hQ:=hQ rfl
 have hd:E= !((hr&&(!TK||decide (0<aM hf)))||(!hr&&decide (0<aM hh))):=by rw [hE,xW,x6,x7];rfl
 clear hE xW
 cbv
 refine bO hg ay (by kernel_rfl) (fun j:Int=>[(1,.p 0),(4,.p 1),(5,.i n),(16,.v V),(17,.i (g .ln V)),(18,.i z),(37,.v hf),(38,.i (g .ln hf)),(39,.i j)]) (fun _=>[.bx 32 1 [.view V],.bx 119 64 [.J a0,.view hf,.J a2,.J a3,.J a4,.J a5,.J a6,.J a7,.B a8,.B a9,.J hT,.J hU,.J hW,.J hX,.J hY,.J hZ,.J h3,.J h4,.J h5,.J h6,.J h7,.J h8,.J h9,.J xa,.J xc,.J xd,.J xe,.J xf,.J xg,.J xh,.J xi,.J xj,.J xk,.J xl,.J xm,.J xn,.J xo,.J xp,.J xq,.J xr,.J xt,.J xu,.J xv,.J xw,.J xx,.J xy,.J xz,.J xA,.J xB,.J xC,.J xD,.J xE,.J xF,.J xG,.J xH,.J xI,.J xJ,.J xK,.J xL,.J xM,.J xN,.J xO,.B hr,.view hh]]) (fun j:Int=>0<=j/\j<=aM hf/\∀(i:Nat)(v:Int),i<j.toNat->a1[i]? =some v->ij ns n v=true) (fun j=>(aM hf).toNat-j.toNat)
  0 [some 0,some 1] ⟨Int.le_refl 0,ap,fun i v hi=>by simp at hi⟩ (wkS [0,1] (by decide) ⟨⟨_,rfl,rfl,rfl⟩,⟨_,rfl,rfl,rfl⟩,trivial⟩ zr9) (fun j B2 x2 z9=> ?_)
 obtain⟨k0,k1,k2⟩:=x2
 cbv
 cases hk:g .q .lss j (g .ln hf)
 case true=>
  rw [bg hg,bA hg,zqp]at hk
  cbv
  obtain⟨y,hy⟩:=qc (xs:=a1) k0 (gg x6 hk)
  have x5:hf[j.toNat]? =some (lc (ah y)):=by rw [hw];exact ba hy
  have ci:=jZ V y
  rw [<-x0 y]at ci
  refine goX hg _ k0 x5 rfl ?_
  cbv
  cases hik:isN ns y
  ·rw [hik]at ci
   have xT:D=false:=by rw [hD];exact pb hy (by rw [ij,hik];rfl)
   (first|refine ad hg ci ?_|refine aa hg ci ?_)
   cbv
   exact bk hF (ho (by rw [ha,xT];simp)).symm
  rw [hik]at ci
  (first|refine ad hg ci ?_|refine aa hg ci ?_)
  obtain⟨i1,i2,x,yl⟩:=bD hik
  have hJ:y<=1048576:=Int.le_trans (rU hH i2) yf
  have hN:V[(y-1).toNat]? =some x.ac:=by rw [hV];exact gU yl
  have hI:=ua yl
  obtain⟨c0,c1,⟨c2,c3,c4,c5,c6,c7,c8,c9,zi,zj,zk,⟨zl,zm⟩,⟨zn,zo⟩,⟨zp,zq⟩,⟨zr,zs⟩,⟨zt,zu⟩,⟨zv,zw⟩,⟨zx,zy⟩,zz,⟨⟨zA,zB⟩,⟨zC,zD⟩,⟨zE,zF⟩,⟨zG,zH⟩,⟨zI,zJ⟩,⟨zK,zL⟩⟩,⟨⟨zM,zN⟩,⟨zO,zP⟩,⟨zQ,zR⟩,⟨zS,zT⟩,⟨zU,zV⟩,⟨zW,zX⟩⟩,⟨zY,zZ,z0,z1⟩,⟨z2,z3,z4,z5⟩,z6,z7⟩,z8,⟨ya⟩⟩:=x
  simp only at hI
  replace hN:V[(y-1).toNat]? =some [.J c0,.view (vw ah c1),.J c2,.J c3,.J c4,.J c5,.J c6,.J c7,.B c8,.B c9,.J zi,.J zj,.J zk,.J zl,.J zm,.J zn,.J zo,.J zp,.J zq,.J zr,.J zs,.J zt,.J zu,.J zv,.J zw,.J zx,.J zy,.J zz,.J zA,.J zB,.J zC,.J zD,.J zE,.J zF,.J zG,.J zH,.J zI,.J zJ,.J zK,.J zL,.J zM,.J zN,.J zO,.J zP,.J zQ,.J zR,.J zS,.J zT,.J zU,.J zV,.J zW,.J zX,.J zY,.J zZ,.J z0,.J z1,.J z2,.J z3,.J z4,.J z5,.J z6,.J z7,.B z8,.view (vw aI.c ya)]:=hN
  obtain⟨av,xX⟩:=nmE (vw ah c1)
  obtain⟨yn,hL⟩:=nmE (vw aI.c ya)
  rw [<-xX,<-hL]at hN
  cbv
  (first|refine ad hg (gl V y i1 hJ hN) ?_|refine aa hg (gl V y i1 hJ hN) ?_)
  cbv
  cases hq:g .q .neq c0 n
  case true=>
   rw [bj hg,bne_iff_ne]at hq
   have xT:D=false:=by rw [hD];exact pb hy (by rw [ij,hik,hI];simpa using hq)
   cbv
   exact bk hF (ho (by rw [ha,xT];simp)).symm
  rw [bj hg,zqq]at hq
  have x1:ij ns n y=true:=by rw [ij,hik,hI];simpa using hq
  cbv
  have e3:g .w .add .i64 j 1=j+1:=by rw [aJ hg,aq _ (by omega)]
  rw [e3]
  exact ib z9 (j+1) [some 0,some 1] (wkS [0,1] (by decide) ⟨⟨_,rfl,rfl,rfl⟩,⟨_,rfl,rfl,rfl⟩,trivial⟩ zr9) ⟨by omega,by omega,fun i v hi hv=>by
   by_cases hJ:i<j.toNat
   ·exact k2 i v hJ hv
   ·obtain rfl:i=j.toNat:=by omega
    rw [hy]at hv
    cases hv
    exact x1⟩ (by omega)
 rw [bg hg,bA hg,zqo]at hk
 have ye:D=true:=by rw [hD];exact yB x6 (by omega) k2
 by_cases hu:a0=0
 ·have xS:C=true:=by rw [hC,Fi,hu];rfl
  have eu:g .q .neq a0 0=false:=by rw [bj hg];simpa using hu
  cbv
  rw [eu]
  cbv
  replace ha:OK=E:=by rw [ha,xS,ye];simp
  cases hr
  ·replace hd:E= !(decide (0<aM hh)):=by rw [hd];simp
   cbv
   cases ht:g .q .gtr (g .ln hh) 0
   case true=>
    rw [da hg,bA hg,zqp]at ht
    cbv
    exact bk hF (ho (by rw [ha,hd];simpa using ht)).symm
   rw [da hg,bA hg,zqo]at ht
   have hj:OK=true:=by rw [ha,hd];simpa using ht
   cbv
   rw [e1,hn]
   exact ib hB (z+1) [some 0] (wkS [0] (by decide) ⟨⟨_,rfl,rfl,rfl⟩,trivial⟩ zr4) ⟨by omega,by omega,fun i y hi hy=>hO i y hi hy hj⟩ (by omega)
  ·replace hd:E= !(!TK||decide (0<aM hf)):=by rw [hd];simp
   cbv
   (first|refine ad hg cT ?_|refine aa hg cT ?_)
   cases TK
   case false=>
    cbv
    exact bk hF (ho (by rw [ha,hd];rfl)).symm
   cbv
   cases ht:g .q .gtr (g .ln hf) 0
   case true=>
    rw [da hg,bA hg,zqp]at ht
    cbv
    exact bk hF (ho (by rw [ha,hd];simpa using ht)).symm
   rw [da hg,bA hg,zqo]at ht
   have hj:OK=true:=by rw [ha,hd];simpa using ht
   cbv
   rw [e1,hn]
   exact ib hB (z+1) [some 0] (wkS [0] (by decide) ⟨⟨_,rfl,rfl,rfl⟩,trivial⟩ zr4) ⟨by omega,by omega,fun i y hi hy=>hO i y hi hy hj⟩ (by omega)
 ·have eu:g .q .neq a0 0=true:=by rw [bj hg];simpa using hu
  have ak:=hQ hu
  obtain⟨u1,u2,xb,x4⟩:=bD ak
  have yj:a0<=1048576:=Int.le_trans (rU hH u2) yf
  have hM:V[(a0-1).toNat]? =some xb.ac:=by rw [hV];exact gU x4
  have yi:vN ns a0=xb.kids:=by unfold vN;rw [x4]
  have al:=(hs xb (zqd x4))
  obtain⟨b0,b1,⟨b2,b3,b4,b5,b6,b7,b8,b9,yo,yp,yq,⟨yr,ys⟩,⟨yt,yu⟩,⟨yv,yw⟩,⟨yx,yy⟩,⟨yz,yA⟩,⟨yC,yD⟩,⟨yE,yF⟩,yG,⟨⟨yH,yI⟩,⟨yJ,yK⟩,⟨yL,yM⟩,⟨yN,yO⟩,⟨yP,yQ⟩,⟨yR,yS⟩⟩,⟨⟨yT,yU⟩,⟨yV,yW⟩,⟨yX,yY⟩,⟨yZ,y0⟩,⟨y1,y2⟩,⟨y3,y4⟩⟩,⟨y5,y6,y7,y8⟩,⟨y9,za,zd,ze⟩,zf,zg⟩,zh,⟨x9⟩⟩:=xb
  obtain⟨aA,au,-⟩:=al
  simp only at yi
  replace hM:V[(a0-1).toNat]? =some [.J b0,.view (vw ah b1),.J b2,.J b3,.J b4,.J b5,.J b6,.J b7,.B b8,.B b9,.J yo,.J yp,.J yq,.J yr,.J ys,.J yt,.J yu,.J yv,.J yw,.J yx,.J yy,.J yz,.J yA,.J yC,.J yD,.J yE,.J yF,.J yG,.J yH,.J yI,.J yJ,.J yK,.J yL,.J yM,.J yN,.J yO,.J yP,.J yQ,.J yR,.J yS,.J yT,.J yU,.J yV,.J yW,.J yX,.J yY,.J yZ,.J y0,.J y1,.J y2,.J y3,.J y4,.J y5,.J y6,.J y7,.J y8,.J y9,.J za,.J zd,.J ze,.J zf,.J zg,.B zh,.view (vw aI.c x9)]:=hM
  obtain⟨Cn,yd⟩:=nmE (cnt b1 n)
  have yc:C=decide (Cn=1):=by rw [hC,Fi,yi,yd];simp [hu]
  obtain⟨hm,hG⟩:=nmE (vw ah b1)
  obtain⟨ym,hK⟩:=nmE (vw aI.c x9)
  have ao:=rT hG
  have ar:0<=aM hm:=by omega
  have ax:aM hm<=1048576:=by omega
  have xY:∀z:Int,aM hm<=z->yk (fun k=>if k=n then 1 else 0) b1 z.toNat=Cn:=fun z hz=>by rw [yd];exact mf _ (by omega)
  rw [<-hG,<-hK]at hM
  cbv
  rw [eu]
  cbv
  (first|refine ad hg (gl V a0 u1 yj hM) ?_|refine aa hg (gl V a0 u1 yj hM) ?_)
  cbv
  refine bO hg ay (by kernel_rfl) (fun s:Int×Int=>[(1,.p 0),(4,.p 1),(5,.i n),(8,.i s.2),(16,.v V),(17,.i (g .ln V)),(18,.i z),(63,.v hm),(64,.i (g .ln hm)),(65,.i s.1)]) (fun _=>[.bx 32 1 [.view V],.bx 119 64 [.J a0,.view hf,.J a2,.J a3,.J a4,.J a5,.J a6,.J a7,.B a8,.B a9,.J hT,.J hU,.J hW,.J hX,.J hY,.J hZ,.J h3,.J h4,.J h5,.J h6,.J h7,.J h8,.J h9,.J xa,.J xc,.J xd,.J xe,.J xf,.J xg,.J xh,.J xi,.J xj,.J xk,.J xl,.J xm,.J xn,.J xo,.J xp,.J xq,.J xr,.J xt,.J xu,.J xv,.J xw,.J xx,.J xy,.J xz,.J xA,.J xB,.J xC,.J xD,.J xE,.J xF,.J xG,.J xH,.J xI,.J xJ,.J xK,.J xL,.J xM,.J xN,.J xO,.B hr,.view hh]]) (fun s=>0<=s.1/\s.1<=aM hm/\0<=s.2/\s.2<=s.1/\s.2=yk (fun k=>if k=n then 1 else 0) b1 s.1.toNat) (fun s=>(aM hm).toNat-s.1.toNat)
   (0,0) [some 0,some 1] ⟨Int.le_refl 0,ar,Int.le_refl 0,Int.le_refl 0,(jE _ _).symm⟩ (wkS [0,1] (by decide) ⟨⟨_,rfl,rfl,rfl⟩,⟨_,rfl,rfl,rfl⟩,trivial⟩ ⟨rfl,rfl,rfl,rfl,rfl,rfl,rfl,rfl,rfl,rfl,trivial⟩) (fun s B3 x3 yb=> ?_)
  obtain⟨i,d⟩:=s
  obtain⟨q0,q1,q2,q3,q4⟩:=x3
  simp only at q0 q1 q2 q3 q4
  cbv
  cases hq:g .q .lss i (g .ln hm)
  case true=>
   rw [bg hg,bA hg,zqp]at hq
   cbv
   obtain⟨y,hy⟩:=qc (xs:=b1) q0 (gg ao hq)
   have x5:hm[i.toNat]? =some (lc (ah y)):=by rw [hG];exact ba hy
   have hP:=jF (fun k:Int=>if k=n then(1:Int)else 0) hy
   have e3:g .w .add .i64 i 1=i+1:=by rw [aJ hg,aq _ (by omega)]
   refine goX hg _ q0 x5 rfl ?_
   cbv
   cases he:g .q .eql y n
   ·have xZ:y≠n:=by rw [bm hg]at he;simpa using he
    simp only [if_neg xZ]at hP
    cbv
    rw [e3]
    exact ib yb (i+1,d) [some 0,some 1] (wkS [0,1] (by decide) ⟨⟨_,rfl,rfl,rfl⟩,⟨_,rfl,rfl,rfl⟩,trivial⟩ ⟨rfl,rfl,rfl,rfl,rfl,rfl,rfl,rfl,rfl,rfl,trivial⟩) ⟨by simp only;omega,by simp only;omega,q2,by simp only;omega,by simp only;rw [show(i+1).toNat=i.toNat+1 by omega,hP];omega⟩ (by show(aM hm).toNat-(i+1).toNat<(aM hm).toNat-i.toNat;omega)
   ·have xZ:y=n:=by rw [bm hg]at he;simpa using he
    simp only [if_pos xZ]at hP
    have e4:g .w .add .i64 d 1=d+1:=by rw [aJ hg,aq _ (by omega)]
    cbv
    rw [e3,e4]
    exact ib yb (i+1,d+1) [some 0,some 1] (wkS [0,1] (by decide) ⟨⟨_,rfl,rfl,rfl⟩,⟨_,rfl,rfl,rfl⟩,trivial⟩ ⟨rfl,rfl,rfl,rfl,rfl,rfl,rfl,rfl,rfl,rfl,trivial⟩) ⟨by simp only;omega,by simp only;omega,by simp only;omega,by simp only;omega,by simp only;rw [show(i+1).toNat=i.toNat+1 by omega,hP];omega⟩ (by show(aM hm).toNat-(i+1).toNat<(aM hm).toNat-i.toNat;omega)
  rw [bg hg,bA hg,zqo]at hq
  have ai:d=Cn:=by rw [q4,xY i (by omega)]
  subst ai
  cbv
  cases hcn:g .q .neq d 1
  case true=>
   rw [bj hg,bne_iff_ne]at hcn
   have ab:C=false:=by rw [yc];simpa using hcn
   cbv
   exact bk hF (ho (by rw [ha,ab];simp)).symm
  rw [bj hg,zqq]at hcn
  have xS:C=true:=by rw [yc,hcn];rfl
  cbv
  replace ha:OK=E:=by rw [ha,xS,ye];simp
  cases hr
  ·replace hd:E= !(decide (0<aM hh)):=by rw [hd];simp
   cbv
   cases ht:g .q .gtr (g .ln hh) 0
   case true=>
    rw [da hg,bA hg,zqp]at ht
    cbv
    exact bk hF (ho (by rw [ha,hd];simpa using ht)).symm
   rw [da hg,bA hg,zqo]at ht
   have hj:OK=true:=by rw [ha,hd];simpa using ht
   cbv
   rw [e1,hn]
   exact ib hB (z+1) [some 0] (wkS [0] (by decide) ⟨⟨_,rfl,rfl,rfl⟩,trivial⟩ zr4) ⟨by omega,by omega,fun i y hi hy=>hO i y hi hy hj⟩ (by omega)
  ·replace hd:E= !(!TK||decide (0<aM hf)):=by rw [hd];simp
   cbv
   (first|refine ad hg cT ?_|refine aa hg cT ?_)
   cases TK
   case false=>
    cbv
    exact bk hF (ho (by rw [ha,hd];rfl)).symm
   cbv
   cases ht:g .q .gtr (g .ln hf) 0
   case true=>
    rw [da hg,bA hg,zqp]at ht
    cbv
    exact bk hF (ho (by rw [ha,hd];simpa using ht)).symm
   rw [da hg,bA hg,zqo]at ht
   have hj:OK=true:=by rw [ha,hd];simpa using ht
   cbv
   rw [e1,hn]
   exact ib hB (z+1) [some 0] (wkS [0] (by decide) ⟨⟨_,rfl,rfl,rfl⟩,trivial⟩ zr4) ⟨by omega,by omega,fun i y hi hy=>hO i y hi hy hj⟩ (by omega)
def D6(x:af)(K R:LLA):List AC:= .J x.up:: .view K::(lc (ak.c x.style)++[.B x.measured,.view R])
theorem zO(x:af):x.ac=D6 x (vw ah x.kids) (vw aI.c x.table.rules):=rfl
theorem x9{p:Int->Bool}{z:Int}{x:Int}(h0:0<=z)(hx:xs[z.toNat]? =some x):(xs.take (z+1).toNat).filter p=(xs.take z.toNat).filter p++if p x then [x]else []:=by
 rw [show(z+1).toNat=z.toNat+1 by omega,List.take_add_one,hx,List.filter_append]
 simp only [Option.toList_some]
 cases h:p x<;>simp [h]
theorem wL(xs ys:List Int):vw ah (xs++ys)=vw ah xs++vw ah ys:=by simp [vw]
theorem dv(ns:List af)(n:Int)(x:af)(h1:1<=n)(h2:n<=1048576)(hx:ns[(n-1).toNat]? =some x)(V K R:LLA)(hV:V=vwA af.ac ns)(hK:K=vw ah x.kids)(hR:R=vw aI.c x.table.rules):PC0 75 [.agg [.view V],ai n] (.t (.agg (D6 x K R))):=by
 subst hV hK hR
 rw [<-zO]
 obtain⟨a0,a1,⟨a2,a3,a4,a5,a6,a7,a8,a9,ha,hb,hc,⟨hd,he⟩,⟨hf,hg⟩,⟨hh,hi⟩,⟨hj,hk⟩,⟨hl,hm⟩,⟨hn,ho⟩,⟨hp,hq⟩,hr,⟨⟨hs,ht⟩,⟨hu,hv⟩,⟨hw,hy⟩,⟨hz,hA⟩,⟨hB,hC⟩,⟨hD,hE⟩⟩,⟨⟨hF,hG⟩,⟨hH,hI⟩,⟨hJ,hL⟩,⟨hM,hN⟩,⟨hO,hP⟩,⟨hQ,hS⟩⟩,⟨hT,hU,hW,hX⟩,⟨hY,hZ,h0,h3⟩,h4,h5⟩,h6,⟨h7⟩⟩:=x
 exact gl _ n h1 h2 (gU hx)
theorem bL(ns:List af)(n:Int)(x:af)(h1:1<=n)(h2:n<=1048576)(hx:ns[(n-1).toNat]? =some x)(V K R:LLA)(hV:V=vwA af.ac ns)(hK:K=vw ah x.kids)(hR:R=vw aI.c x.table.rules):PC0 57 [.agg [.view V],ai n] (.t (.agg (D6 x K R))):=by
 subst hV hK hR
 rw [<-zO]
 obtain⟨a0,a1,⟨a2,a3,a4,a5,a6,a7,a8,a9,ha,hb,hc,⟨hd,he⟩,⟨hf,hg⟩,⟨hh,hi⟩,⟨hj,hk⟩,⟨hl,hm⟩,⟨hn,ho⟩,⟨hp,hq⟩,hr,⟨⟨hs,ht⟩,⟨hu,hv⟩,⟨hw,hy⟩,⟨hz,hA⟩,⟨hB,hC⟩,⟨hD,hE⟩⟩,⟨⟨hF,hG⟩,⟨hH,hI⟩,⟨hJ,hL⟩,⟨hM,hN⟩,⟨hO,hP⟩,⟨hQ,hS⟩⟩,⟨hT,hU,hW,hX⟩,⟨hY,hZ,h0,h3⟩,h4,h5⟩,h6,⟨h7⟩⟩:=x
 exact dl _ n h1 h2 (gU hx)
theorem jB(h:eV ns=true){x:af}(h1:1<=n)(hx:ns[(n-1).toNat]? =some x):∀k∈x.kids,isN ns k=true:=fun k hk=>by
 simp only [eV,zqs]at h
 have:=(ka ns ns 0).1 h.2 _ x hx
 simp only [fJ,zqs,zqf,ij]at this
 exact(this.2.2.2.1 k hk).1
end Go.Proofs.YtkicjdeddpihaaaGreat
