/- Whether a node lies under another. -/
import Derived.Test.YtbnplcingdgaaaaGreatW1at
set_option linter.unusedVariables false
set_option linter.unusedSimpArgs false
set_option maxHeartbeats 16000000
namespace Go.Proofs.YtbnplcingdgaaaaGreat
open Go.ChangeShapes Go.WideShapes Go.ChangeAt Go.RowKit Am Go.Proofs.Tryz
set_option maxRecDepth 100000
theorem oX(ns:List af)(hl:ns.length<=1048576)(hs:∀y∈ns,y.small):PC0 34 [.agg [.view (vwA af.ac ns)]] (.t (abl (bi ns))):=by
 obtain⟨V,hV⟩:=nmE (vwA af.ac ns)
 have hH:az V=(ns.length:Int):=by rw [aw,hV,aQ]
 have ab:0<=az V:=by omega
 have yg:az V<=1048576:=by omega
 have x1:∀n,isN ns n=rng n 1 (az V):=fun n=>by rw [hH];rfl
 have cD:=fun n=>nu ns n hl
 obtain⟨R,hR⟩:=nmE (bi ns)
 rw [<-hR]
 rw [<-hV]at cD⊢
 refine ae (aM f34) aB func34 fun g F hg hF=> ?_
 cbv
 cases h12:g .q .gtr (g .ln V) 12
 case true=>
  rw [dp hg,bG hg,zqp]at h12
  cbv
  exact aP hF (by rw [hR,rL hH (by omega)])
 rw [dp hg,bG hg,zqo]at h12
 cbv
 refine cj hg aB (by kernel_rfl) (fun z:Int=>[(1,.p 0),(16,.v V),(17,.i (g .ln V)),(18,.i z)]) (fun _=>[.bx 38 1 [.view V]]) (fun z=>0<=z/\z<=az V/\∀(i:Nat)(x:af),i<z.toNat->ns[i]? =some x->bE ns ((i:Int)+1) x=true) (fun z=>(az V).toNat-z.toNat)
  0 [some 0] ⟨Int.le_refl 0,ab,fun i x hi=>by simp at hi⟩ (wkS [0] (by decide) ⟨⟨_,rfl,rfl,rfl⟩,trivial⟩ zr4) (fun z B ak hB=> ?_)
 obtain⟨h0,h1,h2⟩:=ak
 cbv
 cases hc:g .q .lss z (g .ln V)
 ·rw [bA hg,bG hg,zqo]at hc
  cbv
  exact aP hF (by rw [hR,rK hH (by omega) (by omega) h2])
 rw [bA hg,bG hg,zqp]at hc
 cbv
 obtain⟨x,hx⟩:=tN (xs:=ns) h0 (fI hH hc)
 have hS:V[z.toNat]? =some x.ac:=by rw [hV];exact e9 hx
 have al:=hs x (zqd hx)
 have ho:bE ns (z+1) x=false->R=false:=fun h=>by rw [hR];exact uu h0 hx h
 have yj:=xU hH h0 hc
 have yi:=BJ hx
 obtain⟨n,hn⟩:=nmE (z+1)
 rw [<-hn]at ho yj yi
 obtain⟨OK,xW⟩:=nmE (bE ns n x)
 have ha:=xW
 rw [bE]at ha
 rw [<-xW]at ho
 obtain⟨A,hA⟩:=nmE (pI x.style)
 obtain⟨Dp,xV⟩:=nmE (kl ns n)
 obtain⟨Bd,xR⟩:=nmE (rng Dp 1 4)
 obtain⟨C,hC⟩:=nmE (sX ns n x.up)
 obtain⟨D,hD⟩:=nmE (x.kids.all (dB ns n))
 obtain⟨E,hE⟩:=nmE (BO x)
 have hQ:Bd=true->x.up≠0->isN ns x.up=true:=fun hb hu=>yh (by omega) yj yi (by rw [<-xV,<-xR];exact hb) hu
 rw [<-hA,<-xV,<-xR,<-hC,<-hD,<-hE]at ha
 have cA:=np x.style
 have xQ:=cD n
 have cB:=bg Dp 1 4
 have cT:=nk x.table.rules
 rw [<-hA]at cA
 rw [<-xV]at xQ
 rw [<-xR]at cB
 have hO:∀(i:Nat)(y:af),i<(z+1).toNat->ns[i]? =some y->OK=true->bE ns ((i:Int)+1) y=true:=fun i y hi hy hk=>by
  by_cases hJ:i<z.toNat
  ·exact h2 i y hJ hy
  ·obtain rfl:i=z.toNat:=by omega
   rw [hx]at hy
   cases hy
   rw [show((z.toNat:Nat):Int)+1=n by omega,<-xW];exact hk
 obtain⟨a0,a1,⟨a2,a3,a4,a5,a6,a7,a8,a9,hT,hU,hW,⟨hX,hY⟩,⟨hZ,h3⟩,⟨h4,h5⟩,⟨h6,h7⟩,⟨h8,h9⟩,⟨xa,xc⟩,⟨xd,xe⟩,xf,⟨⟨xg,xh⟩,⟨xi,xj⟩,⟨xk,xl⟩,⟨xm,xn⟩,⟨xo,xp⟩,⟨xq,xr⟩⟩,⟨⟨xt,xu⟩,⟨xv,xw⟩,⟨xx,xy⟩,⟨xz,xA⟩,⟨xB,xC⟩,⟨xD,xE⟩⟩,⟨xF,xG,xH,xI⟩,⟨xJ,xK,xL,xM⟩,xN,xO⟩,hr,⟨xP⟩⟩:=x
 obtain⟨ax,x9,-⟩:=al
 replace cT:=cT x9
 simp only at hQ hC hD hE cA cT
 replace hS:V[z.toNat]? =some [.J a0,.view (vw aj a1),.J a2,.J a3,.J a4,.J a5,.J a6,.J a7,.B a8,.B a9,.J hT,.J hU,.J hW,.J hX,.J hY,.J hZ,.J h3,.J h4,.J h5,.J h6,.J h7,.J h8,.J h9,.J xa,.J xc,.J xd,.J xe,.J xf,.J xg,.J xh,.J xi,.J xj,.J xk,.J xl,.J xm,.J xn,.J xo,.J xp,.J xq,.J xr,.J xt,.J xu,.J xv,.J xw,.J xx,.J xy,.J xz,.J xA,.J xB,.J xC,.J xD,.J xE,.J xF,.J xG,.J xH,.J xI,.J xJ,.J xK,.J xL,.J xM,.J xN,.J xO,.B hr,.view (vw aJ.c xP)]:=hS
 obtain⟨TK,xX⟩:=nmE (yL xP)
 rw [<-xX]at cT
 obtain⟨hf,hw⟩:=nmE (vw aj a1)
 obtain⟨hh,hp⟩:=nmE (vw aJ.c xP)
 have x7:=mq hw
 have x8:=mq hp
 have an:0<=az hf:=by omega
 have au:az hf<=1048576:=by omega
 rw [<-hw,<-hp]at hS
 rw [<-hp]at cT
 have e1:g .w .add .i64 z 1=n:=by rw [aI hg,aq _ (by omega),hn]
 refine goX hg _ h0 hS rfl ?_
 cbv
 rw [e1]
 (first|refine ad hg cA ?_|refine aa hg cA ?_)
 cases A
 case false=>
  cbv
  exact aP hF (ho ha).symm
 cbv
 (first|refine ad hg xQ ?_|refine aa hg xQ ?_)
 cbv
 (first|refine ad hg cB ?_|refine aa hg cB ?_)
 cases Bd
 case false=>
  cbv
  exact aP hF (ho (by rw [ha];rfl)).symm
 replace hQ:=hQ rfl
 have hd:E= !((hr&&(!TK||decide (0<az hf)))||(!hr&&decide (0<az hh))):=by rw [hE,xX,x7,x8];rfl
 clear hE xX
 cbv
 refine cj hg aB (by kernel_rfl) (fun j:Int=>[(1,.p 0),(4,.p 1),(5,.i n),(16,.v V),(17,.i (g .ln V)),(18,.i z),(37,.v hf),(38,.i (g .ln hf)),(39,.i j)]) (fun _=>[.bx 38 1 [.view V],.bx 55 64 [.J a0,.view hf,.J a2,.J a3,.J a4,.J a5,.J a6,.J a7,.B a8,.B a9,.J hT,.J hU,.J hW,.J hX,.J hY,.J hZ,.J h3,.J h4,.J h5,.J h6,.J h7,.J h8,.J h9,.J xa,.J xc,.J xd,.J xe,.J xf,.J xg,.J xh,.J xi,.J xj,.J xk,.J xl,.J xm,.J xn,.J xo,.J xp,.J xq,.J xr,.J xt,.J xu,.J xv,.J xw,.J xx,.J xy,.J xz,.J xA,.J xB,.J xC,.J xD,.J xE,.J xF,.J xG,.J xH,.J xI,.J xJ,.J xK,.J xL,.J xM,.J xN,.J xO,.B hr,.view hh]]) (fun j:Int=>0<=j/\j<=az hf/\∀(i:Nat)(v:Int),i<j.toNat->a1[i]? =some v->dB ns n v=true) (fun j=>(az hf).toNat-j.toNat)
  0 [some 0,some 1] ⟨Int.le_refl 0,an,fun i v hi=>by simp at hi⟩ (wkS [0,1] (by decide) ⟨⟨_,rfl,rfl,rfl⟩,⟨_,rfl,rfl,rfl⟩,trivial⟩ ⟨rfl,rfl,rfl,rfl,rfl,rfl,rfl,rfl,rfl,trivial⟩) (fun j B2 x3 z8=> ?_)
 obtain⟨k0,k1,k2⟩:=x3
 cbv
 cases hk:g .q .lss j (g .ln hf)
 case true=>
  rw [bA hg,bG hg,zqp]at hk
  cbv
  obtain⟨y,hy⟩:=tN (xs:=a1) k0 (fI x7 hk)
  have x6:hf[j.toNat]? =some (lc (aj y)):=by rw [hw];exact bk hy
  have ci:=gj V y
  rw [<-x1 y]at ci
  refine goX hg _ k0 x6 rfl ?_
  cbv
  cases hik:isN ns y
  ·rw [hik]at ci
   have xT:D=false:=by rw [hD];exact ka hy (by rw [dB,hik];rfl)
   (first|refine ad hg ci ?_|refine aa hg ci ?_)
   cbv
   exact aP hF (ho (by rw [ha,xT];simp)).symm
  rw [hik]at ci
  (first|refine ad hg ci ?_|refine aa hg ci ?_)
  obtain⟨i1,i2,x,ym⟩:=aR hik
  have hJ:y<=1048576:=Int.le_trans (ms hH i2) yg
  have hN:V[(y-1).toNat]? =some x.ac:=by rw [hV];exact e9 ym
  have hI:=lI ym
  obtain⟨c0,c1,⟨c2,c3,c4,c5,c6,c7,c8,c9,zh,zi,zj,⟨zk,zl⟩,⟨zm,zn⟩,⟨zo,zp⟩,⟨zq,zr⟩,⟨zs,zt⟩,⟨zu,zv⟩,⟨zw,zx⟩,zy,⟨⟨zz,zA⟩,⟨zB,zC⟩,⟨zD,zE⟩,⟨zF,zG⟩,⟨zH,zI⟩,⟨zJ,zK⟩⟩,⟨⟨zL,zM⟩,⟨zN,zO⟩,⟨zP,zQ⟩,⟨zR,zS⟩,⟨zT,zU⟩,⟨zV,zW⟩⟩,⟨zX,zY,zZ,z0⟩,⟨z1,z2,z3,z4⟩,z5,z6⟩,z7,⟨yb⟩⟩:=x
  simp only at hI
  replace hN:V[(y-1).toNat]? =some [.J c0,.view (vw aj c1),.J c2,.J c3,.J c4,.J c5,.J c6,.J c7,.B c8,.B c9,.J zh,.J zi,.J zj,.J zk,.J zl,.J zm,.J zn,.J zo,.J zp,.J zq,.J zr,.J zs,.J zt,.J zu,.J zv,.J zw,.J zx,.J zy,.J zz,.J zA,.J zB,.J zC,.J zD,.J zE,.J zF,.J zG,.J zH,.J zI,.J zJ,.J zK,.J zL,.J zM,.J zN,.J zO,.J zP,.J zQ,.J zR,.J zS,.J zT,.J zU,.J zV,.J zW,.J zX,.J zY,.J zZ,.J z0,.J z1,.J z2,.J z3,.J z4,.J z5,.J z6,.B z7,.view (vw aJ.c yb)]:=hN
  obtain⟨ar,xY⟩:=nmE (vw aj c1)
  obtain⟨yo,hL⟩:=nmE (vw aJ.c yb)
  rw [<-xY,<-hL]at hN
  cbv
  (first|refine ad hg (eb V y i1 hJ hN) ?_|refine aa hg (eb V y i1 hJ hN) ?_)
  cbv
  cases hq:g .q .neq c0 n
  case true=>
   rw [dg hg,bne_iff_ne]at hq
   have xT:D=false:=by rw [hD];exact ka hy (by rw [dB,hik,hI];simpa using hq)
   cbv
   exact aP hF (ho (by rw [ha,xT];simp)).symm
  rw [dg hg,zqq]at hq
  have x2:dB ns n y=true:=by rw [dB,hik,hI];simpa using hq
  cbv
  have e3:g .w .add .i64 j 1=j+1:=by rw [aI hg,aq _ (by omega)]
  rw [e3]
  exact gK z8 (j+1) [some 0,some 1] (wkS [0,1] (by decide) ⟨⟨_,rfl,rfl,rfl⟩,⟨_,rfl,rfl,rfl⟩,trivial⟩ ⟨rfl,rfl,rfl,rfl,rfl,rfl,rfl,rfl,rfl,trivial⟩) ⟨by omega,by omega,fun i v hi hv=>by
   by_cases hJ:i<j.toNat
   ·exact k2 i v hJ hv
   ·obtain rfl:i=j.toNat:=by omega
    rw [hy]at hv
    cases hv
    exact x2⟩ (by omega)
 rw [bA hg,bG hg,zqo]at hk
 have yf:D=true:=by rw [hD];exact rh x7 (by omega) k2
 by_cases hu:a0=0
 ·have xS:C=true:=by rw [hC,sX,hu];rfl
  have eu:g .q .neq a0 0=false:=by rw [dg hg];simpa using hu
  cbv
  rw [eu]
  cbv
  replace ha:OK=E:=by rw [ha,xS,yf];simp
  cases hr
  ·replace hd:E= !(decide (0<az hh)):=by rw [hd];simp
   cbv
   cases ht:g .q .gtr (g .ln hh) 0
   case true=>
    rw [dp hg,bG hg,zqp]at ht
    cbv
    exact aP hF (ho (by rw [ha,hd];simpa using ht)).symm
   rw [dp hg,bG hg,zqo]at ht
   have hj:OK=true:=by rw [ha,hd];simpa using ht
   cbv
   rw [e1,hn]
   exact gK hB (z+1) [some 0] (wkS [0] (by decide) ⟨⟨_,rfl,rfl,rfl⟩,trivial⟩ zr4) ⟨by omega,by omega,fun i y hi hy=>hO i y hi hy hj⟩ (by omega)
  ·replace hd:E= !(!TK||decide (0<az hf)):=by rw [hd];simp
   cbv
   (first|refine ad hg cT ?_|refine aa hg cT ?_)
   cases TK
   case false=>
    cbv
    exact aP hF (ho (by rw [ha,hd];rfl)).symm
   cbv
   cases ht:g .q .gtr (g .ln hf) 0
   case true=>
    rw [dp hg,bG hg,zqp]at ht
    cbv
    exact aP hF (ho (by rw [ha,hd];simpa using ht)).symm
   rw [dp hg,bG hg,zqo]at ht
   have hj:OK=true:=by rw [ha,hd];simpa using ht
   cbv
   rw [e1,hn]
   exact gK hB (z+1) [some 0] (wkS [0] (by decide) ⟨⟨_,rfl,rfl,rfl⟩,trivial⟩ zr4) ⟨by omega,by omega,fun i y hi hy=>hO i y hi hy hj⟩ (by omega)
 ·have eu:g .q .neq a0 0=true:=by rw [dg hg];simpa using hu
  have ah:=hQ hu
  obtain⟨u1,u2,xb,x5⟩:=aR ah
  have yl:a0<=1048576:=Int.le_trans (ms hH u2) yg
  have hM:V[(a0-1).toNat]? =some xb.ac:=by rw [hV];exact e9 x5
  have yk:iC ns a0=xb.kids:=by unfold iC;rw [x5]
  have ai:=(hs xb (zqd x5))
  obtain⟨b0,b1,⟨b2,b3,b4,b5,b6,b7,b8,b9,yp,yq,yr,⟨ys,yt⟩,⟨yu,yv⟩,⟨yw,yx⟩,⟨yy,yz⟩,⟨yA,yB⟩,⟨yC,yD⟩,⟨yE,yF⟩,yG,⟨⟨yH,yI⟩,⟨yJ,yK⟩,⟨yM,yN⟩,⟨yO,yP⟩,⟨yQ,yR⟩,⟨yS,yT⟩⟩,⟨⟨yU,yV⟩,⟨yW,yX⟩,⟨yY,yZ⟩,⟨y0,y1⟩,⟨y2,y3⟩,⟨y4,y5⟩⟩,⟨y6,y7,y8,y9⟩,⟨za,zb,zc,zd⟩,ze,zf⟩,zg,⟨ya⟩⟩:=xb
  obtain⟨ay,ap,-⟩:=ai
  simp only at yk
  replace hM:V[(a0-1).toNat]? =some [.J b0,.view (vw aj b1),.J b2,.J b3,.J b4,.J b5,.J b6,.J b7,.B b8,.B b9,.J yp,.J yq,.J yr,.J ys,.J yt,.J yu,.J yv,.J yw,.J yx,.J yy,.J yz,.J yA,.J yB,.J yC,.J yD,.J yE,.J yF,.J yG,.J yH,.J yI,.J yJ,.J yK,.J yM,.J yN,.J yO,.J yP,.J yQ,.J yR,.J yS,.J yT,.J yU,.J yV,.J yW,.J yX,.J yY,.J yZ,.J y0,.J y1,.J y2,.J y3,.J y4,.J y5,.J y6,.J y7,.J y8,.J y9,.J za,.J zb,.J zc,.J zd,.J ze,.J zf,.B zg,.view (vw aJ.c ya)]:=hM
  obtain⟨Cn,ye⟩:=nmE (cnt b1 n)
  have yd:C=decide (Cn=1):=by rw [hC,sX,yk,ye];simp [hu]
  obtain⟨hm,hG⟩:=nmE (vw aj b1)
  obtain⟨yn,hK⟩:=nmE (vw aJ.c ya)
  have am:=mq hG
  have ao:0<=az hm:=by omega
  have av:az hm<=1048576:=by omega
  have xZ:∀z:Int,az hm<=z->ta (fun k=>if k=n then 1 else 0) b1 z.toNat=Cn:=fun z hz=>by rw [ye];exact lr _ (by omega)
  rw [<-hG,<-hK]at hM
  cbv
  rw [eu]
  cbv
  (first|refine ad hg (eb V a0 u1 yl hM) ?_|refine aa hg (eb V a0 u1 yl hM) ?_)
  cbv
  refine cj hg aB (by kernel_rfl) (fun s:Int×Int=>[(1,.p 0),(4,.p 1),(5,.i n),(8,.i s.2),(16,.v V),(17,.i (g .ln V)),(18,.i z),(63,.v hm),(64,.i (g .ln hm)),(65,.i s.1)]) (fun _=>[.bx 38 1 [.view V],.bx 55 64 [.J a0,.view hf,.J a2,.J a3,.J a4,.J a5,.J a6,.J a7,.B a8,.B a9,.J hT,.J hU,.J hW,.J hX,.J hY,.J hZ,.J h3,.J h4,.J h5,.J h6,.J h7,.J h8,.J h9,.J xa,.J xc,.J xd,.J xe,.J xf,.J xg,.J xh,.J xi,.J xj,.J xk,.J xl,.J xm,.J xn,.J xo,.J xp,.J xq,.J xr,.J xt,.J xu,.J xv,.J xw,.J xx,.J xy,.J xz,.J xA,.J xB,.J xC,.J xD,.J xE,.J xF,.J xG,.J xH,.J xI,.J xJ,.J xK,.J xL,.J xM,.J xN,.J xO,.B hr,.view hh]]) (fun s=>0<=s.1/\s.1<=az hm/\0<=s.2/\s.2<=s.1/\s.2=ta (fun k=>if k=n then 1 else 0) b1 s.1.toNat) (fun s=>(az hm).toNat-s.1.toNat)
   (0,0) [some 0,some 1] ⟨Int.le_refl 0,ao,Int.le_refl 0,Int.le_refl 0,(jv _ _).symm⟩ (wkS [0,1] (by decide) ⟨⟨_,rfl,rfl,rfl⟩,⟨_,rfl,rfl,rfl⟩,trivial⟩ ⟨rfl,rfl,rfl,rfl,rfl,rfl,rfl,rfl,rfl,rfl,trivial⟩) (fun s B3 x4 yc=> ?_)
  obtain⟨i,d⟩:=s
  obtain⟨q0,q1,q2,q3,q4⟩:=x4
  simp only at q0 q1 q2 q3 q4
  cbv
  cases hq:g .q .lss i (g .ln hm)
  case true=>
   rw [bA hg,bG hg,zqp]at hq
   cbv
   obtain⟨y,hy⟩:=tN (xs:=b1) q0 (fI am hq)
   have x6:hm[i.toNat]? =some (lc (aj y)):=by rw [hG];exact bk hy
   have hP:=jw (fun k:Int=>if k=n then(1:Int)else 0) hy
   have e3:g .w .add .i64 i 1=i+1:=by rw [aI hg,aq _ (by omega)]
   refine goX hg _ q0 x6 rfl ?_
   cbv
   cases he:g .q .eql y n
   ·have x0:y≠n:=by rw [bC hg]at he;simpa using he
    simp only [if_neg x0]at hP
    cbv
    rw [e3]
    exact gK yc (i+1,d) [some 0,some 1] (wkS [0,1] (by decide) ⟨⟨_,rfl,rfl,rfl⟩,⟨_,rfl,rfl,rfl⟩,trivial⟩ ⟨rfl,rfl,rfl,rfl,rfl,rfl,rfl,rfl,rfl,rfl,trivial⟩) ⟨by simp only;omega,by simp only;omega,q2,by simp only;omega,by simp only;rw [show(i+1).toNat=i.toNat+1 by omega,hP];omega⟩ (by show(az hm).toNat-(i+1).toNat<(az hm).toNat-i.toNat;omega)
   ·have x0:y=n:=by rw [bC hg]at he;simpa using he
    simp only [if_pos x0]at hP
    have e4:g .w .add .i64 d 1=d+1:=by rw [aI hg,aq _ (by omega)]
    cbv
    rw [e3,e4]
    exact gK yc (i+1,d+1) [some 0,some 1] (wkS [0,1] (by decide) ⟨⟨_,rfl,rfl,rfl⟩,⟨_,rfl,rfl,rfl⟩,trivial⟩ ⟨rfl,rfl,rfl,rfl,rfl,rfl,rfl,rfl,rfl,rfl,trivial⟩) ⟨by simp only;omega,by simp only;omega,by simp only;omega,by simp only;omega,by simp only;rw [show(i+1).toNat=i.toNat+1 by omega,hP];omega⟩ (by show(az hm).toNat-(i+1).toNat<(az hm).toNat-i.toNat;omega)
  rw [bA hg,bG hg,zqo]at hq
  have ag:d=Cn:=by rw [q4,xZ i (by omega)]
  subst ag
  cbv
  cases hcn:g .q .neq d 1
  case true=>
   rw [dg hg,bne_iff_ne]at hcn
   have z9:C=false:=by rw [yd];simpa using hcn
   cbv
   exact aP hF (ho (by rw [ha,z9];simp)).symm
  rw [dg hg,zqq]at hcn
  have xS:C=true:=by rw [yd,hcn];rfl
  cbv
  replace ha:OK=E:=by rw [ha,xS,yf];simp
  cases hr
  ·replace hd:E= !(decide (0<az hh)):=by rw [hd];simp
   cbv
   cases ht:g .q .gtr (g .ln hh) 0
   case true=>
    rw [dp hg,bG hg,zqp]at ht
    cbv
    exact aP hF (ho (by rw [ha,hd];simpa using ht)).symm
   rw [dp hg,bG hg,zqo]at ht
   have hj:OK=true:=by rw [ha,hd];simpa using ht
   cbv
   rw [e1,hn]
   exact gK hB (z+1) [some 0] (wkS [0] (by decide) ⟨⟨_,rfl,rfl,rfl⟩,trivial⟩ zr4) ⟨by omega,by omega,fun i y hi hy=>hO i y hi hy hj⟩ (by omega)
  ·replace hd:E= !(!TK||decide (0<az hf)):=by rw [hd];simp
   cbv
   (first|refine ad hg cT ?_|refine aa hg cT ?_)
   cases TK
   case false=>
    cbv
    exact aP hF (ho (by rw [ha,hd];rfl)).symm
   cbv
   cases ht:g .q .gtr (g .ln hf) 0
   case true=>
    rw [dp hg,bG hg,zqp]at ht
    cbv
    exact aP hF (ho (by rw [ha,hd];simpa using ht)).symm
   rw [dp hg,bG hg,zqo]at ht
   have hj:OK=true:=by rw [ha,hd];simpa using ht
   cbv
   rw [e1,hn]
   exact gK hB (z+1) [some 0] (wkS [0] (by decide) ⟨⟨_,rfl,rfl,rfl⟩,trivial⟩ zr4) ⟨by omega,by omega,fun i y hi hy=>hO i y hi hy hj⟩ (by omega)
theorem fd(ns:List af)(hl:ns.length<=1048576)(hs:∀y∈ns,y.small):PC0 19 [.agg [.view (vwA af.ac ns)]] (.t (abl (bi ns))):=by
 obtain⟨V,hV⟩:=nmE (vwA af.ac ns)
 have hG:az V=(ns.length:Int):=by rw [aw,hV,aQ]
 have z4:0<=az V:=by omega
 have yY:az V<=1048576:=by omega
 have hP:∀n,isN ns n=rng n 1 (az V):=fun n=>by rw [hG];rfl
 have cD:=fun n=>m5 ns n hl
 obtain⟨R,hR⟩:=nmE (bi ns)
 rw [<-hR]
 rw [<-hV]at cD⊢
 refine ae (aM f19) aB func19 fun g F hg hF=> ?_
 cbv
 cases h12:g .q .gtr (g .ln V) 12
 case true=>
  rw [dp hg,bG hg,zqp]at h12
  cbv
  exact aP hF (by rw [hR,rL hG (by omega)])
 rw [dp hg,bG hg,zqo]at h12
 cbv
 refine cj hg aB (by kernel_rfl) (fun z:Int=>[(1,.p 0),(3,.i z)]) (fun _=>[.bx 38 1 [.view V]]) (fun z=>0<=z/\z<=az V/\∀(i:Nat)(x:af),i<z.toNat->ns[i]? =some x->bE ns ((i:Int)+1) x=true) (fun z=>(az V).toNat-z.toNat)
  0 [some 0] ⟨Int.le_refl 0,z4,fun i x hi=>by simp at hi⟩ (wkS [0] (by decide) ⟨⟨_,rfl,rfl,rfl⟩,trivial⟩ zr2) (fun z B z7 hB=> ?_)
 obtain⟨h0,h1,h2⟩:=z7
 cbv
 cases hc:g .q .lss z (g .ln V)
 ·rw [bA hg,bG hg,zqo]at hc
  cbv
  exact aP hF (by rw [hR,rK hG (by omega) (by omega) h2])
 rw [bA hg,bG hg,zqp]at hc
 cbv
 obtain⟨x,hx⟩:=tN (xs:=ns) h0 (fI hG hc)
 have hY:V[z.toNat]? =some x.ac:=by rw [hV];exact e9 hx
 have z8:=hs x (zqd hx)
 have hj:bE ns (z+1) x=false->R=false:=fun h=>by rw [hR];exact uu h0 hx h
 have y6:=xU hG h0 hc
 have y5:=BJ hx
 obtain⟨n,hn⟩:=nmE (z+1)
 rw [<-hn]at hj y6 y5
 obtain⟨OK,yW⟩:=nmE (bE ns n x)
 have ha:=yW
 rw [bE]at ha
 rw [<-yW]at hj
 obtain⟨A,hA⟩:=nmE (pI x.style)
 obtain⟨Dp,yU⟩:=nmE (kl ns n)
 obtain⟨Bd,yS⟩:=nmE (rng Dp 1 4)
 obtain⟨C,hC⟩:=nmE (sX ns n x.up)
 obtain⟨D,hD⟩:=nmE (x.kids.all (dB ns n))
 obtain⟨E,hE⟩:=nmE (BO x)
 have hX:Bd=true->x.up≠0->isN ns x.up=true:=fun hb hu=>yh (by omega) y6 y5 (by rw [<-yU,<-yS];exact hb) hu
 rw [<-hA,<-yU,<-yS,<-hC,<-hD,<-hE]at ha
 have cA:=fG x.style
 have yQ:=cD n
 have cB:=be Dp 1 4
 have cT:=mY x.table.rules
 rw [<-hA]at cA
 rw [<-yU]at yQ
 rw [<-yS]at cB
 have hW:∀(i:Nat)(y:af),i<(z+1).toNat->ns[i]? =some y->OK=true->bE ns ((i:Int)+1) y=true:=fun i y hi hy hk=>by
  by_cases hr:i<z.toNat
  ·exact h2 i y hr hy
  ·obtain rfl:i=z.toNat:=by omega
   rw [hx]at hy
   cases hy
   rw [show((z.toNat:Nat):Int)+1=n by omega,<-yW];exact hk
 obtain⟨a0,a1,⟨a2,a3,a4,a5,a6,a7,a8,a9,h3,h4,h5,⟨h6,h7⟩,⟨h8,h9⟩,⟨xa,xc⟩,⟨xd,xe⟩,⟨xf,xg⟩,⟨xh,xi⟩,⟨xj,xk⟩,xl,⟨⟨xm,xn⟩,⟨xo,xp⟩,⟨xq,xr⟩,⟨xt,xu⟩,⟨xv,xw⟩,⟨xx,xy⟩⟩,⟨⟨xz,xA⟩,⟨xB,xC⟩,⟨xD,xE⟩,⟨xF,xG⟩,⟨xH,xI⟩,⟨xJ,xK⟩⟩,⟨xL,xM,xN,xO⟩,⟨xP,xQ,xR,xS⟩,xT,xV⟩,hH,⟨xW⟩⟩:=x
 obtain⟨ai,y1,-⟩:=z8
 replace cT:=cT y1
 simp only at hX hC hD hE cA cT
 replace hY:V[z.toNat]? =some [.J a0,.view (vw aj a1),.J a2,.J a3,.J a4,.J a5,.J a6,.J a7,.B a8,.B a9,.J h3,.J h4,.J h5,.J h6,.J h7,.J h8,.J h9,.J xa,.J xc,.J xd,.J xe,.J xf,.J xg,.J xh,.J xi,.J xj,.J xk,.J xl,.J xm,.J xn,.J xo,.J xp,.J xq,.J xr,.J xt,.J xu,.J xv,.J xw,.J xx,.J xy,.J xz,.J xA,.J xB,.J xC,.J xD,.J xE,.J xF,.J xG,.J xH,.J xI,.J xJ,.J xK,.J xL,.J xM,.J xN,.J xO,.J xP,.J xQ,.J xR,.J xS,.J xT,.J xV,.B hH,.view (vw aJ.c xW)]:=hY
 obtain⟨TK,yX⟩:=nmE (yL xW)
 rw [<-yX]at cT
 obtain⟨he,hz⟩:=nmE (vw aj a1)
 obtain⟨hf,ho⟩:=nmE (vw aJ.c xW)
 have hU:=mq hz
 have y0:=mq ho
 have y9:0<=az he:=by omega
 have ah:az he<=1048576:=by omega
 rw [<-hz,<-ho]at hY
 rw [<-ho]at cT
 have e1:g .w .add .i64 z 1=n:=by rw [aI hg,aq _ (by omega),hn]
 refine goX hg _ h0 hY rfl ?_
 cbv
 (first|refine ad hg cA ?_|refine aa hg cA ?_)
 cases A
 case false=>
  cbv
  exact aP hF (hj ha).symm
 cbv
 rw [e1]
 (first|refine ad hg yQ ?_|refine aa hg yQ ?_)
 cbv
 (first|refine ad hg cB ?_|refine aa hg cB ?_)
 cases Bd
 case false=>
  cbv
  exact aP hF (hj (by rw [ha];rfl)).symm
 replace hX:=hX rfl
 have hd:E= !((hH&&(!TK||decide (0<az he)))||(!hH&&decide (0<az hf))):=by rw [hE,yX,hU,y0];rfl
 clear hE yX
 by_cases hu:a0=0
 ·have yT:C=true:=by rw [hC,sX,hu];rfl
  have eu:g .q .neq a0 0=false:=by rw [dg hg];simpa using hu
  cbv
  rw [eu]
  cbv
  refine cj hg aB (by kernel_rfl) (fun j:Int=>[(1,.p 0),(3,.i z),(4,.p 1),(5,.i j)]) (fun _=>[.bx 38 1 [.view V],.bx 55 64 [.J a0,.view he,.J a2,.J a3,.J a4,.J a5,.J a6,.J a7,.B a8,.B a9,.J h3,.J h4,.J h5,.J h6,.J h7,.J h8,.J h9,.J xa,.J xc,.J xd,.J xe,.J xf,.J xg,.J xh,.J xi,.J xj,.J xk,.J xl,.J xm,.J xn,.J xo,.J xp,.J xq,.J xr,.J xt,.J xu,.J xv,.J xw,.J xx,.J xy,.J xz,.J xA,.J xB,.J xC,.J xD,.J xE,.J xF,.J xG,.J xH,.J xI,.J xJ,.J xK,.J xL,.J xM,.J xN,.J xO,.J xP,.J xQ,.J xR,.J xS,.J xT,.J xV,.B hH,.view hf]]) (fun j:Int=>0<=j/\j<=az he/\∀(i:Nat)(v:Int),i<j.toNat->a1[i]? =some v->dB ns n v=true) (fun j=>(az he).toNat-j.toNat)
   0 [some 0,some 1] ⟨Int.le_refl 0,y9,fun i v hi=>by simp at hi⟩ (wkS [0,1] (by decide) ⟨⟨_,rfl,rfl,rfl⟩,⟨_,rfl,rfl,rfl⟩,trivial⟩ zr4) (fun j B2 hL yR=> ?_)
  obtain⟨k0,k1,k2⟩:=hL
  cbv
  cases hk:g .q .lss j (g .ln he)
  ·rw [bA hg,bG hg,zqo]at hk
   have yV:D=true:=by rw [hD];exact rh hU (by omega) k2
   replace ha:OK=E:=by rw [ha,yT,yV];simp
   cases hH
   ·replace hd:E= !(decide (0<az hf)):=by rw [hd];simp
    cbv
    cases ht:g .q .gtr (g .ln hf) 0
    case true=>
     rw [dp hg,bG hg,zqp]at ht
     cbv
     exact aP hF (hj (by rw [ha,hd];simpa using ht)).symm
    rw [dp hg,bG hg,zqo]at ht
    have hh:OK=true:=by rw [ha,hd];simpa using ht
    cbv
    rw [e1,hn]
    exact gK hB (z+1) [some 0] (wkS [0] (by decide) ⟨⟨_,rfl,rfl,rfl⟩,trivial⟩ zr2) ⟨by omega,by omega,fun i y hi hy=>hW i y hi hy hh⟩ (by omega)
   ·replace hd:E= !(!TK||decide (0<az he)):=by rw [hd];simp
    cbv
    (first|refine ad hg cT ?_|refine aa hg cT ?_)
    cases TK
    case false=>
     cbv
     exact aP hF (hj (by rw [ha,hd];rfl)).symm
    cbv
    cases ht:g .q .gtr (g .ln he) 0
    case true=>
     rw [dp hg,bG hg,zqp]at ht
     cbv
     exact aP hF (hj (by rw [ha,hd];simpa using ht)).symm
    rw [dp hg,bG hg,zqo]at ht
    have hh:OK=true:=by rw [ha,hd];simpa using ht
    cbv
    rw [e1,hn]
    exact gK hB (z+1) [some 0] (wkS [0] (by decide) ⟨⟨_,rfl,rfl,rfl⟩,trivial⟩ zr2) ⟨by omega,by omega,fun i y hi hy=>hW i y hi hy hh⟩ (by omega)
  rw [bA hg,bG hg,zqp]at hk
  cbv
  obtain⟨y,hy⟩:=tN (xs:=a1) k0 (fI hU hk)
  have hT:he[j.toNat]? =some (lc (aj y)):=by rw [hz];exact bk hy
  have ci:=bW V y
  rw [<-hP y]at ci
  refine goX hg _ k0 hT rfl ?_
  cbv
  cases hik:isN ns y
  ·rw [hik]at ci
   have hI:D=false:=by rw [hD];exact ka hy (by rw [dB,hik];rfl)
   (first|refine ad hg ci ?_|refine aa hg ci ?_)
   cbv
   exact aP hF (hj (by rw [ha,hI];simp)).symm
  rw [hik]at ci
  (first|refine ad hg ci ?_|refine aa hg ci ?_)
  obtain⟨i1,i2,x,hQ⟩:=aR hik
  have hr:y<=1048576:=Int.le_trans (ms hG i2) yY
  have hw:V[(y-1).toNat]? =some x.ac:=by rw [hV];exact e9 hQ
  have hm:=lI hQ
  obtain⟨c0,c1,⟨c2,c3,c4,c5,c6,c7,c8,c9,xX,xY,xZ,⟨x0,x1⟩,⟨x2,x3⟩,⟨x4,x5⟩,⟨x6,x7⟩,⟨x8,x9⟩,⟨ya,yb⟩,⟨yc,yd⟩,ye,⟨⟨yf,yg⟩,⟨yi,yj⟩,⟨yk,yl⟩,⟨ym,yn⟩,⟨yo,yp⟩,⟨yq,yr⟩⟩,⟨⟨ys,yt⟩,⟨yu,yv⟩,⟨yw,yx⟩,⟨yy,yz⟩,⟨yA,yB⟩,⟨yC,yD⟩⟩,⟨yE,yF,yG,yH⟩,⟨yI,yJ,yK,yM⟩,yN,yO⟩,yP,⟨hM⟩⟩:=x
  simp only at hm
  replace hw:V[(y-1).toNat]? =some [.J c0,.view (vw aj c1),.J c2,.J c3,.J c4,.J c5,.J c6,.J c7,.B c8,.B c9,.J xX,.J xY,.J xZ,.J x0,.J x1,.J x2,.J x3,.J x4,.J x5,.J x6,.J x7,.J x8,.J x9,.J ya,.J yb,.J yc,.J yd,.J ye,.J yf,.J yg,.J yi,.J yj,.J yk,.J yl,.J ym,.J yn,.J yo,.J yp,.J yq,.J yr,.J ys,.J yt,.J yu,.J yv,.J yw,.J yx,.J yy,.J yz,.J yA,.J yB,.J yC,.J yD,.J yE,.J yF,.J yG,.J yH,.J yI,.J yJ,.J yK,.J yM,.J yN,.J yO,.B yP,.view (vw aJ.c hM)]:=hw
  obtain⟨zb,hJ⟩:=nmE (vw aj c1)
  obtain⟨hZ,hp⟩:=nmE (vw aJ.c hM)
  rw [<-hJ,<-hp]at hw
  cbv
  refine goX hg _ k0 hT rfl ?_
  cbv
  (first|refine ad hg (bj V y i1 hr hw) ?_|refine aa hg (bj V y i1 hr hw) ?_)
  cbv
  rw [e1]
  cases hq:g .q .neq c0 n
  case true=>
   rw [dg hg,bne_iff_ne]at hq
   have hI:D=false:=by rw [hD];exact ka hy (by rw [dB,hik,hm];simpa using hq)
   cbv
   exact aP hF (hj (by rw [ha,hI];simp)).symm
  rw [dg hg,zqq]at hq
  have hK:dB ns n y=true:=by rw [dB,hik,hm];simpa using hq
  cbv
  have e3:g .w .add .i64 j 1=j+1:=by rw [aI hg,aq _ (by omega)]
  rw [e3]
  exact gK yR (j+1) [some 0,some 1] (wkS [0,1] (by decide) ⟨⟨_,rfl,rfl,rfl⟩,⟨_,rfl,rfl,rfl⟩,trivial⟩ zr4) ⟨by omega,by omega,fun i v hi hv=>by
   by_cases hr:i<j.toNat
   ·exact k2 i v hr hv
   ·obtain rfl:i=j.toNat:=by omega
    rw [hy]at hv
    cases hv
    exact hK⟩ (by omega)
 ·have eu:g .q .neq a0 0=true:=by rw [dg hg];simpa using hu
  have z5:=hX hu
  obtain⟨u1,u2,xb,yZ⟩:=aR z5
  have y8:a0<=1048576:=Int.le_trans (ms hG u2) yY
  have hS:V[(a0-1).toNat]? =some xb.ac:=by rw [hV];exact e9 yZ
  have y7:iC ns a0=xb.kids:=by unfold iC;rw [yZ]
  have z6:=(hs xb (zqd yZ))
  obtain⟨b0,b1,⟨b2,b3,b4,b5,b6,b7,b8,b9,zc,zd,ze,⟨zf,zg⟩,⟨zh,zi⟩,⟨zj,zk⟩,⟨zl,zm⟩,⟨zn,zo⟩,⟨zp,zq⟩,⟨zr,zs⟩,zt,⟨⟨zu,zv⟩,⟨zw,zx⟩,⟨zy,zz⟩,⟨zA,zB⟩,⟨zC,zD⟩,⟨zE,zF⟩⟩,⟨⟨zG,zH⟩,⟨zI,zJ⟩,⟨zK,zL⟩,⟨zM,zN⟩,⟨zO,zP⟩,⟨zQ,zR⟩⟩,⟨zS,zT,zU,zV⟩,⟨zW,zX,zY,zZ⟩,z0,z1⟩,z2,⟨y2⟩⟩:=xb
  obtain⟨z9,ab,-⟩:=z6
  simp only at y7
  replace hS:V[(a0-1).toNat]? =some [.J b0,.view (vw aj b1),.J b2,.J b3,.J b4,.J b5,.J b6,.J b7,.B b8,.B b9,.J zc,.J zd,.J ze,.J zf,.J zg,.J zh,.J zi,.J zj,.J zk,.J zl,.J zm,.J zn,.J zo,.J zp,.J zq,.J zr,.J zs,.J zt,.J zu,.J zv,.J zw,.J zx,.J zy,.J zz,.J zA,.J zB,.J zC,.J zD,.J zE,.J zF,.J zG,.J zH,.J zI,.J zJ,.J zK,.J zL,.J zM,.J zN,.J zO,.J zP,.J zQ,.J zR,.J zS,.J zT,.J zU,.J zV,.J zW,.J zX,.J zY,.J zZ,.J z0,.J z1,.B z2,.view (vw aJ.c y2)]:=hS
  have cH:=oq b1 n z9
  obtain⟨Cn,y4⟩:=nmE (cnt b1 n)
  have y3:C=decide (Cn=1):=by rw [hC,sX,y7,y4];simp [hu]
  rw [<-y4]at cH
  obtain⟨ag,hN⟩:=nmE (vw aj b1)
  obtain⟨za,hO⟩:=nmE (vw aJ.c y2)
  rw [<-hN,<-hO]at hS
  rw [<-hN]at cH
  cbv
  rw [eu]
  cbv
  (first|refine ad hg (bj V a0 u1 y8 hS) ?_|refine aa hg (bj V a0 u1 y8 hS) ?_)
  cbv
  rw [e1]
  (first|refine ad hg cH ?_|refine aa hg cH ?_)
  cbv
  cases hcn:g .q .neq Cn 1
  case true=>
   rw [dg hg,bne_iff_ne]at hcn
   have z3:C=false:=by rw [y3];simpa using hcn
   cbv
   exact aP hF (hj (by rw [ha,z3];simp)).symm
  rw [dg hg,zqq]at hcn
  have yT:C=true:=by rw [y3,hcn];rfl
  cbv
  refine cj hg aB (by kernel_rfl) (fun j:Int=>[(1,.p 0),(3,.i z),(4,.p 1),(5,.i j)]) (fun _=>[.bx 38 1 [.view V],.bx 55 64 [.J a0,.view he,.J a2,.J a3,.J a4,.J a5,.J a6,.J a7,.B a8,.B a9,.J h3,.J h4,.J h5,.J h6,.J h7,.J h8,.J h9,.J xa,.J xc,.J xd,.J xe,.J xf,.J xg,.J xh,.J xi,.J xj,.J xk,.J xl,.J xm,.J xn,.J xo,.J xp,.J xq,.J xr,.J xt,.J xu,.J xv,.J xw,.J xx,.J xy,.J xz,.J xA,.J xB,.J xC,.J xD,.J xE,.J xF,.J xG,.J xH,.J xI,.J xJ,.J xK,.J xL,.J xM,.J xN,.J xO,.J xP,.J xQ,.J xR,.J xS,.J xT,.J xV,.B hH,.view hf]]) (fun j:Int=>0<=j/\j<=az he/\∀(i:Nat)(v:Int),i<j.toNat->a1[i]? =some v->dB ns n v=true) (fun j=>(az he).toNat-j.toNat)
   0 [some 0,some 1] ⟨Int.le_refl 0,y9,fun i v hi=>by simp at hi⟩ (wkS [0,1] (by decide) ⟨⟨_,rfl,rfl,rfl⟩,⟨_,rfl,rfl,rfl⟩,trivial⟩ zr4) (fun j B2 hL yR=> ?_)
  obtain⟨k0,k1,k2⟩:=hL
  cbv
  cases hk:g .q .lss j (g .ln he)
  ·rw [bA hg,bG hg,zqo]at hk
   have yV:D=true:=by rw [hD];exact rh hU (by omega) k2
   replace ha:OK=E:=by rw [ha,yT,yV];simp
   cases hH
   ·replace hd:E= !(decide (0<az hf)):=by rw [hd];simp
    cbv
    cases ht:g .q .gtr (g .ln hf) 0
    case true=>
     rw [dp hg,bG hg,zqp]at ht
     cbv
     exact aP hF (hj (by rw [ha,hd];simpa using ht)).symm
    rw [dp hg,bG hg,zqo]at ht
    have hh:OK=true:=by rw [ha,hd];simpa using ht
    cbv
    rw [e1,hn]
    exact gK hB (z+1) [some 0] (wkS [0] (by decide) ⟨⟨_,rfl,rfl,rfl⟩,trivial⟩ zr2) ⟨by omega,by omega,fun i y hi hy=>hW i y hi hy hh⟩ (by omega)
   ·replace hd:E= !(!TK||decide (0<az he)):=by rw [hd];simp
    cbv
    (first|refine ad hg cT ?_|refine aa hg cT ?_)
    cases TK
    case false=>
     cbv
     exact aP hF (hj (by rw [ha,hd];rfl)).symm
    cbv
    cases ht:g .q .gtr (g .ln he) 0
    case true=>
     rw [dp hg,bG hg,zqp]at ht
     cbv
     exact aP hF (hj (by rw [ha,hd];simpa using ht)).symm
    rw [dp hg,bG hg,zqo]at ht
    have hh:OK=true:=by rw [ha,hd];simpa using ht
    cbv
    rw [e1,hn]
    exact gK hB (z+1) [some 0] (wkS [0] (by decide) ⟨⟨_,rfl,rfl,rfl⟩,trivial⟩ zr2) ⟨by omega,by omega,fun i y hi hy=>hW i y hi hy hh⟩ (by omega)
  rw [bA hg,bG hg,zqp]at hk
  cbv
  obtain⟨y,hy⟩:=tN (xs:=a1) k0 (fI hU hk)
  have hT:he[j.toNat]? =some (lc (aj y)):=by rw [hz];exact bk hy
  have ci:=bW V y
  rw [<-hP y]at ci
  refine goX hg _ k0 hT rfl ?_
  cbv
  cases hik:isN ns y
  ·rw [hik]at ci
   have hI:D=false:=by rw [hD];exact ka hy (by rw [dB,hik];rfl)
   (first|refine ad hg ci ?_|refine aa hg ci ?_)
   cbv
   exact aP hF (hj (by rw [ha,hI];simp)).symm
  rw [hik]at ci
  (first|refine ad hg ci ?_|refine aa hg ci ?_)
  obtain⟨i1,i2,x,hQ⟩:=aR hik
  have hr:y<=1048576:=Int.le_trans (ms hG i2) yY
  have hw:V[(y-1).toNat]? =some x.ac:=by rw [hV];exact e9 hQ
  have hm:=lI hQ
  obtain⟨c0,c1,⟨c2,c3,c4,c5,c6,c7,c8,c9,xX,xY,xZ,⟨x0,x1⟩,⟨x2,x3⟩,⟨x4,x5⟩,⟨x6,x7⟩,⟨x8,x9⟩,⟨ya,yb⟩,⟨yc,yd⟩,ye,⟨⟨yf,yg⟩,⟨yi,yj⟩,⟨yk,yl⟩,⟨ym,yn⟩,⟨yo,yp⟩,⟨yq,yr⟩⟩,⟨⟨ys,yt⟩,⟨yu,yv⟩,⟨yw,yx⟩,⟨yy,yz⟩,⟨yA,yB⟩,⟨yC,yD⟩⟩,⟨yE,yF,yG,yH⟩,⟨yI,yJ,yK,yM⟩,yN,yO⟩,yP,⟨hM⟩⟩:=x
  simp only at hm
  replace hw:V[(y-1).toNat]? =some [.J c0,.view (vw aj c1),.J c2,.J c3,.J c4,.J c5,.J c6,.J c7,.B c8,.B c9,.J xX,.J xY,.J xZ,.J x0,.J x1,.J x2,.J x3,.J x4,.J x5,.J x6,.J x7,.J x8,.J x9,.J ya,.J yb,.J yc,.J yd,.J ye,.J yf,.J yg,.J yi,.J yj,.J yk,.J yl,.J ym,.J yn,.J yo,.J yp,.J yq,.J yr,.J ys,.J yt,.J yu,.J yv,.J yw,.J yx,.J yy,.J yz,.J yA,.J yB,.J yC,.J yD,.J yE,.J yF,.J yG,.J yH,.J yI,.J yJ,.J yK,.J yM,.J yN,.J yO,.B yP,.view (vw aJ.c hM)]:=hw
  obtain⟨zb,hJ⟩:=nmE (vw aj c1)
  obtain⟨hZ,hp⟩:=nmE (vw aJ.c hM)
  rw [<-hJ,<-hp]at hw
  cbv
  refine goX hg _ k0 hT rfl ?_
  cbv
  (first|refine ad hg (bj V y i1 hr hw) ?_|refine aa hg (bj V y i1 hr hw) ?_)
  cbv
  rw [e1]
  cases hq:g .q .neq c0 n
  case true=>
   rw [dg hg,bne_iff_ne]at hq
   have hI:D=false:=by rw [hD];exact ka hy (by rw [dB,hik,hm];simpa using hq)
   cbv
   exact aP hF (hj (by rw [ha,hI];simp)).symm
  rw [dg hg,zqq]at hq
  have hK:dB ns n y=true:=by rw [dB,hik,hm];simpa using hq
  cbv
  have e3:g .w .add .i64 j 1=j+1:=by rw [aI hg,aq _ (by omega)]
  rw [e3]
  exact gK yR (j+1) [some 0,some 1] (wkS [0,1] (by decide) ⟨⟨_,rfl,rfl,rfl⟩,⟨_,rfl,rfl,rfl⟩,trivial⟩ zr4) ⟨by omega,by omega,fun i v hi hv=>by
   by_cases hr:i<j.toNat
   ·exact k2 i v hr hv
   ·obtain rfl:i=j.toNat:=by omega
    rw [hy]at hv
    cases hv
    exact hK⟩ (by omega)
def upD(ns:List af):Nat->Int->Prop
 |0,n=>isN ns n=false
 |k+1,n=>isN ns n=false\/upD ns k (upN ns n)
variable {ns:List af}
theorem yH{n:Int}(h:isN ns n=false):∀k,upD ns k n
 |0=>h
 |_+1=> .inl h
theorem sj(ns:List af):isN ns 0=false:=by simp [isN,rng]
theorem ur{ns:List af}:∀(f:Nat)(k n:Int),lC ns f k n≠0->upD ns f n
 |0,k,n,h=>by
  by_cases h0:n=0
  ·subst h0;exact sj ns
  ·exact absurd (pf ns h0) h
 |f+1,k,n,h=>by
  by_cases h0:n=0
  ·subst h0;exact .inl (sj ns)
  ·cases hi:isN ns n
   ·exact .inl hi
   ·rw [eJ ns h0 hi]at h
    exact .inr (ur f _ _ h)
theorem yI(h:bi ns=true)(n:Int):upD ns ns.length n:=by
 cases hi:isN ns n
 ·exact yH hi _
 ·obtain⟨i1,i2,x,hx⟩:=aR hi
  simp only [bi,zqs]at h
  have h3:=(ee ns ns 0).1 h.2 (n-1).toNat x hx
  rw [show(0:Int)+(((n-1).toNat:Nat):Int)+1=n by omega]at h3
  simp only [bE,zqs,rng,zqp]at h3
  exact ur _ 0 n (by show kl ns n≠0;omega)
def gL(ns:List af)(a:Int):Nat->Int->Bool
 |0,_=>false
 |k+1,n=>isN ns n&&(if upN ns n=a then isN ns a else gL ns a k (upN ns n))
theorem li{a n:Int}(h:isN ns n=false)(k:Nat):gL ns a k n=false:=by cases k<;>simp [gL,h]
variable {a n u:Int}
theorem rH(h:isN ns n=true)(hu:upN ns n=u)(hs:u=a)(k:Nat):gL ns a (k+1) n=isN ns a:=by rw [gL,h,hu,if_pos hs];rfl
theorem ut(h:isN ns n=true)(hu:upN ns n=u)(hs:u≠a)(k:Nat):gL ns a (k+1) n=gL ns a k u:=by rw [gL,h,hu,if_neg hs];rfl
theorem lJ{ns:List af}{a:Int}:∀(k:Nat)(n:Int),upD ns k n->gL ns a (k+1) n=gL ns a k n
 |0,n,h=>li h 1
 |k+1,n,h=>by
  rcases h with h|h
  ·rw [li h,li h]
  ·have:=lJ (a:=a) k _ h
   show(isN ns n&&(if upN ns n=a then isN ns a else gL ns a (k+1) (upN ns n)))=(isN ns n&&(if upN ns n=a then isN ns a else gL ns a k (upN ns n)))
   rw [this]
theorem mZ(ns:List af)(hl:ns.length<=1048576)(n0 a:Int)(hud:upD ns ns.length n0):PC0 22 [.agg [.view (vwA af.ac ns)],ai n0,ai a] (.t (abl (gL ns a ns.length n0))):=by
 rw [<-lJ ns.length n0 hud]
 clear hud
 obtain⟨T,hT⟩:=nmE (vwA af.ac ns)
 have hk:az T=(ns.length:Int):=by rw [aw,hT,aQ]
 have hb:∀n,isN ns n=rng n 1 (az T):=fun n=>by rw [hk];rfl
 have xo:az T<=1048576:=by omega
 have xu:0<=az T:=by omega
 have xq:∀z:Int,0<=z->z<=az T->ns.length+1-z.toNat=(ns.length+1-(z+1).toNat)+1:=fun d h0 h1=>by omega
 have xp:∀z:Int,¬z<=az T->ns.length+1-z.toNat=0:=fun z h=>by omega
 obtain⟨R,hR⟩:=nmE (gL ns a (ns.length+1) n0)
 have xs:gL ns a (ns.length+1-(0:Int).toNat) n0=R:=by rw [hR];rfl
 rw [<-hR,<-hT]
 have ca:=bW T a
 rw [<-hb a]at ca
 refine ae (aM f22) aB func22 fun g F hg hF=> ?_
 cbv
 refine cj hg aB (by kernel_rfl) (fun s:Int×Int=>[(1,.i s.2),(2,.i a),(3,.p 0),(7,.i s.1)]) (fun _=>[.bx 38 1 [.view T]]) (fun s=>0<=s.1/\gL ns a (ns.length+1-s.1.toNat) s.2=R) (fun s=>(az T+1).toNat-s.1.toNat)
  (0,n0) [some 0] ⟨Int.le_refl 0,xs⟩ (wkS [0] (by decide) ⟨⟨_,rfl,rfl,rfl⟩,trivial⟩ zr4) (fun s B hs hB=> ?_)
 obtain⟨z,n⟩:=s
 obtain⟨h0,hU⟩:=hs
 simp only at h0 hU
 cbv
 cases hc:g .q .leq z (g .ln T)
 ·rw [ig hg,bG hg,zqo]at hc
  cbv
  exact aP hF (by rw [<-hU,xp z hc];rfl)
 rw [ig hg,bG hg,zqp]at hc
 cbv
 have cn:=bW T n
 rw [<-hb n]at cn
 cases hi:isN ns n
 case false=>
  rw [hi]at cn
  refine ad hg cn ?_
  cbv
  exact aP hF (by rw [<-hU,li hi])
 rw [hi]at cn
 refine ad hg cn ?_
 cbv
 obtain⟨i1,i2,x,hx⟩:=aR hi
 have xr:n<=1048576:=Int.le_trans (hk▸i2) xo
 have hd:T[(n-1).toNat]? =some x.ac:=by rw [hT];exact e9 hx
 have hh:=lI hx
 rw [xq z h0 hc]at hU
 obtain⟨b0,b1,⟨b2,b3,b4,b5,b6,b7,b8,b9,hn,ho,hp,⟨hq,hr⟩,⟨ht,hu⟩,⟨hv,hw⟩,⟨hy,hz⟩,⟨hA,hC⟩,⟨hD,hE⟩,⟨hG,hH⟩,hI,⟨⟨hJ,hK⟩,⟨hL,hM⟩,⟨hN,hO⟩,⟨hP,hQ⟩,⟨hS,hV⟩,⟨hW,hX⟩⟩,⟨⟨hY,hZ⟩,⟨h2,h3⟩,⟨h4,h5⟩,⟨h6,h7⟩,⟨h8,h9⟩,⟨xa,xb⟩⟩,⟨xc,xd,xe,xf⟩,⟨xg,xh,xi,xj⟩,xk,xl⟩,xm,⟨hj⟩⟩:=x
 replace hd:T[(n-1).toNat]? =some [.J b0,.view (vw aj b1),.J b2,.J b3,.J b4,.J b5,.J b6,.J b7,.B b8,.B b9,.J hn,.J ho,.J hp,.J hq,.J hr,.J ht,.J hu,.J hv,.J hw,.J hy,.J hz,.J hA,.J hC,.J hD,.J hE,.J hG,.J hH,.J hI,.J hJ,.J hK,.J hL,.J hM,.J hN,.J hO,.J hP,.J hQ,.J hS,.J hV,.J hW,.J hX,.J hY,.J hZ,.J h2,.J h3,.J h4,.J h5,.J h6,.J h7,.J h8,.J h9,.J xa,.J xb,.J xc,.J xd,.J xe,.J xf,.J xg,.J xh,.J xi,.J xj,.J xk,.J xl,.B xm,.view (vw aJ.c hj)]:=hd
 obtain⟨xt,hf⟩:=nmE (vw aj b1)
 obtain⟨hm,ha⟩:=nmE (vw aJ.c hj)
 rw [<-hf,<-ha]at hd
 simp only at hh
 refine ad hg (bj T n i1 xr hd) ?_
 cbv
 cases he:g .q .eql b0 a
 case true=>
  rw [bC hg,beq_iff_eq]at he
  cbv
  refine bD hg ca rfl (fun R1 xn=> ?_)
  cbv
  exact aP hF (by rw [<-hU,rH hi hh he,xn])
 rw [bC hg,zqr]at he
 rw [ut hi hh he]at hU
 cbv
 have e1:g .w .add .i64 z 1=z+1:=by rw [aI hg,aq _ (by omega)]
 rw [e1]
 exact gK hB (z+1,b0) [some 0] (wkS [0] (by decide) ⟨⟨_,rfl,rfl,rfl⟩,trivial⟩ zr4) ⟨by simp only;omega,hU⟩ (by show(az T+1).toNat-(z+1).toNat<(az T+1).toNat-z.toNat;omega)
end Go.Proofs.YtbnplcingdgaaaaGreat
