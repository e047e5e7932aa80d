/- Whether a node lies under another. -/
import Derived.Test.YtbnplcingdgaaaaGreatC9at
set_option linter.unusedVariables false
set_option linter.unusedSimpArgs false
set_option maxHeartbeats 16000000
namespace Go.Proofs.YtbnplcingdgaaaaGreat
open Go.ChangeShapes Go.WideShapes Go.ChangeAt Go.RowKit Am Go.Proofs.Tryz
set_option maxRecDepth 100000
theorem pK(ns:List af)(hl:ns.length<=1048576)(hs:∀y∈ns,y.small):PC0 34 [.agg [.view (vwA af.ac ns)]] (.t (abl (aM ns))):=by
 obtain⟨V,hV⟩:=nmE (vwA af.ac ns)
 have hH:aD V=(ns.length:Int):=by rw [az,hV,bm]
 have ab:0<=aD V:=by omega
 have yf:aD V<=1048576:=by omega
 have x0:∀n,isN ns n=rng n 1 (aD V):=fun n=>by rw [hH];rfl
 have cD:=fun n=>nX ns n hl
 obtain⟨R,hR⟩:=nmE (aM ns)
 rw [<-hR]
 rw [<-hV]at cD⊢
 refine ae (aP f34) aC func34 fun g F hg hF=> ?_
 cbv
 cases h12:g .q .gtr (g .ln V) 12
 case true=>
  rw [dr hg,bH hg,zqp]at h12
  cbv
  exact aY hF (by rw [hR,sF hH (by omega)])
 rw [dr hg,bH hg,zqo]at h12
 cbv
 refine cV hg aC (by kernel_rfl) (fun z:Int=>[(1,.p 0),(16,.v V),(17,.i (g .ln V)),(18,.i z)]) (fun _=>[.bx 38 1 [.view V]]) (fun z=>0<=z/\z<=aD V/\∀(i:Nat)(x:af),i<z.toNat->ns[i]? =some x->aR ns ((i:Int)+1) x=true) (fun z=>(aD V).toNat-z.toNat)
  0 [some 0] ⟨Int.le_refl 0,ab,fun i x hi=>by simp at hi⟩ (wkS [0] (by decide) ⟨⟨_,rfl,rfl,rfl⟩,trivial⟩ zr4) (fun z B ak hB=> ?_)
 obtain⟨h0,h1,h2⟩:=ak
 cbv
 cases hc:g .q .lss z (g .ln V)
 ·rw [bD hg,bH hg,zqo]at hc
  cbv
  exact aY hF (by rw [hR,sE hH (by omega) (by omega) h2])
 rw [bD hg,bH hg,zqp]at hc
 cbv
 obtain⟨x,hx⟩:=uI (xs:=ns) h0 (fT hH hc)
 have hS:V[z.toNat]? =some x.ac:=by rw [hV];exact fE hx
 have al:=hs x (zqd hx)
 have ho:aR ns (z+1) x=false->R=false:=fun h=>by rw [hR];exact vm h0 hx h
 have yh:=ze hH h0 hc
 have yg:=C2 hx
 obtain⟨n,hn⟩:=nmE (z+1)
 rw [<-hn]at ho yh yg
 obtain⟨OK,xV⟩:=nmE (aR ns n x)
 have ha:=xV
 rw [aR]at ha
 rw [<-xV]at ho
 obtain⟨A,hA⟩:=nmE (gP x.style)
 obtain⟨Dp,xU⟩:=nmE (kC ns n)
 obtain⟨Bd,xR⟩:=nmE (rng Dp 1 4)
 obtain⟨C,hC⟩:=nmE (sB ns n x.up)
 obtain⟨D,hD⟩:=nmE (x.kids.all (dz ns n))
 obtain⟨E,hE⟩:=nmE (BS x)
 have hQ:Bd=true->x.up≠0->isN ns x.up=true:=fun hb hu=>zt (by omega) yh yg (by rw [<-xU,<-xR];exact hb) hu
 rw [<-hA,<-xU,<-xR,<-hC,<-hD,<-hE]at ha
 have cA:=nT x.style
 have xQ:=cD n
 have cB:=bq Dp 1 4
 have cT:=nS x.table.rules
 rw [<-hA]at cA
 rw [<-xU]at xQ
 rw [<-xR]at cB
 have hO:∀(i:Nat)(y:af),i<(z+1).toNat->ns[i]? =some y->OK=true->aR ns ((i:Int)+1) y=true:=fun i y hi hy hk=>by
  by_cases hJ:i<z.toNat
  ·exact h2 i y hJ hy
  ·obtain rfl:i=z.toNat:=by omega
   rw [hx]at hy
   cases hy
   rw [show((z.toNat:Nat):Int)+1=n by omega,<-xV];exact hk
 obtain⟨a0,a1,⟨a2,a3,a4,a5,a6,a7,a8,a9,hT,hU,hW,⟨hX,hY⟩,⟨hZ,h3⟩,⟨h4,h5⟩,⟨h6,h7⟩,⟨h8,h9⟩,⟨xa,xc⟩,⟨xd,xe⟩,xf,⟨⟨xg,xh⟩,⟨xi,xj⟩,⟨xk,xl⟩,⟨xm,xn⟩,⟨xo,xp⟩,⟨xq,xr⟩⟩,⟨⟨xt,xu⟩,⟨xv,xw⟩,⟨xx,xy⟩,⟨xz,xA⟩,⟨xB,xC⟩,⟨xD,xE⟩⟩,⟨xF,xG,xH,xI⟩,⟨xJ,xK,xL,xM⟩,xN,xO⟩,hr,⟨xP⟩⟩:=x
 obtain⟨av,x8,-⟩:=al
 replace cT:=cT x8
 simp only at hQ hC hD hE cA cT
 replace hS:V[z.toNat]? =some [.J a0,.view (vw aj a1),.J a2,.J a3,.J a4,.J a5,.J a6,.J a7,.B a8,.B a9,.J hT,.J hU,.J hW,.J hX,.J hY,.J hZ,.J h3,.J h4,.J h5,.J h6,.J h7,.J h8,.J h9,.J xa,.J xc,.J xd,.J xe,.J xf,.J xg,.J xh,.J xi,.J xj,.J xk,.J xl,.J xm,.J xn,.J xo,.J xp,.J xq,.J xr,.J xt,.J xu,.J xv,.J xw,.J xx,.J xy,.J xz,.J xA,.J xB,.J xC,.J xD,.J xE,.J xF,.J xG,.J xH,.J xI,.J xJ,.J xK,.J xL,.J xM,.J xN,.J xO,.B hr,.view (vw aQ.c xP)]:=hS
 obtain⟨TK,xW⟩:=nmE (zW xP)
 rw [<-xW]at cT
 obtain⟨hf,hw⟩:=nmE (vw aj a1)
 obtain⟨hh,hp⟩:=nmE (vw aQ.c xP)
 have x6:=mQ hw
 have x7:=mQ hp
 have an:0<=aD hf:=by omega
 have ar:aD hf<=1048576:=by omega
 rw [<-hw,<-hp]at hS
 rw [<-hp]at cT
 have e1:g .w .add .i64 z 1=n:=by rw [aJ hg,aw _ (by omega),hn]
 refine goX hg _ h0 hS rfl ?_
 cbv
 rw [e1]
 (first|refine ad hg cA ?_|refine aa hg cA ?_)
 cases A
 case false=>
  cbv
  exact aY hF (ho ha).symm
 cbv
 (first|refine ad hg xQ ?_|refine aa hg xQ ?_)
 cbv
 (first|refine ad hg cB ?_|refine aa hg cB ?_)
 cases Bd
 case false=>
  cbv
  exact aY hF (ho (by rw [ha];rfl)).symm
 replace hQ:=hQ rfl
 have hd:E= !((hr&&(!TK||decide (0<aD hf)))||(!hr&&decide (0<aD hh))):=by rw [hE,xW,x6,x7];rfl
 clear hE xW
 cbv
 refine cV hg aC (by kernel_rfl) (fun j:Int=>[(1,.p 0),(4,.p 1),(5,.i n),(16,.v V),(17,.i (g .ln V)),(18,.i z),(37,.v hf),(38,.i (g .ln hf)),(39,.i j)]) (fun _=>[.bx 38 1 [.view V],.bx 55 64 [.J a0,.view hf,.J a2,.J a3,.J a4,.J a5,.J a6,.J a7,.B a8,.B a9,.J hT,.J hU,.J hW,.J hX,.J hY,.J hZ,.J h3,.J h4,.J h5,.J h6,.J h7,.J h8,.J h9,.J xa,.J xc,.J xd,.J xe,.J xf,.J xg,.J xh,.J xi,.J xj,.J xk,.J xl,.J xm,.J xn,.J xo,.J xp,.J xq,.J xr,.J xt,.J xu,.J xv,.J xw,.J xx,.J xy,.J xz,.J xA,.J xB,.J xC,.J xD,.J xE,.J xF,.J xG,.J xH,.J xI,.J xJ,.J xK,.J xL,.J xM,.J xN,.J xO,.B hr,.view hh]]) (fun j:Int=>0<=j/\j<=aD hf/\∀(i:Nat)(v:Int),i<j.toNat->a1[i]? =some v->dz ns n v=true) (fun j=>(aD hf).toNat-j.toNat)
  0 [some 0,some 1] ⟨Int.le_refl 0,an,fun i v hi=>by simp at hi⟩ (wkS [0,1] (by decide) ⟨⟨_,rfl,rfl,rfl⟩,⟨_,rfl,rfl,rfl⟩,trivial⟩ ⟨rfl,rfl,rfl,rfl,rfl,rfl,rfl,rfl,rfl,trivial⟩) (fun j B2 x2 z8=> ?_)
 obtain⟨k0,k1,k2⟩:=x2
 cbv
 cases hk:g .q .lss j (g .ln hf)
 case true=>
  rw [bD hg,bH hg,zqp]at hk
  cbv
  obtain⟨y,hy⟩:=uI (xs:=a1) k0 (fT x6 hk)
  have x5:hf[j.toNat]? =some (lc (aj y)):=by rw [hw];exact bu hy
  have ci:=gF V y
  rw [<-x0 y]at ci
  refine goX hg _ k0 x5 rfl ?_
  cbv
  cases hik:isN ns y
  ·rw [hik]at ci
   have xT:D=false:=by rw [hD];exact kY hy (by rw [dz,hik];rfl)
   (first|refine ad hg ci ?_|refine aa hg ci ?_)
   cbv
   exact aY hF (ho (by rw [ha,xT];simp)).symm
  rw [hik]at ci
  (first|refine ad hg ci ?_|refine aa hg ci ?_)
  obtain⟨i1,i2,x,yk⟩:=aZ hik
  have hJ:y<=1048576:=Int.le_trans (mU hH i2) yf
  have hN:V[(y-1).toNat]? =some x.ac:=by rw [hV];exact fE yk
  have hI:=mg yk
  obtain⟨c0,c1,⟨c2,c3,c4,c5,c6,c7,c8,c9,zf,zg,zh,⟨zi,zj⟩,⟨zk,zl⟩,⟨zm,zn⟩,⟨zo,zp⟩,⟨zq,zr⟩,⟨zs,zu⟩,⟨zv,zw⟩,zx,⟨⟨zy,zz⟩,⟨zA,zB⟩,⟨zC,zD⟩,⟨zE,zF⟩,⟨zG,zH⟩,⟨zI,zJ⟩⟩,⟨⟨zK,zL⟩,⟨zM,zN⟩,⟨zO,zP⟩,⟨zQ,zR⟩,⟨zS,zT⟩,⟨zU,zV⟩⟩,⟨zX,zY,zZ,z0⟩,⟨z1,z2,z3,z4⟩,z5,z6⟩,z7,⟨ya⟩⟩:=x
  simp only at hI
  replace hN:V[(y-1).toNat]? =some [.J c0,.view (vw aj c1),.J c2,.J c3,.J c4,.J c5,.J c6,.J c7,.B c8,.B c9,.J zf,.J zg,.J zh,.J zi,.J zj,.J zk,.J zl,.J zm,.J zn,.J zo,.J zp,.J zq,.J zr,.J zs,.J zu,.J zv,.J zw,.J zx,.J zy,.J zz,.J zA,.J zB,.J zC,.J zD,.J zE,.J zF,.J zG,.J zH,.J zI,.J zJ,.J zK,.J zL,.J zM,.J zN,.J zO,.J zP,.J zQ,.J zR,.J zS,.J zT,.J zU,.J zV,.J zX,.J zY,.J zZ,.J z0,.J z1,.J z2,.J z3,.J z4,.J z5,.J z6,.B z7,.view (vw aQ.c ya)]:=hN
  obtain⟨aq,xX⟩:=nmE (vw aj c1)
  obtain⟨ym,hL⟩:=nmE (vw aQ.c ya)
  rw [<-xX,<-hL]at hN
  cbv
  (first|refine ad hg (ei V y i1 hJ hN) ?_|refine aa hg (ei V y i1 hJ hN) ?_)
  cbv
  cases hq:g .q .neq c0 n
  case true=>
   rw [dF hg,bne_iff_ne]at hq
   have xT:D=false:=by rw [hD];exact kY hy (by rw [dz,hik,hI];simpa using hq)
   cbv
   exact aY hF (ho (by rw [ha,xT];simp)).symm
  rw [dF hg,zqq]at hq
  have x1:dz ns n y=true:=by rw [dz,hik,hI];simpa using hq
  cbv
  have e3:g .w .add .i64 j 1=j+1:=by rw [aJ hg,aw _ (by omega)]
  rw [e3]
  exact ig z8 (j+1) [some 0,some 1] (wkS [0,1] (by decide) ⟨⟨_,rfl,rfl,rfl⟩,⟨_,rfl,rfl,rfl⟩,trivial⟩ ⟨rfl,rfl,rfl,rfl,rfl,rfl,rfl,rfl,rfl,trivial⟩) ⟨by omega,by omega,fun i v hi hv=>by
   by_cases hJ:i<j.toNat
   ·exact k2 i v hJ hv
   ·obtain rfl:i=j.toNat:=by omega
    rw [hy]at hv
    cases hv
    exact x1⟩ (by omega)
 rw [bD hg,bH hg,zqo]at hk
 have ye:D=true:=by rw [hD];exact rT x6 (by omega) k2
 by_cases hu:a0=0
 ·have xS:C=true:=by rw [hC,sB,hu];rfl
  have eu:g .q .neq a0 0=false:=by rw [dF hg];simpa using hu
  cbv
  rw [eu]
  cbv
  replace ha:OK=E:=by rw [ha,xS,ye];simp
  cases hr
  ·replace hd:E= !(decide (0<aD hh)):=by rw [hd];simp
   cbv
   cases ht:g .q .gtr (g .ln hh) 0
   case true=>
    rw [dr hg,bH hg,zqp]at ht
    cbv
    exact aY hF (ho (by rw [ha,hd];simpa using ht)).symm
   rw [dr hg,bH hg,zqo]at ht
   have hj:OK=true:=by rw [ha,hd];simpa using ht
   cbv
   rw [e1,hn]
   exact ig hB (z+1) [some 0] (wkS [0] (by decide) ⟨⟨_,rfl,rfl,rfl⟩,trivial⟩ zr4) ⟨by omega,by omega,fun i y hi hy=>hO i y hi hy hj⟩ (by omega)
  ·replace hd:E= !(!TK||decide (0<aD hf)):=by rw [hd];simp
   cbv
   (first|refine ad hg cT ?_|refine aa hg cT ?_)
   cases TK
   case false=>
    cbv
    exact aY hF (ho (by rw [ha,hd];rfl)).symm
   cbv
   cases ht:g .q .gtr (g .ln hf) 0
   case true=>
    rw [dr hg,bH hg,zqp]at ht
    cbv
    exact aY hF (ho (by rw [ha,hd];simpa using ht)).symm
   rw [dr hg,bH hg,zqo]at ht
   have hj:OK=true:=by rw [ha,hd];simpa using ht
   cbv
   rw [e1,hn]
   exact ig hB (z+1) [some 0] (wkS [0] (by decide) ⟨⟨_,rfl,rfl,rfl⟩,trivial⟩ zr4) ⟨by omega,by omega,fun i y hi hy=>hO i y hi hy hj⟩ (by omega)
 ·have eu:g .q .neq a0 0=true:=by rw [dF hg];simpa using hu
  have ah:=hQ hu
  obtain⟨u1,u2,xb,x4⟩:=aZ ah
  have yj:a0<=1048576:=Int.le_trans (mU hH u2) yf
  have hM:V[(a0-1).toNat]? =some xb.ac:=by rw [hV];exact fE x4
  have yi:jf ns a0=xb.kids:=by unfold jf;rw [x4]
  have ai:=(hs xb (zqd x4))
  obtain⟨b0,b1,⟨b2,b3,b4,b5,b6,b7,b8,b9,yn,yo,yp,⟨yq,yr⟩,⟨ys,yt⟩,⟨yu,yv⟩,⟨yw,yx⟩,⟨yy,yz⟩,⟨yA,yB⟩,⟨yC,yD⟩,yE,⟨⟨yF,yG⟩,⟨yH,yI⟩,⟨yJ,yK⟩,⟨yL,yM⟩,⟨yN,yO⟩,⟨yP,yQ⟩⟩,⟨⟨yR,yS⟩,⟨yT,yU⟩,⟨yV,yW⟩,⟨yX,yY⟩,⟨yZ,y0⟩,⟨y1,y2⟩⟩,⟨y3,y4,y5,y6⟩,⟨y7,y8,y9,za⟩,zb,zc⟩,zd,⟨x9⟩⟩:=xb
  obtain⟨ax,ap,-⟩:=ai
  simp only at yi
  replace hM:V[(a0-1).toNat]? =some [.J b0,.view (vw aj b1),.J b2,.J b3,.J b4,.J b5,.J b6,.J b7,.B b8,.B b9,.J yn,.J yo,.J yp,.J yq,.J yr,.J ys,.J yt,.J yu,.J yv,.J yw,.J yx,.J yy,.J yz,.J yA,.J yB,.J yC,.J yD,.J yE,.J yF,.J yG,.J yH,.J yI,.J yJ,.J yK,.J yL,.J yM,.J yN,.J yO,.J yP,.J yQ,.J yR,.J yS,.J yT,.J yU,.J yV,.J yW,.J yX,.J yY,.J yZ,.J y0,.J y1,.J y2,.J y3,.J y4,.J y5,.J y6,.J y7,.J y8,.J y9,.J za,.J zb,.J zc,.B zd,.view (vw aQ.c x9)]:=hM
  obtain⟨Cn,yd⟩:=nmE (cnt b1 n)
  have yc:C=decide (Cn=1):=by rw [hC,sB,yi,yd];simp [hu]
  obtain⟨hm,hG⟩:=nmE (vw aj b1)
  obtain⟨yl,hK⟩:=nmE (vw aQ.c x9)
  have am:=mQ hG
  have ao:0<=aD hm:=by omega
  have au:aD hm<=1048576:=by omega
  have xY:∀z:Int,aD hm<=z->ug (fun k=>if k=n then 1 else 0) b1 z.toNat=Cn:=fun z hz=>by rw [yd];exact lZ _ (by omega)
  rw [<-hG,<-hK]at hM
  cbv
  rw [eu]
  cbv
  (first|refine ad hg (ei V a0 u1 yj hM) ?_|refine aa hg (ei V a0 u1 yj hM) ?_)
  cbv
  refine cV hg aC (by kernel_rfl) (fun s:Int×Int=>[(1,.p 0),(4,.p 1),(5,.i n),(8,.i s.2),(16,.v V),(17,.i (g .ln V)),(18,.i z),(63,.v hm),(64,.i (g .ln hm)),(65,.i s.1)]) (fun _=>[.bx 38 1 [.view V],.bx 55 64 [.J a0,.view hf,.J a2,.J a3,.J a4,.J a5,.J a6,.J a7,.B a8,.B a9,.J hT,.J hU,.J hW,.J hX,.J hY,.J hZ,.J h3,.J h4,.J h5,.J h6,.J h7,.J h8,.J h9,.J xa,.J xc,.J xd,.J xe,.J xf,.J xg,.J xh,.J xi,.J xj,.J xk,.J xl,.J xm,.J xn,.J xo,.J xp,.J xq,.J xr,.J xt,.J xu,.J xv,.J xw,.J xx,.J xy,.J xz,.J xA,.J xB,.J xC,.J xD,.J xE,.J xF,.J xG,.J xH,.J xI,.J xJ,.J xK,.J xL,.J xM,.J xN,.J xO,.B hr,.view hh]]) (fun s=>0<=s.1/\s.1<=aD hm/\0<=s.2/\s.2<=s.1/\s.2=ug (fun k=>if k=n then 1 else 0) b1 s.1.toNat) (fun s=>(aD hm).toNat-s.1.toNat)
   (0,0) [some 0,some 1] ⟨Int.le_refl 0,ao,Int.le_refl 0,Int.le_refl 0,(jU _ _).symm⟩ (wkS [0,1] (by decide) ⟨⟨_,rfl,rfl,rfl⟩,⟨_,rfl,rfl,rfl⟩,trivial⟩ ⟨rfl,rfl,rfl,rfl,rfl,rfl,rfl,rfl,rfl,rfl,trivial⟩) (fun s B3 x3 yb=> ?_)
  obtain⟨i,d⟩:=s
  obtain⟨q0,q1,q2,q3,q4⟩:=x3
  simp only at q0 q1 q2 q3 q4
  cbv
  cases hq:g .q .lss i (g .ln hm)
  case true=>
   rw [bD hg,bH hg,zqp]at hq
   cbv
   obtain⟨y,hy⟩:=uI (xs:=b1) q0 (fT am hq)
   have x5:hm[i.toNat]? =some (lc (aj y)):=by rw [hG];exact bu hy
   have hP:=jV (fun k:Int=>if k=n then(1:Int)else 0) hy
   have e3:g .w .add .i64 i 1=i+1:=by rw [aJ hg,aw _ (by omega)]
   refine goX hg _ q0 x5 rfl ?_
   cbv
   cases he:g .q .eql y n
   ·have xZ:y≠n:=by rw [bB hg]at he;simpa using he
    simp only [if_neg xZ]at hP
    cbv
    rw [e3]
    exact ig yb (i+1,d) [some 0,some 1] (wkS [0,1] (by decide) ⟨⟨_,rfl,rfl,rfl⟩,⟨_,rfl,rfl,rfl⟩,trivial⟩ ⟨rfl,rfl,rfl,rfl,rfl,rfl,rfl,rfl,rfl,rfl,trivial⟩) ⟨by simp only;omega,by simp only;omega,q2,by simp only;omega,by simp only;rw [show(i+1).toNat=i.toNat+1 by omega,hP];omega⟩ (by show(aD hm).toNat-(i+1).toNat<(aD hm).toNat-i.toNat;omega)
   ·have xZ:y=n:=by rw [bB hg]at he;simpa using he
    simp only [if_pos xZ]at hP
    have e4:g .w .add .i64 d 1=d+1:=by rw [aJ hg,aw _ (by omega)]
    cbv
    rw [e3,e4]
    exact ig yb (i+1,d+1) [some 0,some 1] (wkS [0,1] (by decide) ⟨⟨_,rfl,rfl,rfl⟩,⟨_,rfl,rfl,rfl⟩,trivial⟩ ⟨rfl,rfl,rfl,rfl,rfl,rfl,rfl,rfl,rfl,rfl,trivial⟩) ⟨by simp only;omega,by simp only;omega,by simp only;omega,by simp only;omega,by simp only;rw [show(i+1).toNat=i.toNat+1 by omega,hP];omega⟩ (by show(aD hm).toNat-(i+1).toNat<(aD hm).toNat-i.toNat;omega)
  rw [bD hg,bH hg,zqo]at hq
  have ag:d=Cn:=by rw [q4,xY i (by omega)]
  subst ag
  cbv
  cases hcn:g .q .neq d 1
  case true=>
   rw [dF hg,bne_iff_ne]at hcn
   have z9:C=false:=by rw [yc];simpa using hcn
   cbv
   exact aY hF (ho (by rw [ha,z9];simp)).symm
  rw [dF hg,zqq]at hcn
  have xS:C=true:=by rw [yc,hcn];rfl
  cbv
  replace ha:OK=E:=by rw [ha,xS,ye];simp
  cases hr
  ·replace hd:E= !(decide (0<aD hh)):=by rw [hd];simp
   cbv
   cases ht:g .q .gtr (g .ln hh) 0
   case true=>
    rw [dr hg,bH hg,zqp]at ht
    cbv
    exact aY hF (ho (by rw [ha,hd];simpa using ht)).symm
   rw [dr hg,bH hg,zqo]at ht
   have hj:OK=true:=by rw [ha,hd];simpa using ht
   cbv
   rw [e1,hn]
   exact ig hB (z+1) [some 0] (wkS [0] (by decide) ⟨⟨_,rfl,rfl,rfl⟩,trivial⟩ zr4) ⟨by omega,by omega,fun i y hi hy=>hO i y hi hy hj⟩ (by omega)
  ·replace hd:E= !(!TK||decide (0<aD hf)):=by rw [hd];simp
   cbv
   (first|refine ad hg cT ?_|refine aa hg cT ?_)
   cases TK
   case false=>
    cbv
    exact aY hF (ho (by rw [ha,hd];rfl)).symm
   cbv
   cases ht:g .q .gtr (g .ln hf) 0
   case true=>
    rw [dr hg,bH hg,zqp]at ht
    cbv
    exact aY hF (ho (by rw [ha,hd];simpa using ht)).symm
   rw [dr hg,bH hg,zqo]at ht
   have hj:OK=true:=by rw [ha,hd];simpa using ht
   cbv
   rw [e1,hn]
   exact ig hB (z+1) [some 0] (wkS [0] (by decide) ⟨⟨_,rfl,rfl,rfl⟩,trivial⟩ zr4) ⟨by omega,by omega,fun i y hi hy=>hO i y hi hy hj⟩ (by omega)
theorem gv(ns:List af)(hl:ns.length<=1048576)(hs:∀y∈ns,y.small):PC0 19 [.agg [.view (vwA af.ac ns)]] (.t (abl (aM ns))):=by
 obtain⟨V,hV⟩:=nmE (vwA af.ac ns)
 have hG:aD V=(ns.length:Int):=by rw [az,hV,bm]
 have z4:0<=aD V:=by omega
 have yV:aD V<=1048576:=by omega
 have hP:∀n,isN ns n=rng n 1 (aD V):=fun n=>by rw [hG];rfl
 have cD:=fun n=>nK ns n hl
 obtain⟨R,hR⟩:=nmE (aM ns)
 rw [<-hR]
 rw [<-hV]at cD⊢
 refine ae (aP f19) aC func19 fun g F hg hF=> ?_
 cbv
 cases h12:g .q .gtr (g .ln V) 12
 case true=>
  rw [dr hg,bH hg,zqp]at h12
  cbv
  exact aY hF (by rw [hR,sF hG (by omega)])
 rw [dr hg,bH hg,zqo]at h12
 cbv
 refine cV hg aC (by kernel_rfl) (fun z:Int=>[(1,.p 0),(3,.i z)]) (fun _=>[.bx 38 1 [.view V]]) (fun z=>0<=z/\z<=aD V/\∀(i:Nat)(x:af),i<z.toNat->ns[i]? =some x->aR ns ((i:Int)+1) x=true) (fun z=>(aD V).toNat-z.toNat)
  0 [some 0] ⟨Int.le_refl 0,z4,fun i x hi=>by simp at hi⟩ (wkS [0] (by decide) ⟨⟨_,rfl,rfl,rfl⟩,trivial⟩ zr2) (fun z B z7 hB=> ?_)
 obtain⟨h0,h1,h2⟩:=z7
 cbv
 cases hc:g .q .lss z (g .ln V)
 ·rw [bD hg,bH hg,zqo]at hc
  cbv
  exact aY hF (by rw [hR,sE hG (by omega) (by omega) h2])
 rw [bD hg,bH hg,zqp]at hc
 cbv
 obtain⟨x,hx⟩:=uI (xs:=ns) h0 (fT hG hc)
 have hY:V[z.toNat]? =some x.ac:=by rw [hV];exact fE hx
 have z8:=hs x (zqd hx)
 have hj:aR ns (z+1) x=false->R=false:=fun h=>by rw [hR];exact vm h0 hx h
 have y3:=ze hG h0 hc
 have y2:=C2 hx
 obtain⟨n,hn⟩:=nmE (z+1)
 rw [<-hn]at hj y3 y2
 obtain⟨OK,yT⟩:=nmE (aR ns n x)
 have ha:=yT
 rw [aR]at ha
 rw [<-yT]at hj
 obtain⟨A,hA⟩:=nmE (gP x.style)
 obtain⟨Dp,yR⟩:=nmE (kC ns n)
 obtain⟨Bd,yP⟩:=nmE (rng Dp 1 4)
 obtain⟨C,hC⟩:=nmE (sB ns n x.up)
 obtain⟨D,hD⟩:=nmE (x.kids.all (dz ns n))
 obtain⟨E,hE⟩:=nmE (BS x)
 have hX:Bd=true->x.up≠0->isN ns x.up=true:=fun hb hu=>zt (by omega) y3 y2 (by rw [<-yR,<-yP];exact hb) hu
 rw [<-hA,<-yR,<-yP,<-hC,<-hD,<-hE]at ha
 have cA:=jo x.style
 have yN:=cD n
 have cB:=bj Dp 1 4
 have cT:=nI x.table.rules
 rw [<-hA]at cA
 rw [<-yR]at yN
 rw [<-yP]at cB
 have hW:∀(i:Nat)(y:af),i<(z+1).toNat->ns[i]? =some y->OK=true->aR ns ((i:Int)+1) y=true:=fun i y hi hy hk=>by
  by_cases hr:i<z.toNat
  ·exact h2 i y hr hy
  ·obtain rfl:i=z.toNat:=by omega
   rw [hx]at hy
   cases hy
   rw [show((z.toNat:Nat):Int)+1=n by omega,<-yT];exact hk
 obtain⟨a0,a1,⟨a2,a3,a4,a5,a6,a7,a8,a9,h3,h4,h5,⟨h6,h7⟩,⟨h8,h9⟩,⟨xa,xc⟩,⟨xd,xe⟩,⟨xf,xg⟩,⟨xh,xi⟩,⟨xj,xk⟩,xl,⟨⟨xm,xn⟩,⟨xo,xp⟩,⟨xq,xr⟩,⟨xt,xu⟩,⟨xv,xw⟩,⟨xx,xy⟩⟩,⟨⟨xz,xA⟩,⟨xB,xC⟩,⟨xD,xE⟩,⟨xF,xG⟩,⟨xH,xI⟩,⟨xJ,xK⟩⟩,⟨xL,xM,xN,xO⟩,⟨xP,xQ,xR,xS⟩,xT,xU⟩,hH,⟨xV⟩⟩:=x
 obtain⟨ai,yY,-⟩:=z8
 replace cT:=cT yY
 simp only at hX hC hD hE cA cT
 replace hY:V[z.toNat]? =some [.J a0,.view (vw aj a1),.J a2,.J a3,.J a4,.J a5,.J a6,.J a7,.B a8,.B a9,.J h3,.J h4,.J h5,.J h6,.J h7,.J h8,.J h9,.J xa,.J xc,.J xd,.J xe,.J xf,.J xg,.J xh,.J xi,.J xj,.J xk,.J xl,.J xm,.J xn,.J xo,.J xp,.J xq,.J xr,.J xt,.J xu,.J xv,.J xw,.J xx,.J xy,.J xz,.J xA,.J xB,.J xC,.J xD,.J xE,.J xF,.J xG,.J xH,.J xI,.J xJ,.J xK,.J xL,.J xM,.J xN,.J xO,.J xP,.J xQ,.J xR,.J xS,.J xT,.J xU,.B hH,.view (vw aQ.c xV)]:=hY
 obtain⟨TK,yU⟩:=nmE (zW xV)
 rw [<-yU]at cT
 obtain⟨he,hz⟩:=nmE (vw aj a1)
 obtain⟨hf,ho⟩:=nmE (vw aQ.c xV)
 have hU:=mQ hz
 have yX:=mQ ho
 have y6:0<=aD he:=by omega
 have ah:aD he<=1048576:=by omega
 rw [<-hz,<-ho]at hY
 rw [<-ho]at cT
 have e1:g .w .add .i64 z 1=n:=by rw [aJ hg,aw _ (by omega),hn]
 refine goX hg _ h0 hY rfl ?_
 cbv
 (first|refine ad hg cA ?_|refine aa hg cA ?_)
 cases A
 case false=>
  cbv
  exact aY hF (hj ha).symm
 cbv
 rw [e1]
 (first|refine ad hg yN ?_|refine aa hg yN ?_)
 cbv
 (first|refine ad hg cB ?_|refine aa hg cB ?_)
 cases Bd
 case false=>
  cbv
  exact aY hF (hj (by rw [ha];rfl)).symm
 replace hX:=hX rfl
 have hd:E= !((hH&&(!TK||decide (0<aD he)))||(!hH&&decide (0<aD hf))):=by rw [hE,yU,hU,yX];rfl
 clear hE yU
 by_cases hu:a0=0
 ·have yQ:C=true:=by rw [hC,sB,hu];rfl
  have eu:g .q .neq a0 0=false:=by rw [dF hg];simpa using hu
  cbv
  rw [eu]
  cbv
  refine cV hg aC (by kernel_rfl) (fun j:Int=>[(1,.p 0),(3,.i z),(4,.p 1),(5,.i j)]) (fun _=>[.bx 38 1 [.view V],.bx 55 64 [.J a0,.view he,.J a2,.J a3,.J a4,.J a5,.J a6,.J a7,.B a8,.B a9,.J h3,.J h4,.J h5,.J h6,.J h7,.J h8,.J h9,.J xa,.J xc,.J xd,.J xe,.J xf,.J xg,.J xh,.J xi,.J xj,.J xk,.J xl,.J xm,.J xn,.J xo,.J xp,.J xq,.J xr,.J xt,.J xu,.J xv,.J xw,.J xx,.J xy,.J xz,.J xA,.J xB,.J xC,.J xD,.J xE,.J xF,.J xG,.J xH,.J xI,.J xJ,.J xK,.J xL,.J xM,.J xN,.J xO,.J xP,.J xQ,.J xR,.J xS,.J xT,.J xU,.B hH,.view hf]]) (fun j:Int=>0<=j/\j<=aD he/\∀(i:Nat)(v:Int),i<j.toNat->a1[i]? =some v->dz ns n v=true) (fun j=>(aD he).toNat-j.toNat)
   0 [some 0,some 1] ⟨Int.le_refl 0,y6,fun i v hi=>by simp at hi⟩ (wkS [0,1] (by decide) ⟨⟨_,rfl,rfl,rfl⟩,⟨_,rfl,rfl,rfl⟩,trivial⟩ zr4) (fun j B2 hL yO=> ?_)
  obtain⟨k0,k1,k2⟩:=hL
  cbv
  cases hk:g .q .lss j (g .ln he)
  ·rw [bD hg,bH hg,zqo]at hk
   have yS:D=true:=by rw [hD];exact rT hU (by omega) k2
   replace ha:OK=E:=by rw [ha,yQ,yS];simp
   cases hH
   ·replace hd:E= !(decide (0<aD hf)):=by rw [hd];simp
    cbv
    cases ht:g .q .gtr (g .ln hf) 0
    case true=>
     rw [dr hg,bH hg,zqp]at ht
     cbv
     exact aY hF (hj (by rw [ha,hd];simpa using ht)).symm
    rw [dr hg,bH hg,zqo]at ht
    have hh:OK=true:=by rw [ha,hd];simpa using ht
    cbv
    rw [e1,hn]
    exact ig hB (z+1) [some 0] (wkS [0] (by decide) ⟨⟨_,rfl,rfl,rfl⟩,trivial⟩ zr2) ⟨by omega,by omega,fun i y hi hy=>hW i y hi hy hh⟩ (by omega)
   ·replace hd:E= !(!TK||decide (0<aD he)):=by rw [hd];simp
    cbv
    (first|refine ad hg cT ?_|refine aa hg cT ?_)
    cases TK
    case false=>
     cbv
     exact aY hF (hj (by rw [ha,hd];rfl)).symm
    cbv
    cases ht:g .q .gtr (g .ln he) 0
    case true=>
     rw [dr hg,bH hg,zqp]at ht
     cbv
     exact aY hF (hj (by rw [ha,hd];simpa using ht)).symm
    rw [dr hg,bH hg,zqo]at ht
    have hh:OK=true:=by rw [ha,hd];simpa using ht
    cbv
    rw [e1,hn]
    exact ig hB (z+1) [some 0] (wkS [0] (by decide) ⟨⟨_,rfl,rfl,rfl⟩,trivial⟩ zr2) ⟨by omega,by omega,fun i y hi hy=>hW i y hi hy hh⟩ (by omega)
  rw [bD hg,bH hg,zqp]at hk
  cbv
  obtain⟨y,hy⟩:=uI (xs:=a1) k0 (fT hU hk)
  have hT:he[j.toNat]? =some (lc (aj y)):=by rw [hz];exact bu hy
  have ci:=di V y
  rw [<-hP y]at ci
  refine goX hg _ k0 hT rfl ?_
  cbv
  cases hik:isN ns y
  ·rw [hik]at ci
   have hI:D=false:=by rw [hD];exact kY hy (by rw [dz,hik];rfl)
   (first|refine ad hg ci ?_|refine aa hg ci ?_)
   cbv
   exact aY hF (hj (by rw [ha,hI];simp)).symm
  rw [hik]at ci
  (first|refine ad hg ci ?_|refine aa hg ci ?_)
  obtain⟨i1,i2,x,hQ⟩:=aZ hik
  have hr:y<=1048576:=Int.le_trans (mU hG i2) yV
  have hw:V[(y-1).toNat]? =some x.ac:=by rw [hV];exact fE hQ
  have hm:=mg hQ
  obtain⟨c0,c1,⟨c2,c3,c4,c5,c6,c7,c8,c9,xW,xX,xY,⟨xZ,x0⟩,⟨x1,x2⟩,⟨x3,x4⟩,⟨x5,x6⟩,⟨x7,x8⟩,⟨x9,ya⟩,⟨yb,yc⟩,yd,⟨⟨ye,yf⟩,⟨yg,yh⟩,⟨yi,yj⟩,⟨yk,yl⟩,⟨ym,yn⟩,⟨yo,yp⟩⟩,⟨⟨yq,yr⟩,⟨ys,yt⟩,⟨yu,yv⟩,⟨yw,yx⟩,⟨yy,yz⟩,⟨yA,yB⟩⟩,⟨yC,yD,yE,yF⟩,⟨yG,yH,yI,yJ⟩,yK,yL⟩,yM,⟨hM⟩⟩:=x
  simp only at hm
  replace hw:V[(y-1).toNat]? =some [.J c0,.view (vw aj c1),.J c2,.J c3,.J c4,.J c5,.J c6,.J c7,.B c8,.B c9,.J xW,.J xX,.J xY,.J xZ,.J x0,.J x1,.J x2,.J x3,.J x4,.J x5,.J x6,.J x7,.J x8,.J x9,.J ya,.J yb,.J yc,.J yd,.J ye,.J yf,.J yg,.J yh,.J yi,.J yj,.J yk,.J yl,.J ym,.J yn,.J yo,.J yp,.J yq,.J yr,.J ys,.J yt,.J yu,.J yv,.J yw,.J yx,.J yy,.J yz,.J yA,.J yB,.J yC,.J yD,.J yE,.J yF,.J yG,.J yH,.J yI,.J yJ,.J yK,.J yL,.B yM,.view (vw aQ.c hM)]:=hw
  obtain⟨y8,hJ⟩:=nmE (vw aj c1)
  obtain⟨hZ,hp⟩:=nmE (vw aQ.c hM)
  rw [<-hJ,<-hp]at hw
  cbv
  refine goX hg _ k0 hT rfl ?_
  cbv
  (first|refine ad hg (br V y i1 hr hw) ?_|refine aa hg (br V y i1 hr hw) ?_)
  cbv
  rw [e1]
  cases hq:g .q .neq c0 n
  case true=>
   rw [dF hg,bne_iff_ne]at hq
   have hI:D=false:=by rw [hD];exact kY hy (by rw [dz,hik,hm];simpa using hq)
   cbv
   exact aY hF (hj (by rw [ha,hI];simp)).symm
  rw [dF hg,zqq]at hq
  have hK:dz ns n y=true:=by rw [dz,hik,hm];simpa using hq
  cbv
  have e3:g .w .add .i64 j 1=j+1:=by rw [aJ hg,aw _ (by omega)]
  rw [e3]
  exact ig yO (j+1) [some 0,some 1] (wkS [0,1] (by decide) ⟨⟨_,rfl,rfl,rfl⟩,⟨_,rfl,rfl,rfl⟩,trivial⟩ zr4) ⟨by omega,by omega,fun i v hi hv=>by
   by_cases hr:i<j.toNat
   ·exact k2 i v hr hv
   ·obtain rfl:i=j.toNat:=by omega
    rw [hy]at hv
    cases hv
    exact hK⟩ (by omega)
 ·have eu:g .q .neq a0 0=true:=by rw [dF hg];simpa using hu
  have z5:=hX hu
  obtain⟨u1,u2,xb,yW⟩:=aZ z5
  have y5:a0<=1048576:=Int.le_trans (mU hG u2) yV
  have hS:V[(a0-1).toNat]? =some xb.ac:=by rw [hV];exact fE yW
  have y4:jf ns a0=xb.kids:=by unfold jf;rw [yW]
  have z6:=(hs xb (zqd yW))
  obtain⟨b0,b1,⟨b2,b3,b4,b5,b6,b7,b8,b9,y9,za,zb,⟨zc,zd⟩,⟨zf,zg⟩,⟨zh,zi⟩,⟨zj,zk⟩,⟨zl,zm⟩,⟨zn,zo⟩,⟨zp,zq⟩,zr,⟨⟨zs,zu⟩,⟨zv,zw⟩,⟨zx,zy⟩,⟨zz,zA⟩,⟨zB,zC⟩,⟨zD,zE⟩⟩,⟨⟨zF,zG⟩,⟨zH,zI⟩,⟨zJ,zK⟩,⟨zL,zM⟩,⟨zN,zO⟩,⟨zP,zQ⟩⟩,⟨zR,zS,zT,zU⟩,⟨zV,zX,zY,zZ⟩,z0,z1⟩,z2,⟨yZ⟩⟩:=xb
  obtain⟨z9,ab,-⟩:=z6
  simp only at y4
  replace hS:V[(a0-1).toNat]? =some [.J b0,.view (vw aj b1),.J b2,.J b3,.J b4,.J b5,.J b6,.J b7,.B b8,.B b9,.J y9,.J za,.J zb,.J zc,.J zd,.J zf,.J zg,.J zh,.J zi,.J zj,.J zk,.J zl,.J zm,.J zn,.J zo,.J zp,.J zq,.J zr,.J zs,.J zu,.J zv,.J zw,.J zx,.J zy,.J zz,.J zA,.J zB,.J zC,.J zD,.J zE,.J zF,.J zG,.J zH,.J zI,.J zJ,.J zK,.J zL,.J zM,.J zN,.J zO,.J zP,.J zQ,.J zR,.J zS,.J zT,.J zU,.J zV,.J zX,.J zY,.J zZ,.J z0,.J z1,.B z2,.view (vw aQ.c yZ)]:=hS
  have cH:=oV b1 n z9
  obtain⟨Cn,y1⟩:=nmE (cnt b1 n)
  have y0:C=decide (Cn=1):=by rw [hC,sB,y4,y1];simp [hu]
  rw [<-y1]at cH
  obtain⟨ag,hN⟩:=nmE (vw aj b1)
  obtain⟨y7,hO⟩:=nmE (vw aQ.c yZ)
  rw [<-hN,<-hO]at hS
  rw [<-hN]at cH
  cbv
  rw [eu]
  cbv
  (first|refine ad hg (br V a0 u1 y5 hS) ?_|refine aa hg (br V a0 u1 y5 hS) ?_)
  cbv
  rw [e1]
  (first|refine ad hg cH ?_|refine aa hg cH ?_)
  cbv
  cases hcn:g .q .neq Cn 1
  case true=>
   rw [dF hg,bne_iff_ne]at hcn
   have z3:C=false:=by rw [y0];simpa using hcn
   cbv
   exact aY hF (hj (by rw [ha,z3];simp)).symm
  rw [dF hg,zqq]at hcn
  have yQ:C=true:=by rw [y0,hcn];rfl
  cbv
  refine cV hg aC (by kernel_rfl) (fun j:Int=>[(1,.p 0),(3,.i z),(4,.p 1),(5,.i j)]) (fun _=>[.bx 38 1 [.view V],.bx 55 64 [.J a0,.view he,.J a2,.J a3,.J a4,.J a5,.J a6,.J a7,.B a8,.B a9,.J h3,.J h4,.J h5,.J h6,.J h7,.J h8,.J h9,.J xa,.J xc,.J xd,.J xe,.J xf,.J xg,.J xh,.J xi,.J xj,.J xk,.J xl,.J xm,.J xn,.J xo,.J xp,.J xq,.J xr,.J xt,.J xu,.J xv,.J xw,.J xx,.J xy,.J xz,.J xA,.J xB,.J xC,.J xD,.J xE,.J xF,.J xG,.J xH,.J xI,.J xJ,.J xK,.J xL,.J xM,.J xN,.J xO,.J xP,.J xQ,.J xR,.J xS,.J xT,.J xU,.B hH,.view hf]]) (fun j:Int=>0<=j/\j<=aD he/\∀(i:Nat)(v:Int),i<j.toNat->a1[i]? =some v->dz ns n v=true) (fun j=>(aD he).toNat-j.toNat)
   0 [some 0,some 1] ⟨Int.le_refl 0,y6,fun i v hi=>by simp at hi⟩ (wkS [0,1] (by decide) ⟨⟨_,rfl,rfl,rfl⟩,⟨_,rfl,rfl,rfl⟩,trivial⟩ zr4) (fun j B2 hL yO=> ?_)
  obtain⟨k0,k1,k2⟩:=hL
  cbv
  cases hk:g .q .lss j (g .ln he)
  ·rw [bD hg,bH hg,zqo]at hk
   have yS:D=true:=by rw [hD];exact rT hU (by omega) k2
   replace ha:OK=E:=by rw [ha,yQ,yS];simp
   cases hH
   ·replace hd:E= !(decide (0<aD hf)):=by rw [hd];simp
    cbv
    cases ht:g .q .gtr (g .ln hf) 0
    case true=>
     rw [dr hg,bH hg,zqp]at ht
     cbv
     exact aY hF (hj (by rw [ha,hd];simpa using ht)).symm
    rw [dr hg,bH hg,zqo]at ht
    have hh:OK=true:=by rw [ha,hd];simpa using ht
    cbv
    rw [e1,hn]
    exact ig hB (z+1) [some 0] (wkS [0] (by decide) ⟨⟨_,rfl,rfl,rfl⟩,trivial⟩ zr2) ⟨by omega,by omega,fun i y hi hy=>hW i y hi hy hh⟩ (by omega)
   ·replace hd:E= !(!TK||decide (0<aD he)):=by rw [hd];simp
    cbv
    (first|refine ad hg cT ?_|refine aa hg cT ?_)
    cases TK
    case false=>
     cbv
     exact aY hF (hj (by rw [ha,hd];rfl)).symm
    cbv
    cases ht:g .q .gtr (g .ln he) 0
    case true=>
     rw [dr hg,bH hg,zqp]at ht
     cbv
     exact aY hF (hj (by rw [ha,hd];simpa using ht)).symm
    rw [dr hg,bH hg,zqo]at ht
    have hh:OK=true:=by rw [ha,hd];simpa using ht
    cbv
    rw [e1,hn]
    exact ig hB (z+1) [some 0] (wkS [0] (by decide) ⟨⟨_,rfl,rfl,rfl⟩,trivial⟩ zr2) ⟨by omega,by omega,fun i y hi hy=>hW i y hi hy hh⟩ (by omega)
  rw [bD hg,bH hg,zqp]at hk
  cbv
  obtain⟨y,hy⟩:=uI (xs:=a1) k0 (fT hU hk)
  have hT:he[j.toNat]? =some (lc (aj y)):=by rw [hz];exact bu hy
  have ci:=di V y
  rw [<-hP y]at ci
  refine goX hg _ k0 hT rfl ?_
  cbv
  cases hik:isN ns y
  ·rw [hik]at ci
   have hI:D=false:=by rw [hD];exact kY hy (by rw [dz,hik];rfl)
   (first|refine ad hg ci ?_|refine aa hg ci ?_)
   cbv
   exact aY hF (hj (by rw [ha,hI];simp)).symm
  rw [hik]at ci
  (first|refine ad hg ci ?_|refine aa hg ci ?_)
  obtain⟨i1,i2,x,hQ⟩:=aZ hik
  have hr:y<=1048576:=Int.le_trans (mU hG i2) yV
  have hw:V[(y-1).toNat]? =some x.ac:=by rw [hV];exact fE hQ
  have hm:=mg hQ
  obtain⟨c0,c1,⟨c2,c3,c4,c5,c6,c7,c8,c9,xW,xX,xY,⟨xZ,x0⟩,⟨x1,x2⟩,⟨x3,x4⟩,⟨x5,x6⟩,⟨x7,x8⟩,⟨x9,ya⟩,⟨yb,yc⟩,yd,⟨⟨ye,yf⟩,⟨yg,yh⟩,⟨yi,yj⟩,⟨yk,yl⟩,⟨ym,yn⟩,⟨yo,yp⟩⟩,⟨⟨yq,yr⟩,⟨ys,yt⟩,⟨yu,yv⟩,⟨yw,yx⟩,⟨yy,yz⟩,⟨yA,yB⟩⟩,⟨yC,yD,yE,yF⟩,⟨yG,yH,yI,yJ⟩,yK,yL⟩,yM,⟨hM⟩⟩:=x
  simp only at hm
  replace hw:V[(y-1).toNat]? =some [.J c0,.view (vw aj c1),.J c2,.J c3,.J c4,.J c5,.J c6,.J c7,.B c8,.B c9,.J xW,.J xX,.J xY,.J xZ,.J x0,.J x1,.J x2,.J x3,.J x4,.J x5,.J x6,.J x7,.J x8,.J x9,.J ya,.J yb,.J yc,.J yd,.J ye,.J yf,.J yg,.J yh,.J yi,.J yj,.J yk,.J yl,.J ym,.J yn,.J yo,.J yp,.J yq,.J yr,.J ys,.J yt,.J yu,.J yv,.J yw,.J yx,.J yy,.J yz,.J yA,.J yB,.J yC,.J yD,.J yE,.J yF,.J yG,.J yH,.J yI,.J yJ,.J yK,.J yL,.B yM,.view (vw aQ.c hM)]:=hw
  obtain⟨y8,hJ⟩:=nmE (vw aj c1)
  obtain⟨hZ,hp⟩:=nmE (vw aQ.c hM)
  rw [<-hJ,<-hp]at hw
  cbv
  refine goX hg _ k0 hT rfl ?_
  cbv
  (first|refine ad hg (br V y i1 hr hw) ?_|refine aa hg (br V y i1 hr hw) ?_)
  cbv
  rw [e1]
  cases hq:g .q .neq c0 n
  case true=>
   rw [dF hg,bne_iff_ne]at hq
   have hI:D=false:=by rw [hD];exact kY hy (by rw [dz,hik,hm];simpa using hq)
   cbv
   exact aY hF (hj (by rw [ha,hI];simp)).symm
  rw [dF hg,zqq]at hq
  have hK:dz ns n y=true:=by rw [dz,hik,hm];simpa using hq
  cbv
  have e3:g .w .add .i64 j 1=j+1:=by rw [aJ hg,aw _ (by omega)]
  rw [e3]
  exact ig yO (j+1) [some 0,some 1] (wkS [0,1] (by decide) ⟨⟨_,rfl,rfl,rfl⟩,⟨_,rfl,rfl,rfl⟩,trivial⟩ zr4) ⟨by omega,by omega,fun i v hi hv=>by
   by_cases hr:i<j.toNat
   ·exact k2 i v hr hv
   ·obtain rfl:i=j.toNat:=by omega
    rw [hy]at hv
    cases hv
    exact hK⟩ (by omega)
def upD(ns:List af):Nat->Int->Prop
 |0,n=>isN ns n=false
 |k+1,n=>isN ns n=false\/upD ns k (upN ns n)
variable {ns:List af}
theorem zS{n:Int}(h:isN ns n=false):∀k,upD ns k n
 |0=>h
 |_+1=> .inl h
theorem tb(ns:List af):isN ns 0=false:=by simp [isN,rng]
theorem vk{ns:List af}:∀(f:Nat)(k n:Int),l9 ns f k n≠0->upD ns f n
 |0,k,n,h=>by
  by_cases h0:n=0
  ·subst h0;exact tb ns
  ·exact absurd (p7 ns h0) h
 |f+1,k,n,h=>by
  by_cases h0:n=0
  ·subst h0;exact .inl (tb ns)
  ·cases hi:isN ns n
   ·exact .inl hi
   ·rw [eV ns h0 hi]at h
    exact .inr (vk f _ _ h)
theorem zT(h:aM ns=true)(n:Int):upD ns ns.length n:=by
 cases hi:isN ns n
 ·exact zS hi _
 ·obtain⟨i1,i2,x,hx⟩:=aZ hi
  simp only [aM,zqs]at h
  have h3:=(en ns ns 0).1 h.2 (n-1).toNat x hx
  rw [show(0:Int)+(((n-1).toNat:Nat):Int)+1=n by omega]at h3
  simp only [aR,zqs,rng,zqp]at h3
  exact vk _ 0 n (by show kC ns n≠0;omega)
def ii(ns:List af)(a:Int):Nat->Int->Bool
 |0,_=>false
 |k+1,n=>isN ns n&&(if upN ns n=a then isN ns a else ii ns a k (upN ns n))
theorem lR{a n:Int}(h:isN ns n=false)(k:Nat):ii ns a k n=false:=by cases k<;>simp [ii,h]
variable {a n u:Int}
theorem sC(h:isN ns n=true)(hu:upN ns n=u)(hs:u=a)(k:Nat):ii ns a (k+1) n=isN ns a:=by rw [ii,h,hu,if_pos hs];rfl
theorem vl(h:isN ns n=true)(hu:upN ns n=u)(hs:u≠a)(k:Nat):ii ns a (k+1) n=ii ns a k u:=by rw [ii,h,hu,if_neg hs];rfl
theorem mh{ns:List af}{a:Int}:∀(k:Nat)(n:Int),upD ns k n->ii ns a (k+1) n=ii ns a k n
 |0,n,h=>lR h 1
 |k+1,n,h=>by
  rcases h with h|h
  ·rw [lR h,lR h]
  ·have:=mh (a:=a) k _ h
   show(isN ns n&&(if upN ns n=a then isN ns a else ii ns a (k+1) (upN ns n)))=(isN ns n&&(if upN ns n=a then isN ns a else ii ns a k (upN ns n)))
   rw [this]
theorem nJ(ns:List af)(hl:ns.length<=1048576)(n0 a:Int)(hud:upD ns ns.length n0):PC0 22 [.agg [.view (vwA af.ac ns)],ai n0,ai a] (.t (abl (ii ns a ns.length n0))):=by
 rw [<-mh ns.length n0 hud]
 clear hud
 obtain⟨T,hT⟩:=nmE (vwA af.ac ns)
 have hk:aD T=(ns.length:Int):=by rw [az,hT,bm]
 have hb:∀n,isN ns n=rng n 1 (aD T):=fun n=>by rw [hk];rfl
 have xo:aD T<=1048576:=by omega
 have xu:0<=aD T:=by omega
 have xq:∀z:Int,0<=z->z<=aD T->ns.length+1-z.toNat=(ns.length+1-(z+1).toNat)+1:=fun d h0 h1=>by omega
 have xp:∀z:Int,¬z<=aD T->ns.length+1-z.toNat=0:=fun z h=>by omega
 obtain⟨R,hR⟩:=nmE (ii ns a (ns.length+1) n0)
 have xs:ii ns a (ns.length+1-(0:Int).toNat) n0=R:=by rw [hR];rfl
 rw [<-hR,<-hT]
 have ca:=di T a
 rw [<-hb a]at ca
 refine ae (aP f22) aC func22 fun g F hg hF=> ?_
 cbv
 refine cV hg aC (by kernel_rfl) (fun s:Int×Int=>[(1,.i s.2),(2,.i a),(3,.p 0),(7,.i s.1)]) (fun _=>[.bx 38 1 [.view T]]) (fun s=>0<=s.1/\ii ns a (ns.length+1-s.1.toNat) s.2=R) (fun s=>(aD T+1).toNat-s.1.toNat)
  (0,n0) [some 0] ⟨Int.le_refl 0,xs⟩ (wkS [0] (by decide) ⟨⟨_,rfl,rfl,rfl⟩,trivial⟩ zr4) (fun s B hs hB=> ?_)
 obtain⟨z,n⟩:=s
 obtain⟨h0,hU⟩:=hs
 simp only at h0 hU
 cbv
 cases hc:g .q .leq z (g .ln T)
 ·rw [iO hg,bH hg,zqo]at hc
  cbv
  exact aY hF (by rw [<-hU,xp z hc];rfl)
 rw [iO hg,bH hg,zqp]at hc
 cbv
 have cn:=di T n
 rw [<-hb n]at cn
 cases hi:isN ns n
 case false=>
  rw [hi]at cn
  refine ad hg cn ?_
  cbv
  exact aY hF (by rw [<-hU,lR hi])
 rw [hi]at cn
 refine ad hg cn ?_
 cbv
 obtain⟨i1,i2,x,hx⟩:=aZ hi
 have xr:n<=1048576:=Int.le_trans (hk▸i2) xo
 have hd:T[(n-1).toNat]? =some x.ac:=by rw [hT];exact fE hx
 have hh:=mg hx
 rw [xq z h0 hc]at hU
 obtain⟨b0,b1,⟨b2,b3,b4,b5,b6,b7,b8,b9,hn,ho,hp,⟨hq,hr⟩,⟨ht,hu⟩,⟨hv,hw⟩,⟨hy,hz⟩,⟨hA,hC⟩,⟨hD,hE⟩,⟨hG,hH⟩,hI,⟨⟨hJ,hK⟩,⟨hL,hM⟩,⟨hN,hO⟩,⟨hP,hQ⟩,⟨hS,hV⟩,⟨hW,hX⟩⟩,⟨⟨hY,hZ⟩,⟨h2,h3⟩,⟨h4,h5⟩,⟨h6,h7⟩,⟨h8,h9⟩,⟨xa,xb⟩⟩,⟨xc,xd,xe,xf⟩,⟨xg,xh,xi,xj⟩,xk,xl⟩,xm,⟨hj⟩⟩:=x
 replace hd:T[(n-1).toNat]? =some [.J b0,.view (vw aj b1),.J b2,.J b3,.J b4,.J b5,.J b6,.J b7,.B b8,.B b9,.J hn,.J ho,.J hp,.J hq,.J hr,.J ht,.J hu,.J hv,.J hw,.J hy,.J hz,.J hA,.J hC,.J hD,.J hE,.J hG,.J hH,.J hI,.J hJ,.J hK,.J hL,.J hM,.J hN,.J hO,.J hP,.J hQ,.J hS,.J hV,.J hW,.J hX,.J hY,.J hZ,.J h2,.J h3,.J h4,.J h5,.J h6,.J h7,.J h8,.J h9,.J xa,.J xb,.J xc,.J xd,.J xe,.J xf,.J xg,.J xh,.J xi,.J xj,.J xk,.J xl,.B xm,.view (vw aQ.c hj)]:=hd
 obtain⟨xt,hf⟩:=nmE (vw aj b1)
 obtain⟨hm,ha⟩:=nmE (vw aQ.c hj)
 rw [<-hf,<-ha]at hd
 simp only at hh
 refine ad hg (br T n i1 xr hd) ?_
 cbv
 cases he:g .q .eql b0 a
 case true=>
  rw [bB hg,beq_iff_eq]at he
  cbv
  refine bI hg ca rfl (fun R1 xn=> ?_)
  cbv
  exact aY hF (by rw [<-hU,sC hi hh he,xn])
 rw [bB hg,zqr]at he
 rw [vl hi hh he]at hU
 cbv
 have e1:g .w .add .i64 z 1=z+1:=by rw [aJ hg,aw _ (by omega)]
 rw [e1]
 exact ig hB (z+1,b0) [some 0] (wkS [0] (by decide) ⟨⟨_,rfl,rfl,rfl⟩,trivial⟩ zr4) ⟨by simp only;omega,hU⟩ (by show(aD T+1).toNat-(z+1).toNat<(aD T+1).toNat-z.toNat;omega)
end Go.Proofs.YtbnplcingdgaaaaGreat
