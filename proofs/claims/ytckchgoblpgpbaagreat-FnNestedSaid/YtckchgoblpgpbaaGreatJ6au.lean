/- A node's frame, sought in turn. -/
import Derived.Test.YtckchgoblpgpbaaGreatJ6at
set_option linter.unusedVariables false
set_option linter.unusedSimpArgs false
set_option maxHeartbeats 16000000
namespace Go.Proofs.YtckchgoblpgpbaaGreat
open Go.ChangeShapes Go.WideShapes Go.ChangeAt Go.RowKit Am Go.Proofs.Tryz
set_option maxRecDepth 100000
theorem kl(ns:List af)(hl:ns.length<=1048576)(hs:∀y∈ns,y.small):PC0 40 [.agg [.view (vwA af.ac ns)]] (.t (abl (aV ns))):=by
 obtain⟨V,hV⟩:=nmE (vwA af.ac ns)
 have hH:aC V=(ns.length:Int):=by rw [ar,hV,bi]
 have ab:0<=aC V:=by omega
 have yf:aC V<=1048576:=by omega
 have x0:∀n,isN ns n=rng n 1 (aC V):=fun n=>by rw [hH];rfl
 have cD:=fun n=>om ns n hl
 obtain⟨R,hR⟩:=nmE (aV ns)
 rw [<-hR]
 rw [<-hV]at cD⊢
 refine ae (aM f40) aB func40 fun g F hg hF=> ?_
 cbv
 cases h12:g .q .gtr (g .ln V) 12
 case true=>
  rw [dD hg,bO hg,zqp]at h12
  cbv
  exact aY hF (by rw [hR,sV hH (by omega)])
 rw [dD hg,bO hg,zqo]at h12
 cbv
 refine bV hg aB (by kernel_rfl) (fun z:Int=>[(1,.p 0),(16,.v V),(17,.i (g .ln V)),(18,.i z)]) (fun _=>[.bx 28 1 [.view V]]) (fun z=>0<=z/\z<=aC V/\∀(i:Nat)(x:af),i<z.toNat->ns[i]? =some x->bP ns ((i:Int)+1) x=true) (fun z=>(aC V).toNat-z.toNat)
  0 [some 0] ⟨Int.le_refl 0,ab,fun i x hi=>by simp at hi⟩ (wkS [0] (by decide) ⟨⟨_,rfl,rfl,rfl⟩,trivial⟩ zr4) (fun z B aj hB=> ?_)
 obtain⟨h0,h1,h2⟩:=aj
 cbv
 cases hc:g .q .lss z (g .ln V)
 ·rw [bF hg,bO hg,zqo]at hc
  cbv
  exact aY hF (by rw [hR,sU hH (by omega) (by omega) h2])
 rw [bF hg,bO hg,zqp]at hc
 cbv
 obtain⟨x,hx⟩:=ub (xs:=ns) h0 (gc hH hc)
 have hS:V[z.toNat]? =some x.ac:=by rw [hV];exact fy hx
 have al:=hs x (zqd hx)
 have ho:bP ns (z+1) x=false->R=false:=fun h=>by rw [hR];exact vz h0 hx h
 have yh:=zj hH h0 hc
 have yg:=C9 hx
 obtain⟨n,hn⟩:=nmE (z+1)
 rw [<-hn]at ho yh yg
 obtain⟨OK,xV⟩:=nmE (bP ns n x)
 have ha:=xV
 rw [bP]at ha
 rw [<-xV]at ho
 obtain⟨A,hA⟩:=nmE (vJ x.style)
 obtain⟨Dp,xU⟩:=nmE (jn ns n)
 obtain⟨Bd,xR⟩:=nmE (rng Dp 1 4)
 obtain⟨C,hC⟩:=nmE (uk ns n x.up)
 obtain⟨D,hD⟩:=nmE (x.kids.all (dY ns n))
 obtain⟨E,hE⟩:=nmE (Dd x)
 have hQ:Bd=true->x.up≠0->isN ns x.up=true:=fun hb hu=>zD (by omega) yh yg (by rw [<-xU,<-xR];exact hb) hu
 rw [<-hA,<-xU,<-xR,<-hC,<-hD,<-hE]at ha
 have cA:=od x.style
 have xQ:=cD n
 have cB:=bD Dp 1 4
 have cT:=oc x.table.rules
 rw [<-hA]at cA
 rw [<-xU]at xQ
 rw [<-xR]at cB
 have hO:∀(i:Nat)(y:af),i<(z+1).toNat->ns[i]? =some y->OK=true->bP ns ((i:Int)+1) y=true:=fun i y hi hy hk=>by
  by_cases hJ:i<z.toNat
  ·exact h2 i y hJ hy
  ·obtain rfl:i=z.toNat:=by omega
   rw [hx]at hy
   cases hy
   rw [show((z.toNat:Nat):Int)+1=n by omega,<-xV];exact hk
 obtain⟨a0,a1,⟨a2,a3,a4,a5,a6,a7,a8,a9,hT,hU,hW,⟨hX,hY⟩,⟨hZ,h3⟩,⟨h4,h5⟩,⟨h6,h7⟩,⟨h8,h9⟩,⟨xa,xc⟩,⟨xd,xe⟩,xf,⟨⟨xg,xh⟩,⟨xi,xj⟩,⟨xk,xl⟩,⟨xm,xn⟩,⟨xo,xp⟩,⟨xq,xr⟩⟩,⟨⟨xt,xu⟩,⟨xv,xw⟩,⟨xx,xy⟩,⟨xz,xA⟩,⟨xB,xC⟩,⟨xD,xE⟩⟩,⟨xF,xG,xH,xI⟩,⟨xJ,xK,xL,xM⟩,xN,xO⟩,hr,⟨xP⟩⟩:=x
 obtain⟨aw,x8,-⟩:=al
 replace cT:=cT x8
 simp only at hQ hC hD hE cA cT
 replace hS:V[z.toNat]? =some [.J a0,.view (vw ak a1),.J a2,.J a3,.J a4,.J a5,.J a6,.J a7,.B a8,.B a9,.J hT,.J hU,.J hW,.J hX,.J hY,.J hZ,.J h3,.J h4,.J h5,.J h6,.J h7,.J h8,.J h9,.J xa,.J xc,.J xd,.J xe,.J xf,.J xg,.J xh,.J xi,.J xj,.J xk,.J xl,.J xm,.J xn,.J xo,.J xp,.J xq,.J xr,.J xt,.J xu,.J xv,.J xw,.J xx,.J xy,.J xz,.J xA,.J xB,.J xC,.J xD,.J xE,.J xF,.J xG,.J xH,.J xI,.J xJ,.J xK,.J xL,.J xM,.J xN,.J xO,.B hr,.view (vw aK.c xP)]:=hS
 obtain⟨TK,xW⟩:=nmE (z7 xP)
 rw [<-xW]at cT
 obtain⟨hf,hw⟩:=nmE (vw ak a1)
 obtain⟨hh,hp⟩:=nmE (vw aK.c xP)
 have x6:=mX hw
 have x7:=mX hp
 have an:0<=aC hf:=by omega
 have au:aC hf<=1048576:=by omega
 rw [<-hw,<-hp]at hS
 rw [<-hp]at cT
 have e1:g .w .add .i64 z 1=n:=by rw [aJ hg,az _ (by omega),hn]
 refine goX hg _ h0 hS rfl ?_
 cbv
 rw [e1]
 (first|refine ad hg cA ?_|refine aa hg cA ?_)
 cases A
 case false=>
  cbv
  exact aY hF (ho ha).symm
 cbv
 (first|refine ad hg xQ ?_|refine aa hg xQ ?_)
 cbv
 (first|refine ad hg cB ?_|refine aa hg cB ?_)
 cases Bd
 case false=>
  cbv
  exact aY hF (ho (by rw [ha];rfl)).symm
 replace hQ:=hQ rfl
 have hd:E= !((hr&&(!TK||decide (0<aC hf)))||(!hr&&decide (0<aC hh))):=by rw [hE,xW,x6,x7];rfl
 clear hE xW
 cbv
 refine bV hg aB (by kernel_rfl) (fun j:Int=>[(1,.p 0),(4,.p 1),(5,.i n),(16,.v V),(17,.i (g .ln V)),(18,.i z),(37,.v hf),(38,.i (g .ln hf)),(39,.i j)]) (fun _=>[.bx 28 1 [.view V],.bx 69 64 [.J a0,.view hf,.J a2,.J a3,.J a4,.J a5,.J a6,.J a7,.B a8,.B a9,.J hT,.J hU,.J hW,.J hX,.J hY,.J hZ,.J h3,.J h4,.J h5,.J h6,.J h7,.J h8,.J h9,.J xa,.J xc,.J xd,.J xe,.J xf,.J xg,.J xh,.J xi,.J xj,.J xk,.J xl,.J xm,.J xn,.J xo,.J xp,.J xq,.J xr,.J xt,.J xu,.J xv,.J xw,.J xx,.J xy,.J xz,.J xA,.J xB,.J xC,.J xD,.J xE,.J xF,.J xG,.J xH,.J xI,.J xJ,.J xK,.J xL,.J xM,.J xN,.J xO,.B hr,.view hh]]) (fun j:Int=>0<=j/\j<=aC hf/\∀(i:Nat)(v:Int),i<j.toNat->a1[i]? =some v->dY ns n v=true) (fun j=>(aC hf).toNat-j.toNat)
  0 [some 0,some 1] ⟨Int.le_refl 0,an,fun i v hi=>by simp at hi⟩ (wkS [0,1] (by decide) ⟨⟨_,rfl,rfl,rfl⟩,⟨_,rfl,rfl,rfl⟩,trivial⟩ zr9) (fun j B2 x2 z8=> ?_)
 obtain⟨k0,k1,k2⟩:=x2
 cbv
 cases hk:g .q .lss j (g .ln hf)
 case true=>
  rw [bF hg,bO hg,zqp]at hk
  cbv
  obtain⟨y,hy⟩:=ub (xs:=a1) k0 (gc x6 hk)
  have x5:hf[j.toNat]? =some (lc (ak y)):=by rw [hw];exact bv hy
  have ci:=fE V y
  rw [<-x0 y]at ci
  refine goX hg _ k0 x5 rfl ?_
  cbv
  cases hik:isN ns y
  ·rw [hik]at ci
   have xT:D=false:=by rw [hD];exact lg hy (by rw [dY,hik];rfl)
   (first|refine ad hg ci ?_|refine aa hg ci ?_)
   cbv
   exact aY hF (ho (by rw [ha,xT];simp)).symm
  rw [hik]at ci
  (first|refine ad hg ci ?_|refine aa hg ci ?_)
  obtain⟨i1,i2,x,yk⟩:=aI hik
  have hJ:y<=1048576:=Int.le_trans (mZ hH i2) yf
  have hN:V[(y-1).toNat]? =some x.ac:=by rw [hV];exact fy yk
  have hI:=lx yk
  obtain⟨c0,c1,⟨c2,c3,c4,c5,c6,c7,c8,c9,ze,zf,zg,⟨zh,zi⟩,⟨zk,zl⟩,⟨zm,zn⟩,⟨zo,zp⟩,⟨zq,zr⟩,⟨zs,zt⟩,⟨zu,zv⟩,zw,⟨⟨zx,zy⟩,⟨zz,zA⟩,⟨zB,zC⟩,⟨zE,zF⟩,⟨zG,zH⟩,⟨zI,zJ⟩⟩,⟨⟨zK,zL⟩,⟨zM,zN⟩,⟨zO,zP⟩,⟨zQ,zR⟩,⟨zS,zT⟩,⟨zU,zV⟩⟩,⟨zW,zX,zY,zZ⟩,⟨z0,z1,z2,z3⟩,z4,z5⟩,z6,⟨ya⟩⟩:=x
  simp only at hI
  replace hN:V[(y-1).toNat]? =some [.J c0,.view (vw ak c1),.J c2,.J c3,.J c4,.J c5,.J c6,.J c7,.B c8,.B c9,.J ze,.J zf,.J zg,.J zh,.J zi,.J zk,.J zl,.J zm,.J zn,.J zo,.J zp,.J zq,.J zr,.J zs,.J zt,.J zu,.J zv,.J zw,.J zx,.J zy,.J zz,.J zA,.J zB,.J zC,.J zE,.J zF,.J zG,.J zH,.J zI,.J zJ,.J zK,.J zL,.J zM,.J zN,.J zO,.J zP,.J zQ,.J zR,.J zS,.J zT,.J zU,.J zV,.J zW,.J zX,.J zY,.J zZ,.J z0,.J z1,.J z2,.J z3,.J z4,.J z5,.B z6,.view (vw aK.c ya)]:=hN
  obtain⟨aq,xX⟩:=nmE (vw ak c1)
  obtain⟨ym,hL⟩:=nmE (vw aK.c ya)
  rw [<-xX,<-hL]at hN
  cbv
  (first|refine ad hg (d4 V y i1 hJ hN) ?_|refine aa hg (d4 V y i1 hJ hN) ?_)
  cbv
  cases hq:g .q .neq c0 n
  case true=>
   rw [d5 hg,bne_iff_ne]at hq
   have xT:D=false:=by rw [hD];exact lg hy (by rw [dY,hik,hI];simpa using hq)
   cbv
   exact aY hF (ho (by rw [ha,xT];simp)).symm
  rw [d5 hg,zqq]at hq
  have x1:dY ns n y=true:=by rw [dY,hik,hI];simpa using hq
  cbv
  have e3:g .w .add .i64 j 1=j+1:=by rw [aJ hg,az _ (by omega)]
  rw [e3]
  exact gA z8 (j+1) [some 0,some 1] (wkS [0,1] (by decide) ⟨⟨_,rfl,rfl,rfl⟩,⟨_,rfl,rfl,rfl⟩,trivial⟩ zr9) ⟨by omega,by omega,fun i v hi hv=>by
   by_cases hJ:i<j.toNat
   ·exact k2 i v hJ hv
   ·obtain rfl:i=j.toNat:=by omega
    rw [hy]at hv
    cases hv
    exact x1⟩ (by omega)
 rw [bF hg,bO hg,zqo]at hk
 have ye:D=true:=by rw [hD];exact sk x6 (by omega) k2
 by_cases hu:a0=0
 ·have xS:C=true:=by rw [hC,uk,hu];rfl
  have eu:g .q .neq a0 0=false:=by rw [d5 hg];simpa using hu
  cbv
  rw [eu]
  cbv
  replace ha:OK=E:=by rw [ha,xS,ye];simp
  cases hr
  ·replace hd:E= !(decide (0<aC hh)):=by rw [hd];simp
   cbv
   cases ht:g .q .gtr (g .ln hh) 0
   case true=>
    rw [dD hg,bO hg,zqp]at ht
    cbv
    exact aY hF (ho (by rw [ha,hd];simpa using ht)).symm
   rw [dD hg,bO hg,zqo]at ht
   have hj:OK=true:=by rw [ha,hd];simpa using ht
   cbv
   rw [e1,hn]
   exact gA hB (z+1) [some 0] (wkS [0] (by decide) ⟨⟨_,rfl,rfl,rfl⟩,trivial⟩ zr4) ⟨by omega,by omega,fun i y hi hy=>hO i y hi hy hj⟩ (by omega)
  ·replace hd:E= !(!TK||decide (0<aC hf)):=by rw [hd];simp
   cbv
   (first|refine ad hg cT ?_|refine aa hg cT ?_)
   cases TK
   case false=>
    cbv
    exact aY hF (ho (by rw [ha,hd];rfl)).symm
   cbv
   cases ht:g .q .gtr (g .ln hf) 0
   case true=>
    rw [dD hg,bO hg,zqp]at ht
    cbv
    exact aY hF (ho (by rw [ha,hd];simpa using ht)).symm
   rw [dD hg,bO hg,zqo]at ht
   have hj:OK=true:=by rw [ha,hd];simpa using ht
   cbv
   rw [e1,hn]
   exact gA hB (z+1) [some 0] (wkS [0] (by decide) ⟨⟨_,rfl,rfl,rfl⟩,trivial⟩ zr4) ⟨by omega,by omega,fun i y hi hy=>hO i y hi hy hj⟩ (by omega)
 ·have eu:g .q .neq a0 0=true:=by rw [d5 hg];simpa using hu
  have ah:=hQ hu
  obtain⟨u1,u2,xb,x4⟩:=aI ah
  have yj:a0<=1048576:=Int.le_trans (mZ hH u2) yf
  have hM:V[(a0-1).toNat]? =some xb.ac:=by rw [hV];exact fy x4
  have yi:fD ns a0=xb.kids:=by unfold fD;rw [x4]
  have ai:=(hs xb (zqd x4))
  obtain⟨b0,b1,⟨b2,b3,b4,b5,b6,b7,b8,b9,yn,yo,yp,⟨yq,yr⟩,⟨ys,yt⟩,⟨yu,yv⟩,⟨yw,yx⟩,⟨yy,yz⟩,⟨yA,yB⟩,⟨yC,yD⟩,yE,⟨⟨yF,yG⟩,⟨yH,yI⟩,⟨yJ,yK⟩,⟨yL,yM⟩,⟨yN,yO⟩,⟨yP,yQ⟩⟩,⟨⟨yR,yS⟩,⟨yT,yU⟩,⟨yV,yW⟩,⟨yX,yY⟩,⟨yZ,y0⟩,⟨y1,y2⟩⟩,⟨y3,y4,y5,y6⟩,⟨y7,y8,y9,za⟩,zb,zc⟩,zd,⟨x9⟩⟩:=xb
  obtain⟨ax,ap,-⟩:=ai
  simp only at yi
  replace hM:V[(a0-1).toNat]? =some [.J b0,.view (vw ak b1),.J b2,.J b3,.J b4,.J b5,.J b6,.J b7,.B b8,.B b9,.J yn,.J yo,.J yp,.J yq,.J yr,.J ys,.J yt,.J yu,.J yv,.J yw,.J yx,.J yy,.J yz,.J yA,.J yB,.J yC,.J yD,.J yE,.J yF,.J yG,.J yH,.J yI,.J yJ,.J yK,.J yL,.J yM,.J yN,.J yO,.J yP,.J yQ,.J yR,.J yS,.J yT,.J yU,.J yV,.J yW,.J yX,.J yY,.J yZ,.J y0,.J y1,.J y2,.J y3,.J y4,.J y5,.J y6,.J y7,.J y8,.J y9,.J za,.J zb,.J zc,.B zd,.view (vw aK.c x9)]:=hM
  obtain⟨Cn,yd⟩:=nmE (cnt b1 n)
  have yc:C=decide (Cn=1):=by rw [hC,uk,yi,yd];simp [hu]
  obtain⟨hm,hG⟩:=nmE (vw ak b1)
  obtain⟨yl,hK⟩:=nmE (vw aK.c x9)
  have am:=mX hG
  have ao:0<=aC hm:=by omega
  have av:aC hm<=1048576:=by omega
  have xY:∀z:Int,aC hm<=z->uz (fun k=>if k=n then 1 else 0) b1 z.toNat=Cn:=fun z hz=>by rw [yd];exact l9 _ (by omega)
  rw [<-hG,<-hK]at hM
  cbv
  rw [eu]
  cbv
  (first|refine ad hg (d4 V a0 u1 yj hM) ?_|refine aa hg (d4 V a0 u1 yj hM) ?_)
  cbv
  refine bV hg aB (by kernel_rfl) (fun s:Int×Int=>[(1,.p 0),(4,.p 1),(5,.i n),(8,.i s.2),(16,.v V),(17,.i (g .ln V)),(18,.i z),(63,.v hm),(64,.i (g .ln hm)),(65,.i s.1)]) (fun _=>[.bx 28 1 [.view V],.bx 69 64 [.J a0,.view hf,.J a2,.J a3,.J a4,.J a5,.J a6,.J a7,.B a8,.B a9,.J hT,.J hU,.J hW,.J hX,.J hY,.J hZ,.J h3,.J h4,.J h5,.J h6,.J h7,.J h8,.J h9,.J xa,.J xc,.J xd,.J xe,.J xf,.J xg,.J xh,.J xi,.J xj,.J xk,.J xl,.J xm,.J xn,.J xo,.J xp,.J xq,.J xr,.J xt,.J xu,.J xv,.J xw,.J xx,.J xy,.J xz,.J xA,.J xB,.J xC,.J xD,.J xE,.J xF,.J xG,.J xH,.J xI,.J xJ,.J xK,.J xL,.J xM,.J xN,.J xO,.B hr,.view hh]]) (fun s=>0<=s.1/\s.1<=aC hm/\0<=s.2/\s.2<=s.1/\s.2=uz (fun k=>if k=n then 1 else 0) b1 s.1.toNat) (fun s=>(aC hm).toNat-s.1.toNat)
   (0,0) [some 0,some 1] ⟨Int.le_refl 0,ao,Int.le_refl 0,Int.le_refl 0,(j7 _ _).symm⟩ (wkS [0,1] (by decide) ⟨⟨_,rfl,rfl,rfl⟩,⟨_,rfl,rfl,rfl⟩,trivial⟩ ⟨rfl,rfl,rfl,rfl,rfl,rfl,rfl,rfl,rfl,rfl,trivial⟩) (fun s B3 x3 yb=> ?_)
  obtain⟨i,d⟩:=s
  obtain⟨q0,q1,q2,q3,q4⟩:=x3
  simp only at q0 q1 q2 q3 q4
  cbv
  cases hq:g .q .lss i (g .ln hm)
  case true=>
   rw [bF hg,bO hg,zqp]at hq
   cbv
   obtain⟨y,hy⟩:=ub (xs:=b1) q0 (gc am hq)
   have x5:hm[i.toNat]? =some (lc (ak y)):=by rw [hG];exact bv hy
   have hP:=j8 (fun k:Int=>if k=n then(1:Int)else 0) hy
   have e3:g .w .add .i64 i 1=i+1:=by rw [aJ hg,az _ (by omega)]
   refine goX hg _ q0 x5 rfl ?_
   cbv
   cases he:g .q .eql y n
   ·have xZ:y≠n:=by rw [bA hg]at he;simpa using he
    simp only [if_neg xZ]at hP
    cbv
    rw [e3]
    exact gA yb (i+1,d) [some 0,some 1] (wkS [0,1] (by decide) ⟨⟨_,rfl,rfl,rfl⟩,⟨_,rfl,rfl,rfl⟩,trivial⟩ ⟨rfl,rfl,rfl,rfl,rfl,rfl,rfl,rfl,rfl,rfl,trivial⟩) ⟨by simp only;omega,by simp only;omega,q2,by simp only;omega,by simp only;rw [show(i+1).toNat=i.toNat+1 by omega,hP];omega⟩ (by show(aC hm).toNat-(i+1).toNat<(aC hm).toNat-i.toNat;omega)
   ·have xZ:y=n:=by rw [bA hg]at he;simpa using he
    simp only [if_pos xZ]at hP
    have e4:g .w .add .i64 d 1=d+1:=by rw [aJ hg,az _ (by omega)]
    cbv
    rw [e3,e4]
    exact gA yb (i+1,d+1) [some 0,some 1] (wkS [0,1] (by decide) ⟨⟨_,rfl,rfl,rfl⟩,⟨_,rfl,rfl,rfl⟩,trivial⟩ ⟨rfl,rfl,rfl,rfl,rfl,rfl,rfl,rfl,rfl,rfl,trivial⟩) ⟨by simp only;omega,by simp only;omega,by simp only;omega,by simp only;omega,by simp only;rw [show(i+1).toNat=i.toNat+1 by omega,hP];omega⟩ (by show(aC hm).toNat-(i+1).toNat<(aC hm).toNat-i.toNat;omega)
  rw [bF hg,bO hg,zqo]at hq
  have ag:d=Cn:=by rw [q4,xY i (by omega)]
  subst ag
  cbv
  cases hcn:g .q .neq d 1
  case true=>
   rw [d5 hg,bne_iff_ne]at hcn
   have z9:C=false:=by rw [yc];simpa using hcn
   cbv
   exact aY hF (ho (by rw [ha,z9];simp)).symm
  rw [d5 hg,zqq]at hcn
  have xS:C=true:=by rw [yc,hcn];rfl
  cbv
  replace ha:OK=E:=by rw [ha,xS,ye];simp
  cases hr
  ·replace hd:E= !(decide (0<aC hh)):=by rw [hd];simp
   cbv
   cases ht:g .q .gtr (g .ln hh) 0
   case true=>
    rw [dD hg,bO hg,zqp]at ht
    cbv
    exact aY hF (ho (by rw [ha,hd];simpa using ht)).symm
   rw [dD hg,bO hg,zqo]at ht
   have hj:OK=true:=by rw [ha,hd];simpa using ht
   cbv
   rw [e1,hn]
   exact gA hB (z+1) [some 0] (wkS [0] (by decide) ⟨⟨_,rfl,rfl,rfl⟩,trivial⟩ zr4) ⟨by omega,by omega,fun i y hi hy=>hO i y hi hy hj⟩ (by omega)
  ·replace hd:E= !(!TK||decide (0<aC hf)):=by rw [hd];simp
   cbv
   (first|refine ad hg cT ?_|refine aa hg cT ?_)
   cases TK
   case false=>
    cbv
    exact aY hF (ho (by rw [ha,hd];rfl)).symm
   cbv
   cases ht:g .q .gtr (g .ln hf) 0
   case true=>
    rw [dD hg,bO hg,zqp]at ht
    cbv
    exact aY hF (ho (by rw [ha,hd];simpa using ht)).symm
   rw [dD hg,bO hg,zqo]at ht
   have hj:OK=true:=by rw [ha,hd];simpa using ht
   cbv
   rw [e1,hn]
   exact gA hB (z+1) [some 0] (wkS [0] (by decide) ⟨⟨_,rfl,rfl,rfl⟩,trivial⟩ zr4) ⟨by omega,by omega,fun i y hi hy=>hO i y hi hy hj⟩ (by omega)
theorem gB(ns:List af)(hl:ns.length<=1048576)(hs:∀y∈ns,y.small):PC0 34 [.agg [.view (vwA af.ac ns)]] (.t (abl (aV ns))):=by
 obtain⟨V,hV⟩:=nmE (vwA af.ac ns)
 have hG:aC V=(ns.length:Int):=by rw [ar,hV,bi]
 have z3:0<=aC V:=by omega
 have yV:aC V<=1048576:=by omega
 have hP:∀n,isN ns n=rng n 1 (aC V):=fun n=>by rw [hG];rfl
 have cD:=fun n=>nU ns n hl
 obtain⟨R,hR⟩:=nmE (aV ns)
 rw [<-hR]
 rw [<-hV]at cD⊢
 refine ae (aM f34) aB func34 fun g F hg hF=> ?_
 cbv
 cases h12:g .q .gtr (g .ln V) 12
 case true=>
  rw [dD hg,bO hg,zqp]at h12
  cbv
  exact aY hF (by rw [hR,sV hG (by omega)])
 rw [dD hg,bO hg,zqo]at h12
 cbv
 refine bV hg aB (by kernel_rfl) (fun z:Int=>[(1,.p 0),(3,.i z)]) (fun _=>[.bx 28 1 [.view V]]) (fun z=>0<=z/\z<=aC V/\∀(i:Nat)(x:af),i<z.toNat->ns[i]? =some x->bP ns ((i:Int)+1) x=true) (fun z=>(aC V).toNat-z.toNat)
  0 [some 0] ⟨Int.le_refl 0,z3,fun i x hi=>by simp at hi⟩ (wkS [0] (by decide) ⟨⟨_,rfl,rfl,rfl⟩,trivial⟩ zr2) (fun z B z6 hB=> ?_)
 obtain⟨h0,h1,h2⟩:=z6
 cbv
 cases hc:g .q .lss z (g .ln V)
 ·rw [bF hg,bO hg,zqo]at hc
  cbv
  exact aY hF (by rw [hR,sU hG (by omega) (by omega) h2])
 rw [bF hg,bO hg,zqp]at hc
 cbv
 obtain⟨x,hx⟩:=ub (xs:=ns) h0 (gc hG hc)
 have hY:V[z.toNat]? =some x.ac:=by rw [hV];exact fy hx
 have z8:=hs x (zqd hx)
 have hj:bP ns (z+1) x=false->R=false:=fun h=>by rw [hR];exact vz h0 hx h
 have y3:=zj hG h0 hc
 have y2:=C9 hx
 obtain⟨n,hn⟩:=nmE (z+1)
 rw [<-hn]at hj y3 y2
 obtain⟨OK,yT⟩:=nmE (bP ns n x)
 have ha:=yT
 rw [bP]at ha
 rw [<-yT]at hj
 obtain⟨A,hA⟩:=nmE (vJ x.style)
 obtain⟨Dp,yR⟩:=nmE (jn ns n)
 obtain⟨Bd,yP⟩:=nmE (rng Dp 1 4)
 obtain⟨C,hC⟩:=nmE (uk ns n x.up)
 obtain⟨D,hD⟩:=nmE (x.kids.all (dY ns n))
 obtain⟨E,hE⟩:=nmE (Dd x)
 have hX:Bd=true->x.up≠0->isN ns x.up=true:=fun hb hu=>zD (by omega) y3 y2 (by rw [<-yR,<-yP];exact hb) hu
 rw [<-hA,<-yR,<-yP,<-hC,<-hD,<-hE]at ha
 have cA:=jt x.style
 have yN:=cD n
 have cB:=bm Dp 1 4
 have cT:=nS x.table.rules
 rw [<-hA]at cA
 rw [<-yR]at yN
 rw [<-yP]at cB
 have hW:∀(i:Nat)(y:af),i<(z+1).toNat->ns[i]? =some y->OK=true->bP ns ((i:Int)+1) y=true:=fun i y hi hy hk=>by
  by_cases hr:i<z.toNat
  ·exact h2 i y hr hy
  ·obtain rfl:i=z.toNat:=by omega
   rw [hx]at hy
   cases hy
   rw [show((z.toNat:Nat):Int)+1=n by omega,<-yT];exact hk
 obtain⟨a0,a1,⟨a2,a3,a4,a5,a6,a7,a8,a9,h3,h4,h5,⟨h6,h7⟩,⟨h8,h9⟩,⟨xa,xc⟩,⟨xd,xe⟩,⟨xf,xg⟩,⟨xh,xi⟩,⟨xj,xk⟩,xl,⟨⟨xm,xn⟩,⟨xo,xp⟩,⟨xq,xr⟩,⟨xt,xu⟩,⟨xv,xw⟩,⟨xx,xy⟩⟩,⟨⟨xz,xA⟩,⟨xB,xC⟩,⟨xD,xE⟩,⟨xF,xG⟩,⟨xH,xI⟩,⟨xJ,xK⟩⟩,⟨xL,xM,xN,xO⟩,⟨xP,xQ,xR,xS⟩,xT,xU⟩,hH,⟨xV⟩⟩:=x
 obtain⟨ai,yY,-⟩:=z8
 replace cT:=cT yY
 simp only at hX hC hD hE cA cT
 replace hY:V[z.toNat]? =some [.J a0,.view (vw ak a1),.J a2,.J a3,.J a4,.J a5,.J a6,.J a7,.B a8,.B a9,.J h3,.J h4,.J h5,.J h6,.J h7,.J h8,.J h9,.J xa,.J xc,.J xd,.J xe,.J xf,.J xg,.J xh,.J xi,.J xj,.J xk,.J xl,.J xm,.J xn,.J xo,.J xp,.J xq,.J xr,.J xt,.J xu,.J xv,.J xw,.J xx,.J xy,.J xz,.J xA,.J xB,.J xC,.J xD,.J xE,.J xF,.J xG,.J xH,.J xI,.J xJ,.J xK,.J xL,.J xM,.J xN,.J xO,.J xP,.J xQ,.J xR,.J xS,.J xT,.J xU,.B hH,.view (vw aK.c xV)]:=hY
 obtain⟨TK,yU⟩:=nmE (z7 xV)
 rw [<-yU]at cT
 obtain⟨he,hz⟩:=nmE (vw ak a1)
 obtain⟨hf,ho⟩:=nmE (vw aK.c xV)
 have hU:=mX hz
 have yX:=mX ho
 have y6:0<=aC he:=by omega
 have ah:aC he<=1048576:=by omega
 rw [<-hz,<-ho]at hY
 rw [<-ho]at cT
 have e1:g .w .add .i64 z 1=n:=by rw [aJ hg,az _ (by omega),hn]
 refine goX hg _ h0 hY rfl ?_
 cbv
 (first|refine ad hg cA ?_|refine aa hg cA ?_)
 cases A
 case false=>
  cbv
  exact aY hF (hj ha).symm
 cbv
 rw [e1]
 (first|refine ad hg yN ?_|refine aa hg yN ?_)
 cbv
 (first|refine ad hg cB ?_|refine aa hg cB ?_)
 cases Bd
 case false=>
  cbv
  exact aY hF (hj (by rw [ha];rfl)).symm
 replace hX:=hX rfl
 have hd:E= !((hH&&(!TK||decide (0<aC he)))||(!hH&&decide (0<aC hf))):=by rw [hE,yU,hU,yX];rfl
 clear hE yU
 by_cases hu:a0=0
 ·have yQ:C=true:=by rw [hC,uk,hu];rfl
  have eu:g .q .neq a0 0=false:=by rw [d5 hg];simpa using hu
  cbv
  rw [eu]
  cbv
  refine bV hg aB (by kernel_rfl) (fun j:Int=>[(1,.p 0),(3,.i z),(4,.p 1),(5,.i j)]) (fun _=>[.bx 28 1 [.view V],.bx 69 64 [.J a0,.view he,.J a2,.J a3,.J a4,.J a5,.J a6,.J a7,.B a8,.B a9,.J h3,.J h4,.J h5,.J h6,.J h7,.J h8,.J h9,.J xa,.J xc,.J xd,.J xe,.J xf,.J xg,.J xh,.J xi,.J xj,.J xk,.J xl,.J xm,.J xn,.J xo,.J xp,.J xq,.J xr,.J xt,.J xu,.J xv,.J xw,.J xx,.J xy,.J xz,.J xA,.J xB,.J xC,.J xD,.J xE,.J xF,.J xG,.J xH,.J xI,.J xJ,.J xK,.J xL,.J xM,.J xN,.J xO,.J xP,.J xQ,.J xR,.J xS,.J xT,.J xU,.B hH,.view hf]]) (fun j:Int=>0<=j/\j<=aC he/\∀(i:Nat)(v:Int),i<j.toNat->a1[i]? =some v->dY ns n v=true) (fun j=>(aC he).toNat-j.toNat)
   0 [some 0,some 1] ⟨Int.le_refl 0,y6,fun i v hi=>by simp at hi⟩ (wkS [0,1] (by decide) ⟨⟨_,rfl,rfl,rfl⟩,⟨_,rfl,rfl,rfl⟩,trivial⟩ zr4) (fun j B2 hL yO=> ?_)
  obtain⟨k0,k1,k2⟩:=hL
  cbv
  cases hk:g .q .lss j (g .ln he)
  ·rw [bF hg,bO hg,zqo]at hk
   have yS:D=true:=by rw [hD];exact sk hU (by omega) k2
   replace ha:OK=E:=by rw [ha,yQ,yS];simp
   cases hH
   ·replace hd:E= !(decide (0<aC hf)):=by rw [hd];simp
    cbv
    cases ht:g .q .gtr (g .ln hf) 0
    case true=>
     rw [dD hg,bO hg,zqp]at ht
     cbv
     exact aY hF (hj (by rw [ha,hd];simpa using ht)).symm
    rw [dD hg,bO hg,zqo]at ht
    have hh:OK=true:=by rw [ha,hd];simpa using ht
    cbv
    rw [e1,hn]
    exact gA hB (z+1) [some 0] (wkS [0] (by decide) ⟨⟨_,rfl,rfl,rfl⟩,trivial⟩ zr2) ⟨by omega,by omega,fun i y hi hy=>hW i y hi hy hh⟩ (by omega)
   ·replace hd:E= !(!TK||decide (0<aC he)):=by rw [hd];simp
    cbv
    (first|refine ad hg cT ?_|refine aa hg cT ?_)
    cases TK
    case false=>
     cbv
     exact aY hF (hj (by rw [ha,hd];rfl)).symm
    cbv
    cases ht:g .q .gtr (g .ln he) 0
    case true=>
     rw [dD hg,bO hg,zqp]at ht
     cbv
     exact aY hF (hj (by rw [ha,hd];simpa using ht)).symm
    rw [dD hg,bO hg,zqo]at ht
    have hh:OK=true:=by rw [ha,hd];simpa using ht
    cbv
    rw [e1,hn]
    exact gA hB (z+1) [some 0] (wkS [0] (by decide) ⟨⟨_,rfl,rfl,rfl⟩,trivial⟩ zr2) ⟨by omega,by omega,fun i y hi hy=>hW i y hi hy hh⟩ (by omega)
  rw [bF hg,bO hg,zqp]at hk
  cbv
  obtain⟨y,hy⟩:=ub (xs:=a1) k0 (gc hU hk)
  have hT:he[j.toNat]? =some (lc (ak y)):=by rw [hz];exact bv hy
  have ci:=dz V y
  rw [<-hP y]at ci
  refine goX hg _ k0 hT rfl ?_
  cbv
  cases hik:isN ns y
  ·rw [hik]at ci
   have hI:D=false:=by rw [hD];exact lg hy (by rw [dY,hik];rfl)
   (first|refine ad hg ci ?_|refine aa hg ci ?_)
   cbv
   exact aY hF (hj (by rw [ha,hI];simp)).symm
  rw [hik]at ci
  (first|refine ad hg ci ?_|refine aa hg ci ?_)
  obtain⟨i1,i2,x,hQ⟩:=aI hik
  have hr:y<=1048576:=Int.le_trans (mZ hG i2) yV
  have hw:V[(y-1).toNat]? =some x.ac:=by rw [hV];exact fy hQ
  have hm:=lx hQ
  obtain⟨c0,c1,⟨c2,c3,c4,c5,c6,c7,c8,c9,xW,xX,xY,⟨xZ,x0⟩,⟨x1,x2⟩,⟨x3,x4⟩,⟨x5,x6⟩,⟨x7,x8⟩,⟨x9,ya⟩,⟨yb,yc⟩,yd,⟨⟨ye,yf⟩,⟨yg,yh⟩,⟨yi,yj⟩,⟨yk,yl⟩,⟨ym,yn⟩,⟨yo,yp⟩⟩,⟨⟨yq,yr⟩,⟨ys,yt⟩,⟨yu,yv⟩,⟨yw,yx⟩,⟨yy,yz⟩,⟨yA,yB⟩⟩,⟨yC,yD,yE,yF⟩,⟨yG,yH,yI,yJ⟩,yK,yL⟩,yM,⟨hM⟩⟩:=x
  simp only at hm
  replace hw:V[(y-1).toNat]? =some [.J c0,.view (vw ak c1),.J c2,.J c3,.J c4,.J c5,.J c6,.J c7,.B c8,.B c9,.J xW,.J xX,.J xY,.J xZ,.J x0,.J x1,.J x2,.J x3,.J x4,.J x5,.J x6,.J x7,.J x8,.J x9,.J ya,.J yb,.J yc,.J yd,.J ye,.J yf,.J yg,.J yh,.J yi,.J yj,.J yk,.J yl,.J ym,.J yn,.J yo,.J yp,.J yq,.J yr,.J ys,.J yt,.J yu,.J yv,.J yw,.J yx,.J yy,.J yz,.J yA,.J yB,.J yC,.J yD,.J yE,.J yF,.J yG,.J yH,.J yI,.J yJ,.J yK,.J yL,.B yM,.view (vw aK.c hM)]:=hw
  obtain⟨y8,hJ⟩:=nmE (vw ak c1)
  obtain⟨hZ,hp⟩:=nmE (vw aK.c hM)
  rw [<-hJ,<-hp]at hw
  cbv
  refine goX hg _ k0 hT rfl ?_
  cbv
  (first|refine ad hg (bz V y i1 hr hw) ?_|refine aa hg (bz V y i1 hr hw) ?_)
  cbv
  rw [e1]
  cases hq:g .q .neq c0 n
  case true=>
   rw [d5 hg,bne_iff_ne]at hq
   have hI:D=false:=by rw [hD];exact lg hy (by rw [dY,hik,hm];simpa using hq)
   cbv
   exact aY hF (hj (by rw [ha,hI];simp)).symm
  rw [d5 hg,zqq]at hq
  have hK:dY ns n y=true:=by rw [dY,hik,hm];simpa using hq
  cbv
  have e3:g .w .add .i64 j 1=j+1:=by rw [aJ hg,az _ (by omega)]
  rw [e3]
  exact gA yO (j+1) [some 0,some 1] (wkS [0,1] (by decide) ⟨⟨_,rfl,rfl,rfl⟩,⟨_,rfl,rfl,rfl⟩,trivial⟩ zr4) ⟨by omega,by omega,fun i v hi hv=>by
   by_cases hr:i<j.toNat
   ·exact k2 i v hr hv
   ·obtain rfl:i=j.toNat:=by omega
    rw [hy]at hv
    cases hv
    exact hK⟩ (by omega)
 ·have eu:g .q .neq a0 0=true:=by rw [d5 hg];simpa using hu
  have z4:=hX hu
  obtain⟨u1,u2,xb,yW⟩:=aI z4
  have y5:a0<=1048576:=Int.le_trans (mZ hG u2) yV
  have hS:V[(a0-1).toNat]? =some xb.ac:=by rw [hV];exact fy yW
  have y4:fD ns a0=xb.kids:=by unfold fD;rw [yW]
  have z5:=(hs xb (zqd yW))
  obtain⟨b0,b1,⟨b2,b3,b4,b5,b6,b7,b8,b9,y9,za,zb,⟨zc,zd⟩,⟨ze,zf⟩,⟨zg,zh⟩,⟨zi,zk⟩,⟨zl,zm⟩,⟨zn,zo⟩,⟨zp,zq⟩,zr,⟨⟨zs,zt⟩,⟨zu,zv⟩,⟨zw,zx⟩,⟨zy,zz⟩,⟨zA,zB⟩,⟨zC,zE⟩⟩,⟨⟨zF,zG⟩,⟨zH,zI⟩,⟨zJ,zK⟩,⟨zL,zM⟩,⟨zN,zO⟩,⟨zP,zQ⟩⟩,⟨zR,zS,zT,zU⟩,⟨zV,zW,zX,zY⟩,zZ,z0⟩,z1,⟨yZ⟩⟩:=xb
  obtain⟨z9,ab,-⟩:=z5
  simp only at y4
  replace hS:V[(a0-1).toNat]? =some [.J b0,.view (vw ak b1),.J b2,.J b3,.J b4,.J b5,.J b6,.J b7,.B b8,.B b9,.J y9,.J za,.J zb,.J zc,.J zd,.J ze,.J zf,.J zg,.J zh,.J zi,.J zk,.J zl,.J zm,.J zn,.J zo,.J zp,.J zq,.J zr,.J zs,.J zt,.J zu,.J zv,.J zw,.J zx,.J zy,.J zz,.J zA,.J zB,.J zC,.J zE,.J zF,.J zG,.J zH,.J zI,.J zJ,.J zK,.J zL,.J zM,.J zN,.J zO,.J zP,.J zQ,.J zR,.J zS,.J zT,.J zU,.J zV,.J zW,.J zX,.J zY,.J zZ,.J z0,.B z1,.view (vw aK.c yZ)]:=hS
  have cH:=po b1 n z9
  obtain⟨Cn,y1⟩:=nmE (cnt b1 n)
  have y0:C=decide (Cn=1):=by rw [hC,uk,y4,y1];simp [hu]
  rw [<-y1]at cH
  obtain⟨ag,hN⟩:=nmE (vw ak b1)
  obtain⟨y7,hO⟩:=nmE (vw aK.c yZ)
  rw [<-hN,<-hO]at hS
  rw [<-hN]at cH
  cbv
  rw [eu]
  cbv
  (first|refine ad hg (bz V a0 u1 y5 hS) ?_|refine aa hg (bz V a0 u1 y5 hS) ?_)
  cbv
  rw [e1]
  (first|refine ad hg cH ?_|refine aa hg cH ?_)
  cbv
  cases hcn:g .q .neq Cn 1
  case true=>
   rw [d5 hg,bne_iff_ne]at hcn
   have z2:C=false:=by rw [y0];simpa using hcn
   cbv
   exact aY hF (hj (by rw [ha,z2];simp)).symm
  rw [d5 hg,zqq]at hcn
  have yQ:C=true:=by rw [y0,hcn];rfl
  cbv
  refine bV hg aB (by kernel_rfl) (fun j:Int=>[(1,.p 0),(3,.i z),(4,.p 1),(5,.i j)]) (fun _=>[.bx 28 1 [.view V],.bx 69 64 [.J a0,.view he,.J a2,.J a3,.J a4,.J a5,.J a6,.J a7,.B a8,.B a9,.J h3,.J h4,.J h5,.J h6,.J h7,.J h8,.J h9,.J xa,.J xc,.J xd,.J xe,.J xf,.J xg,.J xh,.J xi,.J xj,.J xk,.J xl,.J xm,.J xn,.J xo,.J xp,.J xq,.J xr,.J xt,.J xu,.J xv,.J xw,.J xx,.J xy,.J xz,.J xA,.J xB,.J xC,.J xD,.J xE,.J xF,.J xG,.J xH,.J xI,.J xJ,.J xK,.J xL,.J xM,.J xN,.J xO,.J xP,.J xQ,.J xR,.J xS,.J xT,.J xU,.B hH,.view hf]]) (fun j:Int=>0<=j/\j<=aC he/\∀(i:Nat)(v:Int),i<j.toNat->a1[i]? =some v->dY ns n v=true) (fun j=>(aC he).toNat-j.toNat)
   0 [some 0,some 1] ⟨Int.le_refl 0,y6,fun i v hi=>by simp at hi⟩ (wkS [0,1] (by decide) ⟨⟨_,rfl,rfl,rfl⟩,⟨_,rfl,rfl,rfl⟩,trivial⟩ zr4) (fun j B2 hL yO=> ?_)
  obtain⟨k0,k1,k2⟩:=hL
  cbv
  cases hk:g .q .lss j (g .ln he)
  ·rw [bF hg,bO hg,zqo]at hk
   have yS:D=true:=by rw [hD];exact sk hU (by omega) k2
   replace ha:OK=E:=by rw [ha,yQ,yS];simp
   cases hH
   ·replace hd:E= !(decide (0<aC hf)):=by rw [hd];simp
    cbv
    cases ht:g .q .gtr (g .ln hf) 0
    case true=>
     rw [dD hg,bO hg,zqp]at ht
     cbv
     exact aY hF (hj (by rw [ha,hd];simpa using ht)).symm
    rw [dD hg,bO hg,zqo]at ht
    have hh:OK=true:=by rw [ha,hd];simpa using ht
    cbv
    rw [e1,hn]
    exact gA hB (z+1) [some 0] (wkS [0] (by decide) ⟨⟨_,rfl,rfl,rfl⟩,trivial⟩ zr2) ⟨by omega,by omega,fun i y hi hy=>hW i y hi hy hh⟩ (by omega)
   ·replace hd:E= !(!TK||decide (0<aC he)):=by rw [hd];simp
    cbv
    (first|refine ad hg cT ?_|refine aa hg cT ?_)
    cases TK
    case false=>
     cbv
     exact aY hF (hj (by rw [ha,hd];rfl)).symm
    cbv
    cases ht:g .q .gtr (g .ln he) 0
    case true=>
     rw [dD hg,bO hg,zqp]at ht
     cbv
     exact aY hF (hj (by rw [ha,hd];simpa using ht)).symm
    rw [dD hg,bO hg,zqo]at ht
    have hh:OK=true:=by rw [ha,hd];simpa using ht
    cbv
    rw [e1,hn]
    exact gA hB (z+1) [some 0] (wkS [0] (by decide) ⟨⟨_,rfl,rfl,rfl⟩,trivial⟩ zr2) ⟨by omega,by omega,fun i y hi hy=>hW i y hi hy hh⟩ (by omega)
  rw [bF hg,bO hg,zqp]at hk
  cbv
  obtain⟨y,hy⟩:=ub (xs:=a1) k0 (gc hU hk)
  have hT:he[j.toNat]? =some (lc (ak y)):=by rw [hz];exact bv hy
  have ci:=dz V y
  rw [<-hP y]at ci
  refine goX hg _ k0 hT rfl ?_
  cbv
  cases hik:isN ns y
  ·rw [hik]at ci
   have hI:D=false:=by rw [hD];exact lg hy (by rw [dY,hik];rfl)
   (first|refine ad hg ci ?_|refine aa hg ci ?_)
   cbv
   exact aY hF (hj (by rw [ha,hI];simp)).symm
  rw [hik]at ci
  (first|refine ad hg ci ?_|refine aa hg ci ?_)
  obtain⟨i1,i2,x,hQ⟩:=aI hik
  have hr:y<=1048576:=Int.le_trans (mZ hG i2) yV
  have hw:V[(y-1).toNat]? =some x.ac:=by rw [hV];exact fy hQ
  have hm:=lx hQ
  obtain⟨c0,c1,⟨c2,c3,c4,c5,c6,c7,c8,c9,xW,xX,xY,⟨xZ,x0⟩,⟨x1,x2⟩,⟨x3,x4⟩,⟨x5,x6⟩,⟨x7,x8⟩,⟨x9,ya⟩,⟨yb,yc⟩,yd,⟨⟨ye,yf⟩,⟨yg,yh⟩,⟨yi,yj⟩,⟨yk,yl⟩,⟨ym,yn⟩,⟨yo,yp⟩⟩,⟨⟨yq,yr⟩,⟨ys,yt⟩,⟨yu,yv⟩,⟨yw,yx⟩,⟨yy,yz⟩,⟨yA,yB⟩⟩,⟨yC,yD,yE,yF⟩,⟨yG,yH,yI,yJ⟩,yK,yL⟩,yM,⟨hM⟩⟩:=x
  simp only at hm
  replace hw:V[(y-1).toNat]? =some [.J c0,.view (vw ak c1),.J c2,.J c3,.J c4,.J c5,.J c6,.J c7,.B c8,.B c9,.J xW,.J xX,.J xY,.J xZ,.J x0,.J x1,.J x2,.J x3,.J x4,.J x5,.J x6,.J x7,.J x8,.J x9,.J ya,.J yb,.J yc,.J yd,.J ye,.J yf,.J yg,.J yh,.J yi,.J yj,.J yk,.J yl,.J ym,.J yn,.J yo,.J yp,.J yq,.J yr,.J ys,.J yt,.J yu,.J yv,.J yw,.J yx,.J yy,.J yz,.J yA,.J yB,.J yC,.J yD,.J yE,.J yF,.J yG,.J yH,.J yI,.J yJ,.J yK,.J yL,.B yM,.view (vw aK.c hM)]:=hw
  obtain⟨y8,hJ⟩:=nmE (vw ak c1)
  obtain⟨hZ,hp⟩:=nmE (vw aK.c hM)
  rw [<-hJ,<-hp]at hw
  cbv
  refine goX hg _ k0 hT rfl ?_
  cbv
  (first|refine ad hg (bz V y i1 hr hw) ?_|refine aa hg (bz V y i1 hr hw) ?_)
  cbv
  rw [e1]
  cases hq:g .q .neq c0 n
  case true=>
   rw [d5 hg,bne_iff_ne]at hq
   have hI:D=false:=by rw [hD];exact lg hy (by rw [dY,hik,hm];simpa using hq)
   cbv
   exact aY hF (hj (by rw [ha,hI];simp)).symm
  rw [d5 hg,zqq]at hq
  have hK:dY ns n y=true:=by rw [dY,hik,hm];simpa using hq
  cbv
  have e3:g .w .add .i64 j 1=j+1:=by rw [aJ hg,az _ (by omega)]
  rw [e3]
  exact gA yO (j+1) [some 0,some 1] (wkS [0,1] (by decide) ⟨⟨_,rfl,rfl,rfl⟩,⟨_,rfl,rfl,rfl⟩,trivial⟩ zr4) ⟨by omega,by omega,fun i v hi hv=>by
   by_cases hr:i<j.toNat
   ·exact k2 i v hr hv
   ·obtain rfl:i=j.toNat:=by omega
    rw [hy]at hv
    cases hv
    exact hK⟩ (by omega)
def frF(n:Int):List ag->ag×Bool
 | []=>(⟨0,0,0,0,0⟩,false)
 |f::fs=>if f.node=n then(f,true)else frF n fs
theorem jx(xs:List ag)(hl:xs.length<=1048576)(n:Int):PC0 45 [.c (.view (vw ag.c xs)),ai n] (.tup [.agg [.imm (.int .i64 (frF n xs).1.node),.imm (.int .i64 (frF n xs).1.x),.imm (.int .i64 (frF n xs).1.y),.imm (.int .i64 (frF n xs).1.wide),.imm (.int .i64 (frF n xs).1.high)],.c (.imm (.bool (frF n xs).2))]):=by
 obtain⟨r,hr⟩:=nmE (frF n xs)
 rw [<-hr]
 obtain⟨⟨r0,r1,r2,r3,r4⟩,t⟩:=r
 simp only
 obtain⟨V,hV⟩:=nmE (vw ag.c xs)
 have ha:=lmV hV
 have iV:=imV hV
 have kV:=kmV (k:=5) hV fun _=>rfl
 have dV:=dmV hV
 rw [<-hV]
 refine ae (aM f45) aB func45 fun g F hg hF=> ?_
 cbv
 refine aU hg aB (by kernel_rfl) V (fun x=>lc (ag.c x)) xs hV hl (fun z(s:Unit)=>[(1,.i (n)),(4,.p 0),(5,.t (abl (false))),(8,.v V),(9,.i (g .ln V)),(10,.i (z))]) (fun z(s:Unit)=>[.bx 45 5 [.J 0,.J 0,.J 0,.J 0,.J 0]]) (fun z(s:Unit)=>True) (fun(s:Unit) rest=>frF n rest) (((⟨r0,r1,r2,r3,r4⟩:ag),t)) () hr.symm trivial (Wk.weak (wkG [some _] zr6 ⟨wqE rfl rfl,trivial⟩ (by decide) aw)) (fun z s B hz h0 hi he=> ?_) (fun z s x rest B z0 z1 z2 hx hy h0 hi hc e1 hB=> ?_)
 ·cbv
  rw [he]
  cbv
  obtain⟨⟨rfl,rfl,rfl,rfl,rfl⟩,rfl⟩:((0:Int)=r0/\(0:Int)=r1/\(0:Int)=r2/\(0:Int)=r3/\(0:Int)=r4)/\false=t:=by simpa [frF]using h0
  exact mh hF rfl ⟨rfl,rfl⟩
 ·obtain⟨a0,a1,a2,a3,a4⟩:=x
  replace h0:(if a0=n then((⟨a0,a1,a2,a3,a4⟩:ag),true)else frF n rest)=((⟨r0,r1,r2,r3,r4⟩:ag),t):=h0
  cbv;rw [hc];cbv;refine goX hg _ z0 hy rfl ?_;cbv
  cases e:g .q .eql a0 n
  case false=>
   rw [bA hg,zqr]at e
   rw [if_neg e]at h0
   cbv
   rw [e1]
   exact hB (()) _ _ ⟨h0,trivial⟩ (Wk.weak (wkG [some _] zr6 ⟨wqE rfl rfl,trivial⟩ (by decide) aw))
  rw [bA hg,beq_iff_eq]at e
  rw [if_pos e]at h0
  cbv
  obtain⟨⟨rfl,rfl,rfl,rfl,rfl⟩,rfl⟩:(a0=r0/\a1=r1/\a2=r2/\a3=r3/\a4=r4)/\true=t:=by simpa using h0
  exact mh hF rfl ⟨rfl,rfl⟩
end Go.Proofs.YtckchgoblpgpbaaGreat
