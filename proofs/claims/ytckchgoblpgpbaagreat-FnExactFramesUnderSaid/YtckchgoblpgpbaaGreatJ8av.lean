/- Weights, shares, items: contracts. -/
import Derived.Shelf.Lay
import Derived.Ground.GgtProg
import Derived.Test.YtckchgoblpgpbaaGreatJ8au
set_option linter.unusedVariables false
set_option linter.unusedSimpArgs false
set_option maxHeartbeats 16000000
namespace Go.Proofs.YtckchgoblpgpbaaGreat
open Go.ChangeShapes Go.WideShapes Go.ChangeAt Go.RowKit Am Go.Proofs.Tryz
set_option maxRecDepth 100000
theorem wM(ns:List ae)(hl:ns.length<=1048576)(hs:∀y∈ns,y.small):PC0 40 [.agg [.view (vwA ae.ac ns)]] (.t (abl (dl ns))):=by
 obtain⟨V,hV⟩:=nmE (vwA ae.ac ns)
 have hH:aN V=(ns.length:Int):=by rw [ao,hV,bu]
 have xC:0<=aN V:=by omega
 have xo:aN V<=1048576:=by omega
 have h8:∀n,isN ns n=rng n 1 (aN V):=fun n=>by rw [hH];rfl
 have cD:=fun n=>uw ns n hl
 obtain⟨R,hR⟩:=nmE (dl ns)
 rw [<-hR]
 rw [<-hV]at cD⊢
 refine aV func40 fun g F hg hF=> ?_
 cbv
 cases h12:g .q .gtr (g .ln V) 12
 case true=>
  rw [dm hg,bz hg,zqp]at h12
  cbv
  exact bm hF (by rw [hR,Ac hH (by omega)])
 rw [dm hg,bz hg,zqo]at h12
 cbv
 refine bQ hg bq (by kernel_rfl) (fun z:Int=>[(1,.p 0),(16,.v V),(17,.i (g .ln V)),(18,.i z)]) (fun _=>[.bx 28 1 [.view V]]) (fun z=>0<=z/\z<=aN V/\∀(i:Nat)(x:ae),i<z.toNat->ns[i]? =some x->fP ns ((i:Int)+1) x=true) (fun z=>(aN V).toNat-z.toNat)
  0 [some 0] ⟨zpc 0,xC,fun i x hi=>by simp at hi⟩ (wkS [0] (by decide) ⟨⟨_,rfl,rfl,rfl⟩,zpt⟩ zr4) (fun z B xG hB=> ?_)
 obtain⟨h0,h1,h2⟩:=xG
 cbv
 cases hc:g .q .lss z (g .ln V)
 ·rw [ba hg,bz hg,zqo]at hc
  cbv
  exact bm hF (by rw [hR,Ab hH (by omega) (by omega) h2])
 rw [ba hg,bz hg,zqp]at hc
 cbv
 obtain⟨x,hx⟩:=qM (xs:=ns) h0 (ii hH hc)
 have hS:V[z.toNat]? =some x.ac:=by rw [hV];exact iq hx
 have xH:=hs x (zqd hx)
 have ho:fP ns (z+1) x=false->R=false:=fun h=>by rw [hR];exact CG h0 hx h
 have xq:=GB hH h0 hc
 have xp:=JT hx
 obtain⟨n,hn⟩:=nmE (z+1)
 rw [<-hn]at ho xq xp
 obtain⟨OK,h3⟩:=nmE (fP ns n x)
 have ha:=h3
 rw [fP]at ha
 rw [<-h3]at ho
 obtain⟨A,hA⟩:=nmE (CM x.style)
 obtain⟨Dp,hZ⟩:=nmE (qg ns n)
 obtain⟨Bd,hW⟩:=nmE (rng Dp 1 4)
 obtain⟨C,hC⟩:=nmE (Ga ns n x.up)
 obtain⟨D,hD⟩:=nmE (x.kids.all (jR ns n))
 obtain⟨E,hE⟩:=nmE (Kr x)
 have hQ:Bd=true->x.up≠0->isN ns x.up=true:=fun hb hu=>GO (by omega) xq xp (by rw [<-hZ,<-hW];exact hb) hu
 rw [<-hA,<-hZ,<-hW,<-hC,<-hD,<-hE]at ha
 have cA:=um x.style
 have hU:=cD n
 have cB:=bT Dp 1 4
 have cT:=ul x.table.rules
 rw [<-hA]at cA
 rw [<-hZ]at hU
 rw [<-hW]at cB
 have hO:∀(i:Nat)(y:ae),i<(z+1).toNat->ns[i]? =some y->OK=true->fP ns ((i:Int)+1) y=true:=fun i y hi hy hk=>by
  by_cases hJ:i<z.toNat
  ·exact h2 i y hJ hy
  ·obtain rfl:i=z.toNat:=by omega
   rw [hx]at hy
   cases hy
   rw [show((z.toNat:Nat):Int)+1=n by omega,<-h3];exact hk
 obtain⟨a0,a1,sa,hr,⟨hT⟩⟩:=x
 obtain⟨xP,xh,-⟩:=xH
 replace cT:=cT xh
 simp only at hQ hC hD hE cA cT
 replace hS:V[z.toNat]? =some (.J a0:: .view (vw ak a1)::(lc (ah.c sa)++[.B hr,.view (vw aC.c hT)])):=hS
 obtain⟨TK,h4⟩:=nmE (Hf hT)
 rw [<-h4]at cT
 obtain⟨hf,hw⟩:=nmE (vw ak a1)
 obtain⟨hh,hp⟩:=nmE (vw aC.c hT)
 have xf:=sn hw
 have xg:=sn hp
 have xJ:0<=aN hf:=by omega
 have xN:aN hf<=1048576:=by omega
 rw [<-hw,<-hp]at hS
 rw [<-hp]at cT
 have e1:g .w .add .i64 z 1=n:=by rw [aG hg,aq _ (by omega),hn]
 refine goX hg _ h0 hS rfl ?_
 cbv
 rw [e1]
 (first|refine ad hg cA ?_|refine aa hg cA ?_)
 cases A
 case false=>
  cbv
  exact bm hF (ho ha).symm
 cbv
 (first|refine ad hg hU ?_|refine aa hg hU ?_)
 cbv
 (first|refine ad hg cB ?_|refine aa hg cB ?_)
 cases Bd
 case false=>
  cbv
  exact bm hF (ho (by rw [ha];rfl)).symm
 replace hQ:=hQ rfl
 have hd:E= !((hr&&(!TK||decide (0<aN hf)))||(!hr&&decide (0<aN hh))):=by rw [hE,h4,xf,xg];rfl
 clear hE h4
 cbv
 refine bQ hg bq (by kernel_rfl) (fun j:Int=>[(1,.p 0),(4,.p 1),(5,.i n),(16,.v V),(17,.i (g .ln V)),(18,.i z),(37,.v hf),(38,.i (g .ln hf)),(39,.i j)]) (fun _=>[.bx 28 1 [.view V],.bx 69 64 (.J a0:: .view hf::(lc (ah.c sa)++[.B hr,.view hh]))]) (fun j:Int=>0<=j/\j<=aN hf/\∀(i:Nat)(v:Int),i<j.toNat->a1[i]? =some v->jR ns n v=true) (fun j=>(aN hf).toNat-j.toNat)
  0 [some 0,some 1] ⟨zpc 0,xJ,fun i v hi=>by simp at hi⟩ (wkS [0,1] (by decide) ⟨⟨_,rfl,rfl,rfl⟩,⟨_,rfl,rfl,rfl⟩,zpt⟩ zr9) (fun j B2 xa xA=> ?_)
 obtain⟨k0,k1,k2⟩:=xa
 cbv
 cases hk:g .q .lss j (g .ln hf)
 case true=>
  rw [ba hg,bz hg,zqp]at hk
  cbv
  obtain⟨y,hy⟩:=qM (xs:=a1) k0 (ii xf hk)
  have xe:hf[j.toNat]? =some (lc (ak y)):=by rw [hw];exact aZ hy
  have ci:=kx V y
  rw [<-h8 y]at ci
  refine goX hg _ k0 xe rfl ?_
  cbv
  cases hik:isN ns y
  ·rw [hik]at ci
   have hY:D=false:=by rw [hD];exact wF hy (by rw [jR,hik];rfl)
   (first|refine ad hg ci ?_|refine aa hg ci ?_)
   cbv
   exact bm hF (ho (by rw [ha,hY];simp)).symm
  rw [hik]at ci
  (first|refine ad hg ci ?_|refine aa hg ci ?_)
  obtain⟨i1,i2,x,xu⟩:=bd hik
  have hJ:y<=1048576:=zpv (wo hH i2) xo
  have hN:V[(y-1).toNat]? =some x.ac:=by rw [hV];exact iq xu
  have hI:=xy xu
  obtain⟨c0,c1,sc,xz,⟨xj⟩⟩:=x
  simp only at hI
  replace hN:V[(y-1).toNat]? =some (.J c0:: .view (vw ak c1)::(lc (ah.c sc)++[.B xz,.view (vw aC.c xj)])):=hN
  obtain⟨xM,h5⟩:=nmE (vw ak c1)
  obtain⟨xw,hL⟩:=nmE (vw aC.c xj)
  rw [<-h5,<-hL]at hN
  cbv
  (first|refine ad hg (gx V y i1 hJ hN) ?_|refine aa hg (gx V y i1 hJ hN) ?_)
  cbv
  cases hq:g .q .neq c0 n
  case true=>
   rw [bC hg,bne_iff_ne]at hq
   have hY:D=false:=by rw [hD];exact wF hy (by rw [jR,hik,hI];simpa using hq)
   cbv
   exact bm hF (ho (by rw [ha,hY];simp)).symm
  rw [bC hg,zqq]at hq
  have h9:jR ns n y=true:=by rw [jR,hik,hI];simpa using hq
  cbv
  have e3:g .w .add .i64 j 1=j+1:=by rw [aG hg,aq _ (by omega)]
  rw [e3]
  exact iE xA (j+1) [some 0,some 1] (wkS [0,1] (by decide) ⟨⟨_,rfl,rfl,rfl⟩,⟨_,rfl,rfl,rfl⟩,zpt⟩ zr9) ⟨by omega,by omega,fun i v hi hv=>by
   by_cases hJ:i<j.toNat
   ·exact k2 i v hJ hv
   ·obtain rfl:i=j.toNat:=by omega
    rw [hy]at hv
    cases hv
    exact h9⟩ (by omega)
 rw [ba hg,bz hg,zqo]at hk
 have xn:D=true:=by rw [hD];exact DA xf (by omega) k2
 by_cases hu:a0=0
 ·have hX:C=true:=by rw [hC,Ga,hu];rfl
  have eu:g .q .neq a0 0=false:=by rw [bC hg];simpa using hu
  cbv
  rw [eu]
  cbv
  replace ha:OK=E:=by rw [ha,hX,xn];simp
  cases hr
  ·replace hd:E= !(decide (0<aN hh)):=by rw [hd];simp
   cbv
   cases ht:g .q .gtr (g .ln hh) 0
   case true=>
    rw [dm hg,bz hg,zqp]at ht
    cbv
    exact bm hF (ho (by rw [ha,hd];simpa using ht)).symm
   rw [dm hg,bz hg,zqo]at ht
   have hj:OK=true:=by rw [ha,hd];simpa using ht
   cbv
   rw [e1,hn]
   exact iE hB (z+1) [some 0] (wkS [0] (by decide) ⟨⟨_,rfl,rfl,rfl⟩,zpt⟩ zr4) ⟨by omega,by omega,fun i y hi hy=>hO i y hi hy hj⟩ (by omega)
  ·replace hd:E= !(!TK||decide (0<aN hf)):=by rw [hd];simp
   cbv
   (first|refine ad hg cT ?_|refine aa hg cT ?_)
   cases TK
   case false=>
    cbv
    exact bm hF (ho (by rw [ha,hd];rfl)).symm
   cbv
   cases ht:g .q .gtr (g .ln hf) 0
   case true=>
    rw [dm hg,bz hg,zqp]at ht
    cbv
    exact bm hF (ho (by rw [ha,hd];simpa using ht)).symm
   rw [dm hg,bz hg,zqo]at ht
   have hj:OK=true:=by rw [ha,hd];simpa using ht
   cbv
   rw [e1,hn]
   exact iE hB (z+1) [some 0] (wkS [0] (by decide) ⟨⟨_,rfl,rfl,rfl⟩,zpt⟩ zr4) ⟨by omega,by omega,fun i y hi hy=>hO i y hi hy hj⟩ (by omega)
 ·have eu:g .q .neq a0 0=true:=by rw [bC hg];simpa using hu
  have xE:=hQ hu
  obtain⟨u1,u2,xb,xd⟩:=bd xE
  have xt:a0<=1048576:=zpv (wo hH u2) xo
  have hM:V[(a0-1).toNat]? =some xb.ac:=by rw [hV];exact iq xd
  have xr:kt ns a0=xb.kids:=by unfold kt;rw [xd]
  have xF:=(hs xb (zqd xd))
  obtain⟨b0,b1,sb,xx,⟨xi⟩⟩:=xb
  obtain⟨xQ,xL,-⟩:=xF
  simp only at xr
  replace hM:V[(a0-1).toNat]? =some (.J b0:: .view (vw ak b1)::(lc (ah.c sb)++[.B xx,.view (vw aC.c xi)])):=hM
  obtain⟨Cn,xm⟩:=nmE (cnt b1 n)
  have xl:C=decide (Cn=1):=by rw [hC,Ga,xr,xm];simp [hu]
  obtain⟨hm,hG⟩:=nmE (vw ak b1)
  obtain⟨xv,hK⟩:=nmE (vw aC.c xi)
  have xI:=sn hG
  have xK:0<=aN hm:=by omega
  have xO:aN hm<=1048576:=by omega
  have h6:∀z:Int,aN hm<=z->y9 (fun k=>if k=n then 1 else 0) b1 z.toNat=Cn:=fun z hz=>by rw [xm];exact mO _ (by omega)
  rw [<-hG,<-hK]at hM
  cbv
  rw [eu]
  cbv
  (first|refine ad hg (gx V a0 u1 xt hM) ?_|refine aa hg (gx V a0 u1 xt hM) ?_)
  cbv
  refine bQ hg bq (by kernel_rfl) (fun s:Int×Int=>[(1,.p 0),(4,.p 1),(5,.i n),(8,.i s.2),(16,.v V),(17,.i (g .ln V)),(18,.i z),(63,.v hm),(64,.i (g .ln hm)),(65,.i s.1)]) (fun _=>[.bx 28 1 [.view V],.bx 69 64 (.J a0:: .view hf::(lc (ah.c sa)++[.B hr,.view hh]))]) (fun s=>0<=s.1/\s.1<=aN hm/\0<=s.2/\s.2<=s.1/\s.2=y9 (fun k=>if k=n then 1 else 0) b1 s.1.toNat) (fun s=>(aN hm).toNat-s.1.toNat)
   (0,0) [some 0,some 1] ⟨zpc 0,xK,zpc 0,zpc 0,(jN _ _).symm⟩ (wkS [0,1] (by decide) ⟨⟨_,rfl,rfl,rfl⟩,⟨_,rfl,rfl,rfl⟩,zpt⟩ ⟨rfl,rfl,rfl,rfl,rfl,rfl,rfl,rfl,rfl,rfl,zpt⟩) (fun s B3 xc xk=> ?_)
  obtain⟨i,d⟩:=s
  obtain⟨q0,q1,q2,q3,q4⟩:=xc
  simp only at q0 q1 q2 q3 q4
  cbv
  cases hq:g .q .lss i (g .ln hm)
  case true=>
   rw [ba hg,bz hg,zqp]at hq
   cbv
   obtain⟨y,hy⟩:=qM (xs:=b1) q0 (ii xI hq)
   have xe:hm[i.toNat]? =some (lc (ak y)):=by rw [hG];exact aZ hy
   have hP:=jO (fun k:Int=>if k=n then(1:Int)else 0) hy
   have e3:g .w .add .i64 i 1=i+1:=by rw [aG hg,aq _ (by omega)]
   refine goX hg _ q0 xe rfl ?_
   cbv
   cases he:g .q .eql y n
   ·have h7:y≠n:=by rw [bj hg]at he;simpa using he
    simp only [if_neg h7]at hP
    cbv
    rw [e3]
    exact iE xk (i+1,d) [some 0,some 1] (wkS [0,1] (by decide) ⟨⟨_,rfl,rfl,rfl⟩,⟨_,rfl,rfl,rfl⟩,zpt⟩ ⟨rfl,rfl,rfl,rfl,rfl,rfl,rfl,rfl,rfl,rfl,zpt⟩) ⟨by simp only;omega,by simp only;omega,q2,by simp only;omega,by simp only;rw [show(i+1).toNat=i.toNat+1 by omega,hP];omega⟩ (by show(aN hm).toNat-(i+1).toNat<(aN hm).toNat-i.toNat;omega)
   ·have h7:y=n:=by rw [bj hg]at he;simpa using he
    simp only [if_pos h7]at hP
    have e4:g .w .add .i64 d 1=d+1:=by rw [aG hg,aq _ (by omega)]
    cbv
    rw [e3,e4]
    exact iE xk (i+1,d+1) [some 0,some 1] (wkS [0,1] (by decide) ⟨⟨_,rfl,rfl,rfl⟩,⟨_,rfl,rfl,rfl⟩,zpt⟩ ⟨rfl,rfl,rfl,rfl,rfl,rfl,rfl,rfl,rfl,rfl,zpt⟩) ⟨by simp only;omega,by simp only;omega,by simp only;omega,by simp only;omega,by simp only;rw [show(i+1).toNat=i.toNat+1 by omega,hP];omega⟩ (by show(aN hm).toNat-(i+1).toNat<(aN hm).toNat-i.toNat;omega)
  rw [ba hg,bz hg,zqo]at hq
  have xD:d=Cn:=by rw [q4,h6 i (by omega)]
  subst xD
  cbv
  cases hcn:g .q .neq d 1
  case true=>
   rw [bC hg,bne_iff_ne]at hcn
   have xB:C=false:=by rw [xl];simpa using hcn
   cbv
   exact bm hF (ho (by rw [ha,xB];simp)).symm
  rw [bC hg,zqq]at hcn
  have hX:C=true:=by rw [xl,hcn];rfl
  cbv
  replace ha:OK=E:=by rw [ha,hX,xn];simp
  cases hr
  ·replace hd:E= !(decide (0<aN hh)):=by rw [hd];simp
   cbv
   cases ht:g .q .gtr (g .ln hh) 0
   case true=>
    rw [dm hg,bz hg,zqp]at ht
    cbv
    exact bm hF (ho (by rw [ha,hd];simpa using ht)).symm
   rw [dm hg,bz hg,zqo]at ht
   have hj:OK=true:=by rw [ha,hd];simpa using ht
   cbv
   rw [e1,hn]
   exact iE hB (z+1) [some 0] (wkS [0] (by decide) ⟨⟨_,rfl,rfl,rfl⟩,zpt⟩ zr4) ⟨by omega,by omega,fun i y hi hy=>hO i y hi hy hj⟩ (by omega)
  ·replace hd:E= !(!TK||decide (0<aN hf)):=by rw [hd];simp
   cbv
   (first|refine ad hg cT ?_|refine aa hg cT ?_)
   cases TK
   case false=>
    cbv
    exact bm hF (ho (by rw [ha,hd];rfl)).symm
   cbv
   cases ht:g .q .gtr (g .ln hf) 0
   case true=>
    rw [dm hg,bz hg,zqp]at ht
    cbv
    exact bm hF (ho (by rw [ha,hd];simpa using ht)).symm
   rw [dm hg,bz hg,zqo]at ht
   have hj:OK=true:=by rw [ha,hd];simpa using ht
   cbv
   rw [e1,hn]
   exact iE hB (z+1) [some 0] (wkS [0] (by decide) ⟨⟨_,rfl,rfl,rfl⟩,zpt⟩ zr4) ⟨by omega,by omega,fun i y hi hy=>hO i y hi hy hj⟩ (by omega)
def EW(x:ae)(K R:LLA):List AC:= .J x.up:: .view K::(lc (ah.c x.style)++[.B x.measured,.view R])
theorem AU(x:ae):x.ac=EW x (vw ak x.kids) (vw aC.c x.table.rules):=rfl
theorem yR{p:Int->Bool}{xs:List Int}{z:Int}{x:Int}(h0:0<=z)(hx:xs[z.toNat]? =some x):(xs.take (z+1).toNat).filter p=(xs.take z.toNat).filter p++if p x then [x]else []:=by
 rw [show(z+1).toNat=z.toNat+1 by omega,List.take_add_one,hx,List.filter_append]
 simp only [Option.toList_some]
 cases h:p x<;>simp [h]
theorem xw(xs ys:List Int):vw ak (xs++ys)=vw ak xs++vw ak ys:=by simp [vw]
theorem bO(ns:List ae)(n:Int)(x:ae)(h1:1<=n)(h2:n<=1048576)(hx:ns[(n-1).toNat]? =some x)(V K R:LLA)(hV:V=vwA ae.ac ns)(hK:K=vw ak x.kids)(hR:R=vw aC.c x.table.rules):PC0 44 [.agg [.view V],ai n] (.t (.agg (EW x K R))):=by
 subst hV hK hR
 rw [<-AU]
 obtain⟨a0,a1,⟨a2,a3,a4,a5,a6,a7,a8,a9,ha,hb,hc,⟨hd,he⟩,⟨hf,hg⟩,⟨hh,hi⟩,⟨hj,hk⟩,⟨hl,hm⟩,⟨hn,ho⟩,⟨hp,hq⟩,hr,⟨⟨hs,ht⟩,⟨hu,hv⟩,⟨hw,hy⟩,⟨hz,hA⟩,⟨hB,hC⟩,⟨hD,hE⟩⟩,⟨⟨hF,hG⟩,⟨hH,hI⟩,⟨hJ,hL⟩,⟨hM,hN⟩,⟨hO,hP⟩,⟨hQ,hS⟩⟩,⟨hT,hU,hW,hX⟩,⟨hY,hZ,h0,h3⟩,h4,h5⟩,h6,⟨h7⟩⟩:=x
 exact gx _ n h1 h2 (iq hx)
theorem bg(ns:List ae)(n:Int)(x:ae)(h1:1<=n)(h2:n<=1048576)(hx:ns[(n-1).toNat]? =some x)(V K R:LLA)(hV:V=vwA ae.ac ns)(hK:K=vw ak x.kids)(hR:R=vw aC.c x.table.rules):PC0 38 [.agg [.view V],ai n] (.t (.agg (EW x K R))):=by
 subst hV hK hR
 rw [<-AU]
 obtain⟨a0,a1,⟨a2,a3,a4,a5,a6,a7,a8,a9,ha,hb,hc,⟨hd,he⟩,⟨hf,hg⟩,⟨hh,hi⟩,⟨hj,hk⟩,⟨hl,hm⟩,⟨hn,ho⟩,⟨hp,hq⟩,hr,⟨⟨hs,ht⟩,⟨hu,hv⟩,⟨hw,hy⟩,⟨hz,hA⟩,⟨hB,hC⟩,⟨hD,hE⟩⟩,⟨⟨hF,hG⟩,⟨hH,hI⟩,⟨hJ,hL⟩,⟨hM,hN⟩,⟨hO,hP⟩,⟨hQ,hS⟩⟩,⟨hT,hU,hW,hX⟩,⟨hY,hZ,h0,h3⟩,h4,h5⟩,h6,⟨h7⟩⟩:=x
 exact eI _ n h1 h2 (iq hx)
theorem fk{ns:List ae}(h:dl ns=true){n:Int}{x:ae}(h1:1<=n)(hx:ns[(n-1).toNat]? =some x):∀k∈x.kids,isN ns k=true:=fun k hk=>by
 simp only [dl,zqs]at h
 have:=(kC ns ns 0).1 h.2 _ x hx
 simp only [fP,zqs,zqf,jR]at this
 exact(this.2.2.2.1 k hk).1
theorem su(ns:List ae)(n kid:Int)(x y:ae)(hl:ns.length<=1048576)(h1:isN ns n=true)(h2:isN ns kid=true)(hx:ns[(n-1).toNat]? =some x)(hy:ns[(kid-1).toNat]? =some y)(rtl:Bool)(wide high:Int):PC0 81 [.agg [.view (vwA ae.ac ns),.B rtl,.imm (.pointer none)],ai n,ai kid,ai wide,ai high] (.t (.agg (apC x.style y.style rtl (wg x.style wide) (xS x.style high)))):=by
 obtain⟨V,hV⟩:=nmE (vwA ae.ac ns)
 obtain⟨K,hK⟩:=nmE (vw ak x.kids)
 obtain⟨Rt,hb⟩:=nmE (vw aC.c x.table.rules)
 obtain⟨Ky,ha⟩:=nmE (vw ak y.kids)
 obtain⟨Ry,hc⟩:=nmE (vw aC.c y.table.rules)
 have b1:=bd h1
 have b2:=bd h2
 have cn:=bO ns n x b1.1 (by have:=b1.2.1;omega) hx V K Rt hV hK hb
 have cy:=bO ns kid y b2.1 (by have:=b2.2.1;omega) hy V Ky Ry hV ha hc
 have cp:=wN x.style wide high
 obtain⟨W,hW⟩:=nmE (wg x.style wide)
 obtain⟨H,hH⟩:=nmE (xS x.style high)
 rw [<-hW,<-hH]at cp
 rw [<-hV,<-hW,<-hH]
 refine aV func81 fun g F hg hF=> ?_
 cbv
 repeat'((first|refine aa hg cn ?_|refine aa hg cy ?_|refine ad hg cp ?_);cbv)
 refine gf hF ?_ ?_
 ·rfl
 ·exact⟨rfl,rfl⟩
theorem xB(ns:List ae)(hl:ns.length<=1048576)(hs:∀y∈ns,ae.small y)(n wide high:Int):PC0 47 [.agg [.view (vwA ae.ac ns)],ai n,ai wide,ai high] (.t (abl (dl ns&&(rng n 1 (ns.length:Int)&&(rng wide 0 1048576&&rng high 0 1048576))))):=by
 have cT:=jZ ns hl hs
 obtain⟨V,hV⟩:=nmE (vwA ae.ac ns)
 have ha:aN V=(ns.length:Int):=by rw [ao,hV,bu]
 have cI:=gW V n
 have cw:=bi wide 0 1048576
 have ch:=bi high 0 1048576
 rw [<-hV]at cT⊢
 rw [<-ha]
 clear ha hV hs hl
 obtain⟨T,hT⟩:=nmE (dl ns)
 obtain⟨I,hI⟩:=nmE (rng n 1 (aN V))
 obtain⟨W,hW⟩:=nmE (rng wide 0 1048576)
 obtain⟨H,hH⟩:=nmE (rng high 0 1048576)
 rw [<-hT]at cT
 rw [<-hI]at cI
 rw [<-hW]at cw
 rw [<-hH]at ch
 rw [<-hT,<-hI,<-hW,<-hH]
 clear hT hI hW hH
 cases T<;>cases I<;>cases W<;>cases H<;>(
  refine aV func47 fun g F hg hF=> ?_
  cbv
  (repeat'((first|refine ad hg cT ?_|refine ad hg cI ?_|refine ad hg cw ?_|refine ad hg ch ?_);cbv))
  exact bm hF rfl)
end Go.Proofs.YtckchgoblpgpbaaGreat
namespace Go.Proofs.YtckchgoblpgpbaaGreat
open Go.Shelf Go.RowKit Go.Lib Go.Sort Am Go.Proofs.Tryz
def m8(f:Int->Int)(x:Int):List Int->List Int
 | []=>[x]
 |y::r=>if f x<f y then y::m8 f x r else x::y::r
def ltF(f:Int->Int)(x y:Int):Bool:=decide (f x<f y)
variable {d:Array Int}{pre post:List Int}
theorem xf{x:Int}(h:d.toList=pre++x::post):d[pre.length]! =x:=by
 have hl:pre.length<d.size:=by rw [<-Array.length_toList,h];simp
 rw [getElem!_pos d _ hl,<-Array.getElem_toList]
 simp [h]
theorem Ev{x y:Int}(h:d.toList=pre++y::x::post):(swp d (pre.length+1) pre.length).toList=pre++x::y::post:=by
 have e1:d[pre.length]! =y:=xf h
 have e2:d[pre.length+1]! =x:=by
  have:=xf (d:=d) (pre:=pre++[y]) (post:=post) (x:=x) (by rw [h];simp)
  simpa using this
 unfold swp
 rw [e1,e2,Array.toList_setIfInBounds,Array.toList_setIfInBounds,h]
 apply List.ext_getElem?
 intro i
 simp only [List.getElem?_set,List.length_set,zqe,zqx,List.getElem?_append,List.getElem?_cons]
 split<;>split<;>split<;>(try split)<;>(try split)<;>first|rfl|omega|(simp_all<;>omega)
theorem uX(f:Int->Int):∀(j:Nat)(d:Array Int)(pre post:List Int)(x:Int),pre.length=j->d.toList=pre++x::post->(insInner (ltF f) 0 j d).toList=(m8 f x pre.reverse).reverse++post
 |0,d,pre,post,x,hj,h=>by
  obtain rfl:=List.length_eq_zero_iff.1 hj
  rw [insInner]
  simpa [m8]using h
 |j+1,d,pre,post,x,hj,h=>by
  rcases List.eq_nil_or_concat pre with rfl|⟨pre',y,rfl⟩
  ·simp at hj
  have ha:pre'.length=j:=by simpa using hj
  have h':d.toList=pre'++y::x::post:=by rw [h];simp
  have e1:d[j]! =y:=by rw [<-ha];exact xf h'
  have e2:d[j+1]! =x:=by
   have:=xf (d:=d) (pre:=pre'++[y]) (post:=post) (x:=x) (by rw [h'];simp)
   rw [<-ha];simpa using this
  rw [insInner,e1,e2]
  have hr:(pre'.concat y).reverse=y::pre'.reverse:=by simp
  rw [hr,m8]
  by_cases hlt:f x<f y
  ·have:(decide (j+1>0)&&ltF f x y)=true:=by simp [ltF,hlt]
   rw [if_pos this,if_pos hlt,uX f j _ pre' (y::post) x ha (by rw [<-ha];exact Ev h')]
   simp
  ·have:(decide (j+1>0)&&ltF f x y)=false:=by simp [ltF,hlt]
   rw [if_neg (by rw [this];simp),if_neg hlt,h']
   simp
theorem uH(lt:Int->Int->Bool)(a:Nat):∀(j:Nat)(d:Array Int),(insInner lt a j d).size=d.size
 |0,d=>by rw [insInner]
 |j+1,d=>by
  rw [insInner]
  split
  ·rw [uH lt a j,size_swp]
  ·rfl
theorem uU(f:Int->Int)(b:Nat):∀(rest A:List Int)(d:Array Int),d.toList=A++rest->A.length+rest.length=b->(insOuter (ltF f) 0 b A.length d).toList=(rest.foldl (fun ha x=>m8 f x ha) A.reverse).reverse
 | [],A,d,h,hb=>by
  rw [insOuter,if_neg (by simp at hb;omega)]
  simpa using h
 |x::post,A,d,h,hb=>by
  simp only [zqx]at hb
  rw [insOuter,if_pos (by omega)]
  have hi:=uX f A.length d A post x rfl h
  have hl:(m8 f x A.reverse).reverse.length=A.length+1:=by
   have h1:=congrArg List.length hi
   have h2:(insInner (ltF f) 0 A.length d).size=d.size:=uH _ _ _ _
   rw [Array.length_toList,h2,<-Array.length_toList,h]at h1
   simp only [zqe,zqx]at h1
   omega
  have:=uU f b post (m8 f x A.reverse).reverse _ hi (by omega)
  rw [hl,List.reverse_reverse]at this
  rw [this,List.foldl_cons]
theorem xF(f:Int->Int)(xs:List Int):(Sort.insertionSort (ltF f) xs.toArray 0 xs.toArray.size).toList=(xs.foldl (fun ha x=>m8 f x ha) []).reverse:=by
 unfold Sort.insertionSort
 cases xs with
 |nil=>
  rw [insOuter,if_neg (by simp)];rfl
 |cons x post=>
  have:=uU f (x::post).toArray.size post [x] (x::post).toArray rfl (by simp;omega)
  simpa [m8]using this
theorem DD(f:Int->Int)(x:Int):∀(hb:List Int)(a:Nat),a<=hb.length->(∀i y,a<=i->hb[i]? =some y->f x<f y)->(m8 f x hb.reverse).reverse=(m8 f x (hb.take a).reverse).reverse++hb.drop a:=by
 intro hb
 induction h:hb.length generalizing hb with
 |zero=>
  intro a ha _
  obtain rfl:=List.length_eq_zero_iff.1 h
  simp
 |succ n ih=>
  intro a ha hy
  rcases List.eq_nil_or_concat hb with rfl|⟨o,y,rfl⟩
  ·simp at h
  rw [List.concat_eq_append]at *
  simp only [zqe,zqm,Nat.add_right_cancel_iff]at h
  by_cases ha2:a=(o++[y]).length
  ·subst ha2
   rw [List.take_length,List.drop_length,zpr]
  ·have hc:a<=o.length:=by simp at ha ha2;omega
   have h1:=hy o.length y hc (by simp)
   have:=ih o h a (by omega) (fun i z hi hz=>hy i z hi (by rw [zqh (zqb.1 hz).1];exact hz))
   rw [List.reverse_append,List.reverse_singleton,List.singleton_append,m8,if_pos h1,List.reverse_cons,this,List.take_append_of_le_length hc,List.drop_append_of_le_length hc]
   simp
theorem DC(f:Int->Int)(x:Int)(out:List Int)(a:Nat)(ha:a<=out.length)(hs:a=0\/∃y,out[a-1]? =some y/\¬f x<f y)(hy:∀i y,a<=i->out[i]? =some y->f x<f y):(m8 f x out.reverse).reverse=out.take a++x::out.drop a:=by
 rw [DD f x out a ha hy]
 rcases hs with rfl|⟨y,h1,h2⟩
 ·simp [m8]
 ·have hl:a-1<out.length:=(zqb.1 h1).1
  have h0:0<a:=by
   rcases Nat.eq_zero_or_pos a with rfl|h
   ·exact absurd (hy 0 y (zpk _) (by simpa using h1)) h2
   ·exact h
  have e:out.take a=out.take (a-1)++[y]:=by
   conv=>lhs;rw [show a=a-1+1 by omega]
   rw [List.take_add_one,h1];rfl
  rw [e,List.reverse_append,List.reverse_singleton,List.singleton_append,m8,if_neg h2]
  simp
theorem wI(f:Int->Int)(x:Int):∀l:List Int,(m8 f x l).length=l.length+1
 | []=>rfl
 |y::r=>by
  rw [m8];split
  ·simp [wI f x r]
  ·simp
theorem wH(f:Int->Int)(x k:Int):∀l:List Int,k∈m8 f x l↔k=x\/k∈l
 | []=>by simp [m8]
 |y::r=>by
  rw [m8];split
  ·simp only [zph,wH f x k r]
   constructor
   ·rintro(h|h|h)<;>simp [h]
   ·rintro(h|h|h)<;>simp [h]
  ·simp
def ix(f:Int->Int)(xs:List Int):List Int:=(xs.foldl (fun acc x=>m8 f x acc) []).reverse
theorem yj(f:Int->Int)(k:Int):∀(xs ha:List Int),k∈xs.foldl (fun ha x=>m8 f x ha) ha↔k∈xs\/k∈ha
 | [],ha=>by simp
 |x::xs,ha=>by
  rw [List.foldl_cons,yj f k xs,wH]
  simp only [zph]
  constructor
  ·rintro(h|h|h)<;>simp [h]
  ·rintro((h|h)|h)<;>simp [h]
theorem xG(f:Int->Int)(k:Int)(xs:List Int):k∈ix f xs↔k∈xs:=by simp [ix,yj]
theorem yk(f:Int->Int):∀(xs ha:List Int),(xs.foldl (fun ha x=>m8 f x ha) ha).length=xs.length+ha.length
 | [],ha=>by simp
 |x::xs,ha=>by rw [List.foldl_cons,yk f xs,wI];simp;omega
theorem l6(f:Int->Int)(xs:List Int):(ix f xs).length=xs.length:=by simp [ix,yk]
variable {cs:List AC}
theorem EM{F F':Nat->Prop}{w w':World}{b:Nat}(hF:∀b,F b->F' b)(hw:∀b,F b->w'.heap[b]? =w.heap[b]?)(hb:w'.heap[b]? =w.heap[b]?)(h:RPL F w b 0 cs):RPL F' w' b 0 cs:=
 RPL.mk fun j c hj=>by
  obtain⟨u,hu,ho,hr⟩:=RPL.get h hj
  exact⟨u,by rw [vm hb];exact hu,ho,RP.ext hF hw hr⟩
theorem x9{P:Program}{g:FuncId}{f:Int->Int}{p:Int->Prop}{n:Nat}
  (hc:∀(dk:List Int)(i j:Nat),dk.length=n->(∀k∈dk,p k)->i<n->j<n->bS P g [ai (i:Int),ai (j:Int),.c (.eptr cs 0),.c (.eptr [.view (vw ak dk)] 0)] fun res hh=>res= .t (abl (decide (f (dk[i]!)<f (dk[j]!))))/\hh=[])
  {F:Nat->Prop} {w:World} {blk bo bt cap:Nat} {d:Array Int} (hF:∀b,F b->b<w.heap.size) (hFb:¬F blk) (hblk:blk<w.heap.size) (hbo:bo<w.heap.size) (hbt:bt<w.heap.size) (ho:bo≠blk) (ht:bt≠blk)
  (hco:w.cell? ⟨bo,0,none⟩=some (.slice (some ⟨blk,0,none⟩) n cap)) (hn:n<=cap) (hm:cap<=maxLen) (hct:RPL F w bt 0 cs) (hd:d.size=n) (hH:Holds (Value.int .i64) w blk 0 d):
  uD P g #[.pointer (some ⟨bt,0,none⟩),.pointer (some ⟨bo,0,none⟩)] (Value.int .i64) (ltF f) p blk 0 n w:=fun W dk hs hp hW i j hi hj=>by
 obtain⟨F',hf⟩:∃F':Nat->Prop,F'=fun b=>F b\/b=bo\/b=bt\/b=blk:=⟨_,rfl⟩
 have hg:∀b,F b->W.heap[b]? =w.heap[b]? :=fun b hb=>(hW.at_ b (hF b hb)).trans (jd (fun e=>hFb (e▸hb)))
 have hy:=hW.holds hblk hH (hs.trans hd.symm)
 have hl:W.cell? ⟨bo,0,none⟩=some (.slice (some ⟨blk,0,none⟩) n cap):=by rw [hW.cell hbo ho];exact hco
 have hr:RPL F' W bt 0 cs:=EM (fun b hb=>by rw [hf];exact .inl hb) hg ((hW.at_ bt hbt).trans (jd ht)) hct
 have ha:(vw ak dk.toList).length=n:=by rw [ar];simpa using hs
 have hu:RP F' W (.view (vw ak dk.toList)) (.slice (some ⟨blk,0,none⟩) n cap):=by
  unfold RP
  refine⟨_,cap,by rw [ha],by rw [ha];exact hn,hm,.inr ⟨blk,0,1,rfl,by rw [hf];exact .inr (.inr (.inr rfl)),RPE.mk fun q x hq=> ?_⟩⟩
  have he:q<dk.size:=by have:=(zqb.1 hq).1;rw [ha]at this;omega
  have hx:x=lc (ak dk[q]!):=by
   have h1:dk.toList[q]? =some dk[q]! :=by rw [getElem!_pos dk q he];simp [he]
   have:=aZ (c:=ak) h1
   rw [hq]at this;exact Option.some.inj this
  subst hx
  refine⟨rfl,RPL.mk fun t c ht=> ?_⟩
  have:t=0:=by
   have:=(zqb.1 ht).1
   simp [lc,ak]at this;omega
  subst this
  have:c= .imm (.int .i64 dk[q]!):=by simpa [lc,ak]using ht.symm
  subst this
  refine⟨.int .i64 dk[q]!,?_,rfl,by unfold RP;rfl⟩
  have:=(hy q he).1
  simpa using this
 have hv:=hc dk.toList i j (by simpa using hs) (fun k hk=>by
  obtain⟨q,hq⟩:=List.mem_iff_getElem?.1 hk
  have he:q<dk.size:=by have:=(zqb.1 hq).1;simpa using this
  have:=hp q (by omega)
  rw [getElem!_pos dk q he]at this
  have h2:k=dk[q]:=by simp [he]at hq;exact hq.symm
  rw [h2];exact this) hi hj
 have hw:∀q,q<n->dk.toList[q]! =dk[q]! :=fun q hq=>by
  rw [getElem!_pos dk q (by omega),getElem!_pos dk.toList q (by simp;omega)];simp
 rw [hw i hi,hw j hj]at hv
 have hz:∀b,F' b->b<W.heap.size:=fun b hb=>by
  rw [hf]at hb
  refine zpu ?_ hW.size
  rcases hb with hb|rfl|rfl|rfl
  ·exact hF b hb
  ·exact hbo
  ·exact hbt
  ·exact hblk
 refine(hv.2 F' W [] [.int .i64 i,.int .i64 j,.pointer (some ⟨bt,0,none⟩),.pointer (some ⟨bo,0,none⟩)] (RH.empty hz (zpn _)) rfl (fun q x hq=> ?_)).mono ?_
 ·match q,hq with
  |0,hq=>obtain rfl:=Option.some.inj hq.symm;exact⟨_,rfl,rfl⟩
  |1,hq=>obtain rfl:=Option.some.inj hq.symm;exact⟨_,rfl,rfl⟩
  |2,hq=>obtain rfl:=Option.some.inj hq.symm;exact⟨_,rfl,bt,0,rfl,by rw [hf];exact .inr (.inr (.inl rfl)),hr⟩
  |3,hq=>
   obtain rfl:=Option.some.inj hq.symm
   refine⟨_,rfl,bo,0,rfl,by rw [hf];exact .inr (.inl rfl),RPL.mk fun t c ht=> ?_⟩
   have h0:t=0:=by
    have:=(zqb.1 ht).1
    simp at this;omega
   subst h0
   obtain rfl:=Option.some.inj ht.symm
   exact⟨_,hl,rfl,hu⟩
  |q+4,hq=>simp at hq
 ·rintro e w' ⟨v,res,h',m',F'',rfl,⟨hh,rfl,hq,_⟩,hG,hS,hV⟩
  subst hq
  refine⟨?_,hS.os,hS.tape,hS.output,hS.size,fun b hb=>hS.blk b hb (fun r ab c h=>by simp at h)⟩
  have:v= .bool (decide (f dk[i]! <f dk[j]!)):=hV
  rw [this];rfl
def m6(ns:List ae)(k:Int):Bool:=match ns[(k-1).toNat]? with|some y=> !y.style.hidden&& !y.style.apart|none=>false
def i9(ns:List ae)(k:Int):Int:=match ns[(k-1).toNat]? with|some y=>y.style.order|none=>0
section
variable {F:Nat->Prop}{w w1 w2 w':World}{m m1:AM}{h h1:AH}
theorem uG(s:dI F w m h w1 m1 h1)(hos:w2.os=w1.os)(htp:w2.tape=w1.tape)(hou:w2.output=w1.output)(hsz:w1.heap.size<=w2.heap.size)(hb:∀b,b<w1.heap.size->w2.heap[b]? =w1.heap[b]?):dI F w m h w2 m1 h1:=by
 refine⟨⟨fun r ab hr=> ?_,s.hp.inj,s.hp.len,fun b ha=>zpu (s.hp.old b ha) hsz,zpb s.hp.lo hsz⟩,s.keeps,hos.trans s.os,htp.trans s.tape,hou.trans s.output,zpb s.size hsz,fun b ha hn=>(hb b (zpu ha s.size)).trans (s.blk b ha hn),s.own⟩
 rcases s.hp.at_ r ab hr with h3|⟨b,c,h3,h4,h5⟩
 ·exact .inl h3
 ·exact .inr ⟨b,c,h3,h4,RB.ext (fun _ h=>h) (fun b' ha=>hb b' (s.hp.old b' ha)) (fW.refl _ _) (hb b (s.hp.lt hr h3).2) h5⟩
theorem yS(hH:RH F w m h){r b cap ty:Nat}{xs:List Int}{d:Array Int}(h1:h[r]? =some (.live ⟨ty,1,vw ak xs⟩))(h2:m[r]? =some (some (b,cap)))(hd:d.size=xs.length)(hS:ly (Value.int .i64) w b 0 d w'):dI F w m h w' m (h.set r (.live ⟨ty,1,vw ak d.toList⟩)):=by
 obtain⟨_,hF,cur,hc,hs,hf,hl,ha⟩:=hH.get h1 h1 h2
 simp only [Nat.mul_one,ar]at hs hf
 have hh:(putCells (Value.int .i64) 0 d cur).size=cur.size:=by simp [putCells]
 have hg:dI F w m h (w.setRow b (putCells (Value.int .i64) 0 d cur)) m (h.set r (.live ⟨ty,1,vw ak d.toList⟩)):=dI.update hH h1 h2 rfl rfl (by simp [ar,hd]) (by rw [hh];simpa using hs) (fun i x hx=>by
  have hi:i<d.size:=by have:=(zqb.1 hx).1;simpa [ar]using this
  have hk:x=lc (ak d[i]!):=by
   have h3:d.toList[i]? =some d[i]! :=by rw [getElem!_pos d i hi];simp [hi]
   have:=aZ (c:=ak) h3
   rw [hx]at this;exact Option.some.inj this
  subst hk
  refine⟨rfl,fun j c hj=> ?_⟩
  obtain rfl:j=0:=by
   have:=(zqb.1 hj).1
   simp [lc,ak]at this;omega
  obtain rfl:c= .imm (.int .i64 d[i]!):=by simpa [lc,ak]using hj.symm
  have he:i<cur.size:=by omega
  exact⟨.int .i64 d[i]!,by simp [putCells,Array.getElem?_eq_getElem he,hi],rfl,rfl⟩)
 refine uG hg hS.os hS.tape hS.output (by simpa using hS.size) (fun b' hb=> ?_)
 rw [hS.at_ b' (by simpa using hb)]
 by_cases hbb:b'=b
 ·subst hbb
  rw [setRow_heap w b' cur _ _ _ hc]
  simp only [putRow,mapBlock,Array.getElem?_modify,hc,if_true,Option.map_some,onCells]
 ·rw [jd hbb,setRow_other _ _ _ _ hbb]
end
shelf_lay LaysGt.n8 Ggt 8 at Tryz as Tryz.sl8
theorem FV{d:List Int}{i:Nat}(h:i<d.length):d[i]? =some d[i]! :=by rw [getElem!_pos d i h];simp [h]
theorem Cf(ns:List ae)(dk:List Int)(hl:ns.length<=1048576)(hk:∀k∈dk,isN ns k=true)(i j:Nat)(hi:i<dk.length)(hj:j<dk.length):PC0 281 [ai (i:Int),ai (j:Int),.c (.eptr [.view (vwA ae.ac ns)] 0),.c (.eptr [.view (vw ak dk)] 0)] (.t (abl (decide (i9 ns (dk[i]!)<i9 ns (dk[j]!))))):=by
 obtain⟨V,hV⟩:=nmE (vwA ae.ac ns)
 obtain⟨D,hD⟩:=nmE (vw ak dk)
 obtain⟨a,ha⟩:=nmE (dk[i]!)
 obtain⟨b,hb⟩:=nmE (dk[j]!)
 have ga:dk[i]? =some a:=by rw [ha];exact FV hi
 have gb:dk[j]? =some b:=by rw [hb];exact FV hj
 obtain⟨a1,a2,xa,hc⟩:=bd (hk a (zqd ga))
 obtain⟨b1,b2,xb,hd⟩:=bd (hk b (zqd gb))
 have ya:D[((i:Int)).toNat]? =some (lc (ak a)):=by rw [hD];exact aZ ga
 have yb:D[((j:Int)).toNat]? =some (lc (ak b)):=by rw [hD];exact aZ gb
 have i0:(0:Int)<=(i:Int):=Int.natCast_nonneg i
 have j0:(0:Int)<=(j:Int):=Int.natCast_nonneg j
 have oa:i9 ns a=xa.style.order:=by unfold i9;rw [hc]
 have ob:i9 ns b=xb.style.order:=by unfold i9;rw [hd]
 rw [<-hV,<-hD,<-ha,<-hb,oa,ob]
 clear oa ob
 obtain⟨Ka,he⟩:=nmE (vw ak xa.kids)
 obtain⟨Ra,hh⟩:=nmE (vw aC.c xa.table.rules)
 obtain⟨Kb,hf⟩:=nmE (vw ak xb.kids)
 obtain⟨Rb,hm⟩:=nmE (vw aC.c xb.table.rules)
 have ca:=bO ns a xa a1 (by omega) hc V Ka Ra hV he hh
 have cb:=bO ns b xb b1 (by omega) hd V Kb Rb hV hf hm
 obtain⟨I,hI⟩:∃I:Int,I=(i:Int):=⟨_,rfl⟩
 obtain⟨J,hJ⟩:∃J:Int,J=(j:Int):=⟨_,rfl⟩
 rw [<-hI]at ya i0⊢
 rw [<-hJ]at yb j0⊢
 clear hI hJ ga gb hc hd
 refine aV func281 fun g F hg hF=> ?_
 cbv
 refine goX hg _ i0 ya rfl ?_
 cbv
 (refine aa hg ca ?_)
 cbv
 refine goX hg _ j0 yb rfl ?_
 cbv
 (refine aa hg cb ?_)
 cbv
 rw [ba hg]
 exact bm hF rfl
noncomputable def siT:TypeInfo:=(prog.info? 24).get (by kernel_rfl)
noncomputable def siE:TypeInfo:=(prog.info? 3).get (by kernel_rfl)
theorem siK(n:Nat)(h2:2<=n):Lib.swapperK n siE 2=5:=by
 have a:siE.hasPointers=false:=by kernel_rfl
 have b:siE.bytes=8:=by kernel_rfl
 have c:(n==0)=false:=by simp;omega
 have d:(n==1)=false:=by simp;omega
 simp [Lib.swapperK,a,b,c,d]
theorem Ez{w:World}{g blk c:Nat}{lb:Array Value}(f:Int->Int)(p:Int->Prop)(hg:∀args w,(callFunc g args).run prog w= .ok (.enter g args) w)(h2:2<=d.size)(h20:d.size<20)
  (hless:uD prog g lb (Value.int .i64) (ltF f) p blk 0 d.size w) (hp:∀i,i<d.size->p d[i]!) (hH:Holds (Value.int .i64) w blk 0 d) (hblk:blk<w.heap.size):
  Calls prog 280 #[.iface 24 (.slice (some ⟨blk,0,none⟩) d.size c),.func (.func g) #[] lb] w fun e w'=>e= .returned (.tuple #[])/\ly (Value.int .i64) w blk 0 (Sort.insertionSort (ltF f) d 0 d.size) w':=by
 have hS:=xi Tryz.sl8 24 3 siT siE (by kernel_rfl) (by kernel_rfl) (by kernel_rfl) (by kernel_rfl) 2 (fun _=>by kernel_rfl) (by kernel_rfl) (fun _=>by kernel_rfl) (Value.int .i64) (fun _=>rfl) (ltF f) p g lb
  hg blk 0 c d h2 h20 321 (by rw [siK _ h2];kernel_rfl) true
  (fun args W=>run_callFunc_extern func321 (by kernel_rfl) (by kernel_rfl) (by kernel_rfl) (e:=Extern.ReflectliteSwapper.swap true) (by kernel_rfl) args W) w hless hp hH hblk
 exact hS
theorem CO{w:World}{p:Option Addr}{n c:Nat}(hn:n<=1)(lf:Fn)(la lb:Array Value):
  Calls prog 280 #[.iface 24 (.slice p n c),.func lf la lb] w fun e w'=>e= .returned (.tuple #[])/\∃os,w'=grow w os:=by
 rcases Nat.le_one_iff_eq_zero_or_eq_one.1 hn with rfl|rfl
 ·exact Any.sort_SliceStable_tiny Tryz.sl8 24 3 siT siE (by kernel_rfl) (by kernel_rfl) (by kernel_rfl) (by kernel_rfl) 2 (fun _=>by kernel_rfl) p 0 c (by omega) 317 (by kernel_rfl) lf la lb w
 ·exact Any.sort_SliceStable_tiny Tryz.sl8 24 3 siT siE (by kernel_rfl) (by kernel_rfl) (by kernel_rfl) (by kernel_rfl) 2 (fun _=>by kernel_rfl) p 1 c (by omega) 318 (by kernel_rfl) lf la lb w
theorem Ha{id n0:Nat}{o35 o36 o37 o38:Oper}(e35:o35.op= .load 24 (.tmp 5))(d35:o35.dst=some 35)(g35:o35.guard=none)(e36:o36.op= .makeInterface 24 (.tmp 35))(d36:o36.dst=some 36)(g36:o36.guard=none)
  (e37:o37.op= .makeFunc (.func 281) #[] #[.tmp 2,.tmp 5]) (d37:o37.dst=some 37) (g37:o37.guard=none) (c38:Call) (e38:o38.op= .call c38) (k38:c38.callee= .value (.func 280)) (a38:c38.args= #[.tmp 36,.tmp 37]) (d38:o38.dst=some 38) (g38:o38.guard=none)
  (ns:List ae) (hl:ns.length<=1048576) {E:List Int} (hE:∀k∈E,isN ns k=true) (h20:E.length<20) {l:List (Nat×AV)} {Q:Exit->(Nat->AV)->AH->Prop}
  (h2:lkT l 2= .p 0) (h5:lkT l 5= .p 1) (tT tI:Nat)
  (hQ:Q .normal (lkT ((38,.t (.c .dead))::(37,.t (.c .dead))::(36,.t (.c .dead))::(35,.o 2)::l)) (toH [.bx tT 1 [.view (vwA ae.ac ns)],.bx tI 1 [.own 2],.rw ⟨3,1,vw ak (ix (i9 ns) E)⟩])) (N:Nat) (hN:N=40) (cd:Code) (hcd:cd= .region id #[o35,o36,o37,o38] false) (hh:EH) (hhh:hh=[.bx tT 1 [.view (vwA ae.ac ns)],.bx tI 1 [.own 2],.rw ⟨3,1,vw ak E⟩]):
  VC prog n0 N cd Q (lkT l) (toH hh):=by
 subst hN hcd hhh
 intro F w0 m0 h0 a w m xe r
 refine wp_region_list ?_
 show wpList _ _ _ [o35,o36,o37,o38] a w
 have wnt:∀(o:Oper)(y:Nat->Option Bool),o.guard=none->Region.wanted o y=true:=fun o y hg=>by unfold Region.wanted;rw [hg]
 unfold wpList
 rw [if_pos (wnt _ _ g35)]
 left
 obtain⟨H,hf⟩:∃H:AH,H=toH [.bx tT 1 [.view (vwA ae.ac ns)],.bx tI 1 [.own 2],.rw ⟨3,1,vw ak E⟩]:=⟨_,rfl⟩
 rw [<-hf]at r
 have H1:H[1]? =some (.live ⟨tI,1,[[.own 2]]⟩):=by rw [hf];rfl
 have H0:H[0]? =some (.live ⟨tT,1,[[.view (vwA ae.ac ns)]]⟩):=by rw [hf];rfl
 have H2:H[2]? =some (.live ⟨3,1,vw ak E⟩):=by rw [hf];rfl
 refine(l9 (o:=o35) (K:=fun res h'=>res= .o 2/\h'=H) r.st.hp r.tm ?_).wp (fun v w1⟨res,h',m1,F1,⟨hres,hh'⟩,hG1,hs,hv⟩=> ?_)
 ·rw [e35]
  have ha:s4 prog 24=some none:=by kernel_rfl
  simp only [opA,pop,ev,h5,ha,H1]
  exact⟨[.own 2],rfl,.own 2,rfl,rfl,by simp⟩
 subst hres hh'
 have r1:=r.nextG (o:=o35) (by unfold fT;rw [d35];rfl) hG1.1 hs hv
 have hB:a.tmps.size=40:=r.sz
 obtain⟨b,hb⟩:=nmE (a.put o35.dst v)
 have xj:b.tmps.getD 35 undef=v:=by rw [hb,fo,if_pos ⟨d35,by rw [hB];decide⟩]
 rw [<-hb]at r1⊢
 have h8:b.tmps.size=40:=r1.sz
 have h7:Am.fJ F F1 w0 m0 h0:=r.grow (Am.fJ.refl _ _ _ _) hG1
 clear hs r hb hB
 unfold wpList
 rw [if_pos (wnt _ _ g36)]
 left
 have hU:(execOp b.eval o36).run prog w1= .ok (.value (.iface 24 v)) w1:=by
  have hu:=run_makeInterface (P:=prog) w1 24 v (by kernel_rfl)
  simp [execOp,e36,Act.eval,xj,hu]
 refine(Yl.value hU (R:=fun u w2=>u= .iface 24 v/\w2=w1) ⟨rfl,rfl⟩).wp (fun u w2⟨hu,hw⟩=> ?_)
 subst hu hw
 have r2:=r1.next (o:=o36) (by unfold fT;rw [d36];rfl) (dI.refl r1.st.hp) (res:= .t (.c .dead)) (v:= .iface 24 v) trivial
 obtain⟨c,hc⟩:∃c,c=b.put o36.dst (.iface 24 v):=⟨_,rfl⟩
 have hJ:c.tmps.getD 36 undef= .iface 24 v:=by rw [hc,fo,if_pos ⟨d36,by rw [h8];decide⟩]
 rw [<-hc]at r2⊢
 have h9:c.tmps.size=40:=r2.sz
 clear hc hU
 unfold wpList
 rw [if_pos (wnt _ _ g37)]
 left
 obtain⟨p2,hP⟩:=nmE (c.tmps.getD 2 undef)
 obtain⟨p5,hT⟩:=nmE (c.tmps.getD 5 undef)
 have hV:(execOp c.eval o37).run prog w2= .ok (.value (.func (.func 281) #[] #[p2,p5])) w2:=by
  simp [execOp,e37,Act.eval,<-hP,<-hT,Instr.makeFunc]
 refine(Yl.value hV (R:=fun u w3=>u= .func (.func 281) #[] #[p2,p5]/\w3=w2) ⟨rfl,rfl⟩).wp (fun u w3⟨hu,hw⟩=> ?_)
 subst hu hw
 have r3:=r2.next (o:=o37) (by unfold fT;rw [d37];rfl) (dI.refl r2.st.hp) (res:= .t (.c .dead)) (v:= .func (.func 281) #[] #[p2,p5]) trivial
 obtain⟨e,he⟩:∃e,e=c.put o37.dst (.func (.func 281) #[] #[p2,p5]):=⟨_,rfl⟩
 have xk:e.tmps.getD 37 undef= .func (.func 281) #[] #[p2,p5]:=by rw [he,fo,if_pos ⟨d37,by rw [h9];decide⟩]
 have hJ:e.tmps.getD 36 undef= .iface 24 v:=by rw [he,fo,if_neg (by rw [d37];simp),hJ]
 rw [<-he]at r3⊢
 have t2:=r2.tm 2
 have t5:=r2.tm 5
 rw [<-hP]at t2
 rw [<-hT]at t5
 simp only [put,d36,d35,h2,h5,zqy,Nat.reduceEqDiff,if_false]at t2 t5
 have xl:e.tmps.size=40:=r3.sz
 clear he hV r2
 unfold wpList
 rw [if_pos (wnt _ _ g38)]
 left
 have hH:=r3.st.hp
 rcases t2 with hx|⟨ab,b0,cap0,h20',hm0,rfl⟩
 ·rw [H0]at hx;cases hx
 rw [H0]at h20';cases h20'
 rcases t5 with hx|⟨ab,b1,cap1,h21',hm1,rfl⟩
 ·rw [H1]at hx;cases hx
 rw [H1]at h21';cases h21'
 simp only [Nat.zero_mul,Nat.add_zero]at *
 have hm:∀{R:Value->World->Prop},Calls prog 280 #[.iface 24 v,.func (.func 281) #[] #[.pointer (some ⟨b0,0,none⟩),.pointer (some ⟨b1,0,none⟩)]] w3 (fun x w'=>x= .returned (.tuple #[])/\R (.tuple #[]) w')->Yl prog o38 e w3 R:=fun hR=>by
  unfold Yl
  rw [od e38 k38 (by kernel_rfl),a38]
  have:(#[Operand.tmp 36,Operand.tmp 37].map e.eval)= #[.iface 24 v,.func (.func 281) #[] #[.pointer (some ⟨b0,0,none⟩),.pointer (some ⟨b1,0,none⟩)]]:=by simp [Act.eval,hJ,xk]
  rw [this]
  exact hR.mono fun x w'⟨h1,h2⟩=>⟨_,h1,h2⟩
 have hG:∀(H':AH)(w':World),dI F1 w3 m1 h' w' m1 H'->H'=toH [.bx tT 1 [.view (vwA ae.ac ns)],.bx tI 1 [.own 2],.rw ⟨3,1,vw ak (ix (i9 ns) E)⟩]->wpList prog #[o35,o36,o37,o38] (kO F w0 m0 h0 40 Q) [] (e.put o38.dst (.tuple #[])) w':=fun H' w' hs hF=>by
  subst hF
  have r4:=r3.next (o:=o38) (by unfold fT;rw [d38];rfl) hs (res:= .t (.c .dead)) (v:= .tuple #[]) trivial
  exact⟨_,_,_,F1,by simpa only [d35,d36,d37,d38,uQ,s9]using hQ,h7,r4⟩
 refine(hm (R:=fun u w'=>u= .tuple #[]/\∃H',dI F1 w3 m1 h' w' m1 H'/\H'=toH [.bx tT 1 [.view (vwA ae.ac ns)],.bx tI 1 [.own 2],.rw ⟨3,1,vw ak (ix (i9 ns) E)⟩]) ?_).wp (fun u w'⟨hu,H',hs,hF⟩=>by subst hu;exact hG H' w' hs hF)
 rcases hv with hx|⟨ab,hab,hv⟩
 ·rw [H2]at hx;cases hx
 rw [H2]at hab;cases hab
 simp only [ar]at hv
 by_cases hE1:E.length<=1
 ·have xg:ix (i9 ns) E=E:=by
   match E,hE1 with
   | [],_=>rfl
   | [x],_=>rfl
  obtain⟨p,cc,rfl⟩:∃p cc,v= .slice p E.length cc:=by
   rcases hv with⟨bb,cc,_,rfl⟩|⟨_,h0,rfl⟩
   ·exact⟨_,_,rfl⟩
   ·exact⟨none,0,by rw [h0]⟩
  refine(CO (w:=w3) hE1 _ _ _).mono ?_
  rintro x w' ⟨rfl,os,rfl⟩
  refine⟨rfl,rfl,h',uG (dI.refl hH) rfl rfl rfl (by simp) (fun b hb=> ?_),by rw [xg,hf]⟩
  simp only [grow,Array.getElem?_append,hb,if_true]
 have hY:2<=E.length:=by omega
 obtain⟨b2,cap,hk,rfl⟩:∃b2 cap,m1[2]? =some (some (b2,cap))/\v= .slice (some ⟨b2,0,none⟩) E.length cap:=by
  rcases hv with⟨bb,cc,h1,h2⟩|⟨_,h0,_⟩
  ·exact⟨bb,cc,h1,h2⟩
  ·omega
 obtain⟨_,h6,cur,hn,xc,hM,xa,hL⟩:=hH.get H2 H2 hk
 simp only [Nat.mul_one,ar]at xc hM hL
 obtain⟨_,h4,hX,hz,_,_,_,hD⟩:=hH.get H1 H1 hm1
 obtain⟨_,hZ,hW,hy,_,_,_,hC⟩:=hH.get H0 H0 hm0
 have l2:=(hH.lt H2 hk).2
 have l1:=(hH.lt H1 hm1).2
 have l0:=(hH.lt H0 hm0).2
 have xi:b1≠b2:=fun h=>by subst h;have:=hH.inj 1 2 _ _ _ _ _ H1 H2 hm1 hk;cases this
 have xh:b0≠b2:=fun h=>by subst h;have:=hH.inj 0 2 _ _ _ _ _ H0 H2 hm0 hk;cases this
 have hK:Holds (Value.int .i64) w3 b2 0 E.toArray:=fun j hj=>by
  have hO:j<E.length:=by simpa using hj
  obtain⟨_,hq⟩:=hL j _ (aZ (c:=ak) (FV hO))
  obtain⟨u,hu,_,hr⟩:=hq 0 _ rfl
  have xf:u= .int .i64 E[j]! :=hr
  subst xf
  refine⟨?_,?_⟩
  ·simp only [World.cell?,hn]
   simpa [getElem!_pos E j hO]using hu
  ·simp [World.frozen?,hn]
 have xb:w3.cell? ⟨b1,0,none⟩=some (.slice (some ⟨b2,0,none⟩) E.length cap):=by
  obtain⟨_,hq⟩:=hD 0 _ rfl
  obtain⟨u,hu,_,hr⟩:=hq 0 _ rfl
  rcases hr with hx|⟨ab,hab,hr⟩
  ·rw [H2]at hx;cases hx
  rw [H2]at hab;cases hab
  simp only [ar,hk,zqy,Prod.mk.injEq]at hr
  rcases hr with⟨bb,cc,⟨rfl,rfl⟩,rfl⟩|⟨hx,_⟩
  ·simp only [World.cell?,hz]
   simpa using hu
  ·cases hx
 have xd:RPL F1 w3 b0 0 [.view (vwA ae.ac ns)]:=by
  obtain⟨_,hq⟩:=hC 0 _ rfl
  obtain⟨u,hu,ho,hr⟩:=hq 0 _ rfl
  refine RPL.mk fun t c ht=> ?_
  obtain rfl:t=0:=by
   have:=(zqb.1 ht).1
   simp at this;omega
  obtain rfl:=Option.some.inj ht.symm
  exact⟨u,by simp only [World.cell?,hy];simpa using hu,ho,hr⟩
 have hA:=x9 (P:=prog) (g:=281) (f:=i9 ns) (p:=fun k=>isN ns k=true) (cs:=[.view (vwA ae.ac ns)]) (n:=E.length) (fun dk i j hd hp hi hj=>Cf ns dk hl hp i j (by omega) (by omega)) hH.old h6 l2 l1 l0 xi xh xb hM xa xd (d:=E.toArray) (by simp) hK
 have hs:=Ez (w:=w3) (g:=281) (blk:=b2) (c:=cap) (lb:= #[.pointer (some ⟨b0,0,none⟩),.pointer (some ⟨b1,0,none⟩)]) (d:=E.toArray) (i9 ns) (fun k=>isN ns k=true) (enters_of func281 (by kernel_rfl) rfl) (by simpa using hY) (by simpa using h20) (by simpa using hA) (fun i hi=>hE _ (by
  have hI:i<E.length:=by simpa using hi
  have:=zqd (FV hI)
  simp [getElem!_pos E i hI,hI])) hK l2
 simp only [List.size_toArray]at hs
 refine hs.mono ?_
 rintro x w' ⟨rfl,hS⟩
 have hB:(Sort.insertionSort (ltF (i9 ns)) E.toArray 0 E.length).size=E.length:=by
  have:=congrArg List.length (xF (i9 ns) E)
  have h3:=l6 (i9 ns) E
  unfold ix at h3
  rw [h3]at this
  simpa using this
 refine⟨rfl,rfl,_,yS hH H2 hk hB hS,?_⟩
 have:=xF (i9 ns) E
 simp only [List.size_toArray]at this
 rw [this,hf]
 rfl
end Go.Proofs.YtckchgoblpgpbaaGreat
namespace Go.Proofs.YtckchgoblpgpbaaGreat
open Go.Shelf Go.RowKit Go.Lib Go.Sort Am Go.Proofs.Tryz
set_option maxRecDepth 100000
theorem sF(ns:List ae)(n:Int)(nd:ae)(hl:ns.length<=1048576)(h1:1<=n)(h2:n<=1048576)(hx:ns[(n-1).toNat]? =some nd)(hkl:nd.kids.length<20)(hk:∀k∈nd.kids,isN ns k=true):bS prog 230 [.agg [.view (vwA ae.ac ns)],ai n] fun res hf=>res= .o 0/\hf=[⟨3,1,vw ak (ix (i9 ns) (nd.kids.filter (m6 ns)))⟩]:=by
 obtain⟨V,hV⟩:=nmE (vwA ae.ac ns)
 obtain⟨K,hK⟩:=nmE (vw ak nd.kids)
 obtain⟨Rt,hp⟩:=nmE (vw aC.c nd.table.rules)
 have xE:aN K=(nd.kids.length:Int):=by rw [ao,hK,ar]
 have xC:0<=aN K:=by omega
 have xD:aN K<=1048576:=by omega
 have ht:∀z:Int,(vw ak ((nd.kids.take z.toNat).filter (m6 ns))).length<=1048576:=fun z=>by
  rw [ar]
  have:=List.length_filter_le (m6 ns) (nd.kids.take z.toNat)
  simp only [List.length_take]at this
  omega
 have hm:∀(z:Int)(k:Int),0<=z->nd.kids[z.toNat]? =some k->vw ak ((nd.kids.take (z+1).toNat).filter (m6 ns))=vw ak ((nd.kids.take z.toNat).filter (m6 ns))++(if m6 ns k then [[.J k]]else []):=fun z k h0 hz=>by
  rw [yR h0 hz,xw]
  congr 1
  cases m6 ns k<;>rfl
 have cn:=bO ns n nd h1 h2 hx V K Rt hV hK hp
 rw [<-hV]
 refine rU [(9,.hand)] func230 fun g xB hd F ha hj hg hF=> ?_
 cbv
 (refine ad hg cn ?_)
 cbv
 have hb:nd.kids.length<=1048576:=by omega
 refine iA ([(9,.hand)]) ([]) ha hj hg bq (by kernel_rfl) K (fun x=>lc (ak x)) nd.kids hK hb (fun z(s:LLA×List Int)=>[(2,.p 0),(5,.p 1),(12,.v K),(13,.i (g .ln K)),(14,.i (z))]) (fun z(s:LLA×List Int)=>[.bx 28 1 [.view V],.bx 24 1 [.own 2],.rw ⟨3,1,s.1⟩]) (fun z(s:LLA×List Int)=>s.1=vw ak s.2/\(s.2.length:Int)<=z) (fun(s:LLA×List Int) rest=>s.2++rest.filter (m6 ns)) (nd.kids.filter (m6 ns)) ([],[]) rfl ⟨rfl,by simp⟩ (Wk.weak (wkG [some 0,some 1,none] zr5 ⟨wqE rfl rfl,wqB rfl ⟨zr1,zpt⟩,⟨_,rfl,rfl⟩,zpt⟩ (by decide) aB)) (fun z s B hz h0 hi he=> ?_) (fun z s x rest B z0 z1 z2 hx hy h0 hi hc e1 hB=> ?_)
 ·obtain⟨es,ks⟩:=s
  obtain⟨k1,k2⟩:=hi
  dsimp only at k1 k2 h0
  simp only [List.filter_nil,zpr]at h0
  rw [h0]at k1
  cbv;rw [he];cbv
  rw [hj,hV]
  show VC _ _ _ (.region _ _ _) (QE _) (lkT _) (toH _)
  apply Ha (ns:=ns) (E:=nd.kids.filter (m6 ns)) (hl:=hl) (tT:=28) (tI:=24)
  case hcd=>rfl
  case hN=>rfl
  case hhh=>rw [k1]
  case hE=>exact fun k hs=>hk k (List.mem_filter.1 hs).1
  case h20=>exact Nat.lt_of_le_of_lt (List.length_filter_le _ _) hkl
  any_goals rfl
  refine⟨_,_,rfl,rfl,?_⟩
  obtain⟨G,hG⟩:=nmE (vw ak (ix (i9 ns) (nd.kids.filter (m6 ns))))
  have pG:=pmV hG
  rw [<-hG]at hF⊢
  cbv
  exact bN hF rfl pG
 obtain⟨es,ks⟩:=s
 obtain⟨k1,k2⟩:=hi
 dsimp only at k1 k2 h0
 have hr:=hk x (zqd hx)
 obtain⟨q1,q2,y,hn⟩:=bd hr
 have hh:m6 ns x=(!y.style.hidden&& !y.style.apart):=by unfold m6;rw [hn]
 rw [List.filter_cons,hh]at h0
 clear hh
 have pE:=pmV k1
 have xF:es.length<=1048576:=by rw [k1,ar];omega
 obtain⟨Ky,ho⟩:=nmE (vw ak y.kids)
 obtain⟨Ry,hq⟩:=nmE (vw aC.c y.table.rules)
 have cy:=bO ns x y q1 (by omega) hn V Ky Ry hV ho hq
 obtain⟨c0,c1,⟨c2,c3,c4,c5,c6,c7,c8,c9,hv,hw,hA,⟨hC,hD⟩,⟨hH,hI⟩,⟨hJ,hL⟩,⟨hM,hO⟩,⟨hP,hQ⟩,⟨hR,hS⟩,⟨hT,hU⟩,hW,⟨⟨hX,hY⟩,⟨hZ,h3⟩,⟨h4,h5⟩,⟨h6,h7⟩,⟨h8,h9⟩,⟨xa,xb⟩⟩,⟨⟨xc,xd⟩,⟨xe,xf⟩,⟨xg,xh⟩,⟨xi,xj⟩,⟨xk,xl⟩,⟨xm,xn⟩⟩,⟨xo,xp,xq,xr⟩,⟨xs,xt,xu,xv⟩,xx,xy⟩,xz,⟨xA⟩⟩:=y
 replace h0:ks++(if(!c9&& !c8)=true then x::rest.filter (m6 ns)else rest.filter (m6 ns))=nd.kids.filter (m6 ns):=h0
 cbv;rw [hc];cbv;refine goX hg _ z0 hy rfl ?_;cbv
 (refine ad hg cy ?_)
 cbv
 cases c9<;>cases c8<;>cbv
 case false.false=>
  refine dg hg rfl (by decide) (by omega) ?_
  cbv
  rw [e1,fI hg]
  have hu:ay (es++[[.J x]])=true:=by
   have:es++[[.J x]]=vw ak (ks++[x]):=by rw [k1,xw];rfl
   rw [this];exact aD _ _
  exact hB ((es++[[.J x]],ks++[x])) _ _ ⟨by simpa using h0,⟨by rw [k1,xw];rfl,by simp;omega⟩⟩ (Wk.weak (wkG [some 0,some 1,some 5] zr5 ⟨wqE rfl rfl,wqB rfl ⟨zr1,zpt⟩,wqE rfl hu,zpt⟩ (by decide) aB))
 all_goals
  rw [e1]
  exact hB ((es,ks)) _ _ ⟨by simpa using h0,⟨k1,by simp only;omega⟩⟩ (Wk.weak (wkG [some 0,some 1,some 2] zr5 ⟨wqE rfl rfl,wqB rfl ⟨zr1,zpt⟩,wqE rfl pE,zpt⟩ (by decide) aB))
section
variable {P:Program}{n0 N:Nat}{g:Gd}
variable {K:Nat->Nat->Prop}
theorem Jv(hg:g=G0 P n0 N){es:LLA}{a:Int}(h0:0<=a)(h1:a<=aN es)(hK:∀j:Nat,j=a.toNat->K 0 j):g .SO es none (some a) K:=by
 subst hg
 have:=ao es
 exact⟨0,a.toNat,rfl,⟨h0,rfl⟩,zpn _,by omega,by simpa using hK _ rfl⟩
theorem Kc(hg:g=G0 P n0 N)(es:LLA)(a m:Nat):g .tk es a m=(es.drop a).take m:=by subst hg;rfl
theorem Ju(hg:g=G0 P n0 N){es:LLA}{a:Int}(h0:0<=a)(h1:a<=aN es)(hK:∀j m:Nat,j=a.toNat->m=es.length-j->K j m):g .SO es (some a) none K:=by
 subst hg
 have:=ao es
 exact⟨a.toNat,es.length,⟨h0,rfl⟩,rfl,by omega,zpk _,hK _ _ rfl rfl⟩
end
theorem yi(f:Int->Int):∀(xs acc:List Int),xs.foldl (fun a k=>(m8 f k a.reverse).reverse) acc=(xs.foldl (fun a k=>m8 f k a) acc.reverse).reverse
 | [],acc=>by simp
 |x::xs,acc=>by rw [List.foldl_cons,yi f xs,List.foldl_cons,List.reverse_reverse]
theorem BS(f:Int->Int)(xs:List Int):xs.foldl (fun a k=>(m8 f k a.reverse).reverse) []=ix f xs:=yi f xs []
theorem rC(ns:List ae)(n:Int)(nd:ae)(hs:∀y∈ns,ae.small y)(ht:dl ns=true)(hl:ns.length<=1048576)(h1:1<=n)(h2:n<=(ns.length:Int))(hx:ns[(n-1).toNat]? =some nd)(hkl:nd.kids.length<=1048576)(hk:∀k∈nd.kids,isN ns k=true):bS prog 206 [.agg [.view (vwA ae.ac ns)],ai n] fun res hD=>res= .o 0/\hD=[⟨3,1,vw ak (ix (i9 ns) (nd.kids.filter (m6 ns)))⟩]:=by
 have cT:=jZ ns hl hs
 rw [ht]at cT
 obtain⟨V,hV⟩:=nmE (vwA ae.ac ns)
 have x2:aN V=(ns.length:Int):=by rw [ao,hV,bu]
 have cI:=gW V n
 rw [show rng n 1 (aN V)=true by simp only [rng,zqs,zqp];omega]at cI
 obtain⟨K,hK⟩:=nmE (vw ak nd.kids)
 obtain⟨Rt,xM⟩:=nmE (vw aC.c nd.table.rules)
 obtain⟨G,hG⟩:=nmE (vw ak (ix (i9 ns) (nd.kids.filter (m6 ns))))
 have pG:=pmV hG
 have x1:aN K=(nd.kids.length:Int):=by rw [ao,hK,ar]
 have xZ:0<=aN K:=by omega
 have x0:aN K<=1048576:=by omega
 have cn:=bg ns n nd h1 (by omega) hx V K Rt hV hK xM
 rw [<-hV]at cT
 rw [<-hV,<-hG]
 refine rU [(13,.hand)] func206 fun g xY hd F hh hv hg hF=> ?_
 cbv
 (refine ad hg cT ?_)
 cbv
 (refine ad hg cI ?_)
 cbv
 (refine ad hg cn ?_)
 cbv
 refine iA ([(13,.hand)]) ([]) hh hv hg bq (by kernel_rfl) K (fun x=>lc (ak x)) nd.kids hK hkl (fun z(s:LLA×List Int)=>[(2,.p 0),(5,.o 1),(6,.v K),(7,.i (z))]) (fun z(s:LLA×List Int)=>[.bx 28 1 [.view V],.rw ⟨3,1,s.1⟩]) (fun z(s:LLA×List Int)=>s.1=vw ak s.2/\(s.2.length:Int)<=z/\∀k∈s.2,isN ns k=true) (fun(s:LLA×List Int) rest=>(rest.filter (m6 ns)).foldl (fun a k=>(m8 (i9 ns) k a.reverse).reverse) s.2) (ix (i9 ns) (nd.kids.filter (m6 ns))) ([],[]) (by simp only;exact BS _ _) ⟨rfl,by simp,by simp⟩ (Wk.weak (wkG [some 0,some 1] zr4 ⟨wqE rfl rfl,wqE rfl rfl,zpt⟩ (by decide) aB)) (fun z s B hz h0 hi he=> ?_) (fun z s x rest B z0 z1 z2 hx hy h0 hi hc e1 hB=> ?_)
 ·obtain⟨es,ks⟩:=s
  obtain⟨k1,k2,k3⟩:=hi
  dsimp only at k1 k2 h0
  simp only [List.filter_nil,List.foldl_nil]at h0
  rw [h0,<-hG]at k1
  subst k1
  cbv;rw [he];cbv
  exact bN hF rfl pG
 obtain⟨es,ks⟩:=s
 obtain⟨k1,k2,k3⟩:=hi
 dsimp only at k1 k2 k3 h0
 have xD:=hk x (zqd hx)
 obtain⟨q1,q2,y,hC⟩:=bd xD
 have hf:m6 ns x=(!y.style.hidden&& !y.style.apart):=by unfold m6;rw [hC]
 have hu:i9 ns x=y.style.order:=by unfold i9;rw [hC]
 rw [List.filter_cons,hf]at h0
 clear hf
 have pE:=pmV k1
 have xS:es.length<=1048576:=by rw [k1,ar];omega
 obtain⟨Ky,xK⟩:=nmE (vw ak y.kids)
 obtain⟨Ry,xN⟩:=nmE (vw aC.c y.table.rules)
 have cy:=bg ns x y q1 (by omega) hC V Ky Ry hV xK xN
 obtain⟨c0,c1,⟨c2,c3,c4,c5,c6,c7,c8,c9,hb,hE,hH,⟨hI,hJ⟩,⟨hL,hM⟩,⟨hN,hO⟩,⟨hP,hQ⟩,⟨hR,hS⟩,⟨hT,hU⟩,⟨hW,hY⟩,hZ,⟨⟨h3,h4⟩,⟨h5,h6⟩,⟨h7,h8⟩,⟨h9,xa⟩,⟨xb,xc⟩,⟨xd,xe⟩⟩,⟨⟨xf,xg⟩,⟨xh,xi⟩,⟨xk,xl⟩,⟨xm,xn⟩,⟨xo,xp⟩,⟨xq,xr⟩⟩,⟨xs,xt,xu,xv⟩,⟨xx,xy,xz,xA⟩,xB,xC⟩,xW,⟨xX⟩⟩:=y
 replace h0:(if(!c9&& !c8)=true then x::rest.filter (m6 ns)else rest.filter (m6 ns)).foldl (fun a k=>(m8 (i9 ns) k a.reverse).reverse) ks=ix (i9 ns) (nd.kids.filter (m6 ns)):=h0
 replace hu:i9 ns x=hb:=hu
 have lF:(((m8 (i9 ns) x ks.reverse).reverse).length:Int)<=z+1:=by rw [List.length_reverse,wI,List.length_reverse];omega
 cbv;rw [hc];cbv;refine goX hg _ z0 hy rfl ?_;cbv
 (refine aa hg cy ?_)
 cbv
 cases c9<;>cases c8<;>cbv
 case false.false=>
  simp only [Bool.not_false,Bool.and_self,if_true,List.foldl_cons]at h0
  have a0:0<=aN es:=by rw [ao];omega
  have a1:aN es<=1048576:=by rw [ao];omega
  have x4:aN es=(ks.length:Int):=by rw [k1,ao,ar]
  rw [bz hg]
  refine gu [(13,.hand)] [] hh hv hg bq (by kernel_rfl) (fun a:Int=>[(2,.p 0),(5,.o 1),(6,.v K),(7,.i (z)),(8,.p 2),(9,.i (a))]) (fun a=>[.bx 28 1 [.view V],.rw ⟨3,1,es⟩,.bx 36 60 [.J c2,.J c3,.J c4,.J c5,.J c6,.J c7,.B false,.B false,.J hb,.J hE,.J hH,.J hI,.J hJ,.J hL,.J hM,.J hN,.J hO,.J hP,.J hQ,.J hR,.J hS,.J hT,.J hU,.J hW,.J hY,.J hZ,.J h3,.J h4,.J h5,.J h6,.J h7,.J h8,.J h9,.J xa,.J xb,.J xc,.J xd,.J xe,.J xf,.J xg,.J xh,.J xi,.J xk,.J xl,.J xm,.J xn,.J xo,.J xp,.J xq,.J xr,.J xs,.J xt,.J xu,.J xv,.J xx,.J xy,.J xz,.J xA,.J xB,.J xC]]) (fun a=>0<=a/\a<=aN es/\∀(i:Nat)(q:Int),a.toNat<=i->ks[i]? =some q->hb<i9 ns q) (fun a=>a.toNat) (aN es) ⟨a0,zpc _,fun i q hi hq=> ?_⟩ (Wk.weak (wkG [some 0,some 1,some 2] zr6 ⟨wqE rfl rfl,wqE rfl pE,wqE rfl rfl,zpt⟩ (by decide) aB)) (fun a B2 ha xH=> ?_)
  ·have:=(zqb.1 hq).1;omega
  obtain⟨b0,b1,b2⟩:=ha
  have eA:∀j:Nat,g .ap [] (g .tk es 0 j)=vw ak (ks.take j):=fun j=>by rw [fI hg,Kc hg,k1];simp [vw,List.map_take]
  have xV:ks.length<=1048576:=by omega
  have eB:∀j:Nat,g .ap (g .ap [] (g .tk es 0 j)) [[.J x]]=vw ak (ks.take j++[x]):=fun j=>by rw [eA j,fI hg,xw];rfl
  have eC:∀j m:Nat,m=es.length-j->g .tk es j m=vw ak (ks.drop j):=fun j m hm=>by
   rw [Kc hg,hm,k1]
   simp only [vw,<-List.map_drop,zql]
   rw [List.take_of_length_le (by simp)]
  have pM:∀{A:Prop}{n:Nat},A->n<=3000000->A/\n*8<=140737488355328/\n<=4611686018427387904:=fun hA hn=>⟨hA,by omega,by omega⟩
  have mF:∀k∈(m8 (i9 ns) x ks.reverse).reverse,isN ns k=true:=fun k hr=>by
   rw [List.mem_reverse,wH,List.mem_reverse]at hr
   rcases hr with rfl|h
   ·exact xD
   ·exact k3 k h
  have pN:∀{A:Prop}{n:Nat},A->n<=1048576->A/\(0+n)*8<=140737488355328/\0+n<=4611686018427387904:=fun hA hn=>⟨hA,by omega,by omega⟩
  have ho:(a=0\/∃q,ks[a.toNat-1]? =some q/\¬hb<i9 ns q)->(m8 (i9 ns) x ks.reverse).reverse=ks.take a.toNat++x::ks.drop a.toNat:=fun hc=>by
   refine DC (i9 ns) x ks a.toNat (by omega) ?_ (fun i q hi hq=>by rw [hu];exact b2 i q hi hq)
   rcases hc with rfl|⟨q,h1,h2⟩
   ·exact .inl rfl
   ·exact .inr ⟨q,h1,by rw [hu];exact h2⟩
  have t0:g .q .gtr a 0=decide (0<a):=by rw [dm hg]
  have ew:0<a->g .w .sub .i64 a 1=a-1:=fun h=>by rw [cu hg,aq _ (by omega)]
  have l1:0<a->(a-1).toNat<ks.length:=fun h=>by omega
  have l2:0<a->a-1<aN es:=fun h=>by omega
  cbv
  rw [t0]
  by_cases hf:0<a
  case' pos=>
   rw [zqu hf]
   cbv
   rw [ew hf]
   have xQ:=l1 hf
   have xR:=l2 hf
   have hq:ks[(a-1).toNat]? =some ks[(a-1).toNat]:=zqc xQ
   obtain⟨q,xT⟩:=nmE (ks[(a-1).toNat])
   rw [<-xT]at hq
   obtain⟨r1,r2,yq,xG⟩:=bd (k3 q (zqd hq))
   obtain⟨Kq,xJ⟩:=nmE (vw ak yq.kids)
   obtain⟨Rq,xL⟩:=nmE (vw aC.c yq.table.rules)
   have cq:=bg ns q yq r1 (by omega) xG V Kq Rq hV xJ xL
   have xE:i9 ns q=yq.style.order:=by unfold i9;rw [xG]
   refine goY hg (by omega) xR fun j hj x3=> ?_
   cbv
   refine⟨_,by rw [hj,k1];exact aZ hq,?_⟩
   cbv
   (refine aa hg cq ?_)
   cbv
   have tq:g .q .gtr yq.style.order hb=decide (hb<yq.style.order):=dm hg _ _
   cases hd:g .q .gtr yq.style.order hb
   rotate_left
   ·have xO:hb<i9 ns q:=by rw [xE];exact of_decide_eq_true (tq.symm.trans hd)
    cbv
    rw [ew hf,xH]
    refine⟨a-1,⟨by omega,by omega,fun i p hi hp=> ?_⟩,by omega,Wk.weak (wkG [some 0,some 1,some 2] zr6 ⟨wqE rfl rfl,wqE rfl pE,wqE rfl rfl,zpt⟩ (by decide) aB)⟩
    by_cases hi2:a.toNat<=i
    ·exact b2 i p hi2 hp
    ·obtain rfl:i=(a-1).toNat:=by omega
     rw [hq]at hp
     cases hp
     exact xO
   have xF:=ho (.inr ⟨q,by rw [show a.toNat-1=(a-1).toNat by omega];exact hq,by rw [xE];exact of_decide_eq_false (tq.symm.trans hd)⟩)
  case' neg=>
   rw [zqt hf]
   have xF:=ho (.inl (by omega))
  all_goals
   cbv
   obtain⟨X,hX⟩:=nmE (vw ak (ks.take a.toNat++[x]))
   refine bP hg hv bq [1,2,3,5,6,7,8] (.op 0 [] (.op 4 [] (.op 9 [] (.op 10 [11] .done .none) .none) (.op 9 [] (.op 4 [] (.op 10 [11] .done .none) .none) .none)) (.op 9 [] (.op 0 [] (.op 4 [] (.op 10 [11] .done .none) .none) .none) .none)) (by kernel_rfl) (by kernel_rfl) (S:=LLA) (fun s=>s=X) (fun _=>[(2,.p 0),(5,.o 1),(6,.v K),(7,.i (z)),(8,.p 2),(9,.i (a)),(10,.o 3)]) (fun s=>[.bx 28 1 [.view V],.rw ⟨3,1,es⟩,.bx 36 60 [.J c2,.J c3,.J c4,.J c5,.J c6,.J c7,.B false,.B false,.J hb,.J hE,.J hH,.J hI,.J hJ,.J hL,.J hM,.J hN,.J hO,.J hP,.J hQ,.J hR,.J hS,.J hT,.J hU,.J hW,.J hY,.J hZ,.J h3,.J h4,.J h5,.J h6,.J h7,.J h8,.J h9,.J xa,.J xb,.J xc,.J xd,.J xe,.J xf,.J xg,.J xh,.J xi,.J xk,.J xl,.J xm,.J xn,.J xo,.J xp,.J xq,.J xr,.J xs,.J xt,.J xu,.J xv,.J xx,.J xy,.J xz,.J xA,.J xB,.J xC],.rw ⟨3,1,s⟩]) (fun BL xI=> ?_) (fun s xU=> ?_)
   ·cbv
    (repeat'(first|exact trivial|exact rfl|(refine Jv hg b0 b1 fun j hj=> ?_;cbv)|(subst_vars;exact rfl)|((first|refine goX hg _ z0 hy rfl ?_|refine goN hg (pN (by rw [Kc hg,k1];exact fun y hy=>xj (c:=ak) (k:=1) (fun _=>rfl) y (List.mem_of_mem_drop (List.mem_of_mem_take hy))) (by rw [Kc hg];exact zpb (List.length_take_le' _ _) (by simpa using xS))) ?_|refine dg hg rfl (by decide) (by show(g .ap [] (g .tk es 0 _)).length<=_;rw [eA,ar];exact zpb (List.length_take_le' _ _) xV) ?_);cbv)|exact xI _ (by rw [eB,hX];subst_vars;rfl) _ _ (Wk.weak (wkG [some 0,some 1,some 2,some 6] zr7 ⟨wqE rfl rfl,wqE rfl pE,wqE rfl rfl,wqE rfl (by rw [eB];exact aD _ _),zpt⟩ (by decide) aB))|refine And.intro ?_ ?_))
   subst xU
   cbv
   refine Ju hg b0 b1 fun j2 m2 xP hw=> ?_
   cbv
   refine goN hg (pM (by show∀y∈g .tk es j2 m2,_;rw [eC j2 m2 hw];exact xj (c:=ak) (k:=1) (fun _=>rfl)) (by
    show s.length+(g .tk es j2 m2).length<=_
    rw [hX,eC j2 m2 hw,ar,ar]
    simp only [zqe,List.length_take,List.length_drop,zqm]
    omega)) ?_
   cbv
   rw [e1]
   have eF:g .ap s (g .tk es j2 m2)=vw ak ((m8 (i9 ns) x ks.reverse).reverse):=by
    rw [hX,eC j2 m2 hw,fI hg,<-xw,xF,xP]
    simp
   have pF:ay (g .ap s (g .tk es j2 m2))=true:=by rw [eF];exact aD _ _
   skip
   exact hB ((_,(m8 (i9 ns) x ks.reverse).reverse)) _ _ ⟨h0,⟨eF,lF,fun k hr=>(mF k hr)⟩⟩ (Wk.weak (wkG [some 0,some 4] zr4 ⟨wqE rfl rfl,wqE rfl pF,zpt⟩ (by decide) aB))
 skip
 all_goals
  rw [e1]
  exact hB ((es,ks)) _ _ ⟨by simpa using h0,⟨k1,by simp only;omega,k3⟩⟩ (Wk.weak (wkG [some 0,some 1] zr4 ⟨wqE rfl rfl,wqE rfl pE,zpt⟩ (by decide) aB))
end Go.Proofs.YtckchgoblpgpbaaGreat
namespace Go.Proofs.YtckchgoblpgpbaaGreat
open Go.ChangeShapes Go.WideShapes Go.ChangeAt Go.RowKit Am Go.Proofs.Tryz
set_option maxRecDepth 100000
def nwL(n:Int)(s:ah)(row:Bool)(al ac:aK)(kn:Int)(K:AC):List AC:= .J n::(lc (ah.c s)++[.B row,.J al.mode,.J al.n,.J ac.mode,.J ac.n,.J kn,K])
def plL(n:Int)(s:ah)(wd hg:aK)(row:Bool)(iw ih al ac:aK)(K:AC):List AC:= .J n::(lc (ah.c s)++[.J wd.mode,.J wd.n,.J hg.mode,.J hg.n,.B row,.J iw.mode,.J iw.n,.J ih.mode,.J ih.n,.J al.mode,.J al.n,.J ac.mode,.J ac.n,K])
def inW(s:ah)(w:aK):aK:=qE w (vc s true)
def inH(s:ah)(h:aK):aK:=qE h (vc s false)
def sdM(s:ah)(rtl main:Bool):Int×Int:=if main then(sd1 (kf s) (mc s rtl),sd2 (kf s) (mc s rtl))else(sd1 (!kf s) (mE s rtl),sd2 (!kf s) (mE s rtl))
def sdB(s k:ah)(rtl main:Bool)(base:Int):aw:=⟨0,jv k.margin (sdM s rtl main).1 rtl base,jv k.margin (sdM s rtl main).2 rtl base,xn k.margin (sdM s rtl main).1 rtl,xn k.margin (sdM s rtl main).2 rtl,0,0⟩
theorem fX(ns:List ae)(hl:ns.length<=1048576)(kid:Int)(y:ae)(h1:isN ns kid=true)(hy:ns[(kid-1).toNat]? =some y)(rtl main kp:Bool)(C D:AC)(n:Int)(s:ah)(row:Bool)(al ac:aK)(kn:Int)(K:LLA):PC0 255 [.c (.eptr [.view (vwA ae.ac ns),.B rtl,.B kp,C,D] 0),.agg (nwL n s row al ac kn (.view K)),ai kid,abl main] (.t (.agg (lc (aw.c (sdB s y.style rtl main kn))))):=by
 obtain⟨V,hV⟩:=nmE (vwA ae.ac ns)
 obtain⟨Ky,hh⟩:=nmE (vw ak y.kids)
 obtain⟨Ry,hi⟩:=nmE (vw aC.c y.table.rules)
 have b2:=bd h1
 have cy:=bg ns kid y b2.1 (by have:=b2.2.1;omega) hy V Ky Ry hV hh hi
 have cm:=qp s rtl
 have cc:=pd s rtl
 obtain⟨p1,ha⟩:=nmE ((sdM s rtl main).1)
 obtain⟨p2,hb⟩:=nmE ((sdM s rtl main).2)
 have m1:=dJ y.style.margin p1 rtl kn
 have m2:=dJ y.style.margin p2 rtl kn
 have a1:=lV y.style.margin p1 rtl
 have a2:=lV y.style.margin p2 rtl
 rw [<-hV]
 unfold sdB
 rw [<-ha,<-hb]
 obtain⟨M1,he⟩:=nmE (jv y.style.margin p1 rtl kn)
 obtain⟨M2,hf⟩:=nmE (jv y.style.margin p2 rtl kn)
 obtain⟨A1,hc⟩:=nmE (xn y.style.margin p1 rtl)
 obtain⟨A2,hd⟩:=nmE (xn y.style.margin p2 rtl)
 rw [<-he]at m1⊢
 rw [<-hf]at m2⊢
 rw [<-hc]at a1⊢
 rw [<-hd]at a2⊢
 clear he hf hc hd
 cases main
 all_goals
  simp only [sdM,if_true,if_false,Bool.false_eq_true]at ha hb
  first|rw [<-ha,<-hb]at cm|rw [<-ha,<-hb]at cc
  refine aV func255 fun g F hg hF=> ?_
  cbv
  repeat'((first|refine aa hg cm ?_|refine aa hg cc ?_|refine ad hg cy ?_|refine aa hg m1 ?_|refine aa hg m2 ?_|refine aa hg a1 ?_|refine aa hg a2 ?_);cbv)
  refine gf hF ?_ ?_<;>first|rfl|exact⟨rfl,rfl⟩
theorem gc(V:LLA)(rtl:Bool)(n:Int)(s k:ah)(wd hg2:aK)(row:Bool)(iw ih al ac:aK)(K:LLA)(p q:Int):PC0 234 [.agg [.view V,.B rtl,.imm (.pointer none)],.agg (plL n s wd hg2 row iw ih al ac (.view K)),.agg (lc (ah.c k)),ai p,ai q] (.tup [ai (jv k.margin p rtl (knS iw)),ai (jv k.margin q rtl (knS iw))]):=by
 have ck:=eX iw.mode iw.n
 have m1:=gd k.margin p rtl (knS iw)
 have m2:=gd k.margin q rtl (knS iw)
 obtain⟨B,hB⟩:=nmE (knS iw)
 change PC0 _ _ (.i (knS iw))at ck
 rw [<-hB]at ck m1 m2⊢
 obtain⟨M1,ha⟩:=nmE (jv k.margin p rtl B)
 obtain⟨M2,hb⟩:=nmE (jv k.margin q rtl B)
 rw [<-ha]at m1⊢
 rw [<-hb]at m2⊢
 clear ha hb hB
 refine aV func234 fun g F hg hF=> ?_
 cbv
 repeat'((first|refine ad hg ck ?_|refine aa hg m1 ?_|refine aa hg m2 ?_);cbv)
 refine gf hF ?_ ?_<;>first|rfl|exact⟨rfl,rfl⟩
theorem vE(ns:List ae)(n:Int)(x:ae)(hs:∀y∈ns,ae.small y)(ht:dl ns=true)(hl:ns.length<=1048576)(h1:1<=n)(h2:n<=(ns.length:Int))(hx:ns[(n-1).toNat]? =some x)(hkl:x.kids.length<=1048576)(hk:∀k∈x.kids,isN ns k=true)(a b c d:Int):PC0 147 [.agg [.view (vwA ae.ac ns)],ai n,agP ⟨a,b⟩,agP ⟨c,d⟩] (.t (.agg (nwL n x.style (kf x.style) (if kf x.style then inW x.style ⟨a,b⟩else inH x.style ⟨c,d⟩) (if kf x.style then inH x.style ⟨c,d⟩else inW x.style ⟨a,b⟩) (knS (inW x.style ⟨a,b⟩)) (.view (vw ak (ix (i9 ns) (x.kids.filter (m6 ns)))))))):=by
 have cF:=rC ns n x hs ht hl h1 h2 hx hkl hk
 obtain⟨V,hV⟩:=nmE (vwA ae.ac ns)
 obtain⟨K,hK⟩:=nmE (vw ak x.kids)
 obtain⟨R,hR⟩:=nmE (vw aC.c x.table.rules)
 obtain⟨G,hG⟩:=nmE (vw ak (ix (i9 ns) (x.kids.filter (m6 ns))))
 have iG:=imV hG
 have kG:=kmV (k:=1) hG fun _=>rfl
 have dG:=dmV hG
 have cn:=bg ns n x h1 (by omega) hx V K R hV hK hR
 have cr:=gX x.style
 have f1:=ig x.style true
 have f2:=ig x.style false
 have i1:=dB a b (vc x.style true)
 have i2:=dB c d (vc x.style false)
 obtain⟨w1,w2,hW⟩:∃w1 w2,(⟨w1,w2⟩:aK)=inW x.style ⟨a,b⟩:=⟨_,_,rfl⟩
 obtain⟨q1,q2,hH⟩:∃q1 q2,(⟨q1,q2⟩:aK)=inH x.style ⟨c,d⟩:=⟨_,_,rfl⟩
 have ck:=du w1 w2
 rw [<-hV,<-hG]at cF
 rw [<-hV,<-hG,<-hW,<-hH]
 change PC0 _ _ (.t (agP (inW x.style ⟨a,b⟩)))at i1
 change PC0 _ _ (.t (agP (inH x.style ⟨c,d⟩)))at i2
 rw [<-hW]at i1
 rw [<-hH]at i2
 obtain⟨kn,hc⟩:=nmE (knS ⟨w1,w2⟩)
 obtain⟨F1,ha⟩:=nmE (vc x.style true)
 obtain⟨F2,hb⟩:=nmE (vc x.style false)
 rw [<-hc]at ck⊢
 rw [<-ha]at f1 i1
 rw [<-hb]at f2 i2
 cases hr:kf x.style
 all_goals
  rw [hr]at cr
  simp only [if_true,if_false,Bool.false_eq_true]
  refine aV func147 fun g F hg hF=> ?_
  cbv
  repeat'((first|refine ad hg cn ?_|refine aa hg cr ?_|refine aa hg f1 ?_|refine aa hg f2 ?_|refine aa hg i1 ?_|refine aa hg i2 ?_|refine ad hg ck ?_|refine bU hg cF (bn rfl) iG ?_);cbv)
  refine vg [.agg (nwL n x.style _ _ _ _ (.view G))] hF (.agg (by repeat'(first|exact .nil|exact .imm _|exact aX (ab:=⟨_,_,G⟩) rfl kG dG|refine .cons ?_ ?_)) .nil) ⟨rfl,rfl⟩
def Kg:AC->Bool
 | .imm _=>true
 | .view _=>true
 | .eptr _ _=>true
 |_=>false
theorem Hr{F:Nat->Prop}{w:World}{m:AM}{h:AH}{x:AT}{v:Value}(hp:x.cells.all Kg=true)(hv:RT F w m h x v):RT F w [] [] x v:=by
 have ha:∀(c:AC)(u:Value),Kg c=true->RC F w m h c u->RC F w [] [] c u:=by
  intro c u hc hr
  cases c<;>first|exact hr|cases hc
 cases x with
 |c y=>exact ha y v (by simpa [AT.cells]using hp) hv
 |agg xs=>
  obtain⟨vs,h1,h2,h3⟩:=hv
  exact⟨vs,h1,h2,fun j y hj=>let⟨u,hu,ho,hr⟩:=h3 j y hj;⟨u,hu,ho,ha y u (zqf.1 hp y (zqd hj)) hr⟩⟩
variable {args:List AT}{P:Program}
theorem FL{f:FuncId}{h:AH}{Post:AV->List AB->Prop}(hc:bS P f args Post)(hp:(args.all fun x=>x.cells.all Kg)=true):Con P f h args fun res h'=>∃r rows,Post r rows/\res=r.shift h.length/\h'=h++(rows.map (AB.shift h.length)).map .live:=
 ⟨hc.1,fun F w m vs hH hl hx=>(hc.2 F w [] vs (RH.empty hH.old (zpn _)) hl (fun j x hj=>by
  obtain⟨v,hv,hr⟩:=hx j x hj
  exact⟨v,hv,Hr (zqf.1 hp x (zqd hj)) hr⟩)).mono fun e w''⟨v,res,h',m',F1,he,⟨rows,hh,hpost⟩,hG,hs,hv⟩=>by
  subst hh
  obtain⟨m2,F2,g1,g2,g3⟩:=dI.of_outG hH (jf (n:=h.length) hG hs hv)
  exact⟨v,_,_,m2,F2,he,⟨res,rows,hpost,rfl,rfl⟩,g1,g2,g3⟩⟩
theorem D3{n0 N:Nat}{h:EH}{g:Gd}(hg:g=G0 P n0 N){f:FuncId}{K:AV->EH->Prop}{r:AV}(hc:bS P f args fun res ha=>res=r/\ha=[])(hp:(args.all fun x=>x.cells.all Kg)=true)(hr:dv r=true)(hK:K r (h++[])):g .C f h args K:=by
 subst hg
 refine(FL (h:=toH h) hc hp).mono fun res h'⟨r0,ha,⟨e1,e2⟩,h1,h2⟩=> ?_
 subst e1 e2
 subst h1 h2
 exact⟨h,by simp,by rw [ea hr];simpa using hK⟩
def H8(s k:ah)(rtl row:Bool)(ac:aK)(kn:Int):aK:=
 let sd:=sdB s k rtl false kn
 let b:=wrap64 (sd.before+sd.behind)
 if qL k (!row) (knS ac)≠ -1 then⟨3,mG k (!row) (knS ac) (qL k (!row) (knS ac))⟩
 else if Bq {sd with align:=Cv s k}=true/\s.wrap=1/\ac.mode=3 then⟨3,mG k (!row) (knS ac) (wrap64 (ac.n-b))⟩
 else E7 (qE ac b)
theorem lK(ns:List ae)(hl:ns.length<=1048576)(kid:Int)(y:ae)(h1:isN ns kid=true)(hy:ns[(kid-1).toNat]? =some y)(rtl kp:Bool)(C D:AC)(n:Int)(s:ah)(row:Bool)(al ac:aK)(kn:Int)(K:LLA):PC0 261 [.c (.eptr [.view (vwA ae.ac ns),.B rtl,.B kp,C,D] 0),.agg (nwL n s row al ac kn (.view K)),ai kid] (.t (agP (H8 s y.style rtl row ac kn))):=by
 obtain⟨Ky,ho⟩:=nmE (vw ak y.kids)
 obtain⟨Ry,hp⟩:=nmE (vw aC.c y.table.rules)
 have b2:=bd h1
 have cs:=fX ns hl kid y h1 hy rtl false kp C D n s row al ac kn K
 obtain⟨V,hV⟩:=nmE (vwA ae.ac ns)
 have cy:=bg ns kid y b2.1 (by have:=b2.2.1;omega) hy V Ky Ry hV ho hp
 have ck:=du ac.mode ac.n
 change PC0 _ _ (.i (knS ac))at ck
 have cf:=eN y.style (!row) (knS ac)
 have cb:=cY y.style (!row) (knS ac) (qL y.style (!row) (knS ac))
 have ca:=nm s y.style
 have ci:=fun z=>dB ac.mode ac.n z
 have cL:=lU
 obtain⟨R,hR⟩:=nmE (H8 s y.style rtl row ac kn)
 rw [<-hV]at cs
 rw [<-hV,<-hR]
 unfold H8 at hR
 simp only at hR
 obtain⟨SD,hn⟩:=nmE (sdB s y.style rtl false kn)
 rw [<-hn]at cs hR
 clear hn
 obtain⟨am,an⟩:=ac
 obtain⟨KN,hm⟩:=nmE (knS ⟨am,an⟩)
 rw [<-hm]at ck cf cb hR
 have cb:=fun z=>cY y.style (!row) KN z
 obtain⟨FX,hk⟩:=nmE (qL y.style (!row) KN)
 rw [<-hk]at cf hR
 obtain⟨AL,hh⟩:=nmE (Cv s y.style)
 rw [<-hh]at ca hR
 clear hh hk hm
 have cF:=pU {SD with align:=AL}
 have cB:=jl {SD with align:=AL}
 change PC0 _ _ (.i (wrap64 (SD.before+SD.behind)))at cB
 obtain⟨FB,hj⟩:∃S,S=Bq {SD with align:=AL}:=⟨_,rfl⟩
 rw [<-hj]at cF hR
 obtain⟨BB,hi⟩:=nmE (wrap64 (SD.before+SD.behind))
 rw [<-hi]at cB hR
 clear hj hi
 have ci:=ci BB
 change PC0 _ _ (.t (agP (qE ⟨am,an⟩ BB)))at ci
 obtain⟨i1,i2,hI⟩:∃i1 i2,(⟨i1,i2⟩:aK)=qE ⟨am,an⟩ BB:=⟨_,_,rfl⟩
 rw [<-hI]at ci hR
 clear hI
 have cL:=cL i1 i2
 obtain⟨l1,l2,hL⟩:∃j1 j2,(⟨j1,j2⟩:aK)=E7 ⟨i1,i2⟩:=⟨_,_,rfl⟩
 rw [<-hL]at cL hR
 clear hL
 obtain⟨ZZ,he⟩:=nmE (wrap64 (an-BB))
 have ha:=cb FX
 have hb:=cb ZZ
 obtain⟨B1,hc⟩:=nmE (mG y.style (!row) KN FX)
 obtain⟨B2,hd⟩:=nmE (mG y.style (!row) KN ZZ)
 rw [<-he,<-hc,<-hd]at hR
 rw [<-hc]at ha
 rw [<-hd]at hb
 clear hc hd cb
 obtain⟨wr,hf⟩:=nmE s.wrap
 rw [<-hf]at hR
 by_cases q1:FX= -1
 ·simp only [q1,ne_eq,not_true_eq_false,if_false]at hR
  subst q1
  have t1:∀g:Gd,g=G0 prog 0 f261.ntmps->g .q .neq (-1) (-1)=false:=fun g hg=>by rw [bC hg];rfl
  have t2:∀g:Gd,g=G0 prog 0 f261.ntmps->g .q .eql s.wrap 1=decide (wr=1):=fun g hg=>by rw [bj hg,hf];exact zqn _ _
  have t3:∀g:Gd,g=G0 prog 0 f261.ntmps->g .q .eql am 3=decide (am=3):=fun g hg=>by rw [bj hg];exact zqn _ _
  have t4:∀g:Gd,g=G0 prog 0 f261.ntmps->g .w .sub .i64 an BB=ZZ:=fun g hg=>by rw [cu hg,he]
  clear hf he
  cases FB
  case false=>
   simp only [Bool.false_eq_true,false_and,if_false]at hR
   rw [hR]
   clear hR
   refine aV func261 fun g F hg hF=> ?_
   have t1:=t1 g hg
   cbv
   repeat'((first|refine ad hg cy ?_|refine ad hg ck ?_);cbv)
   refine D3 hg cs rfl rfl ?_
   cbv
   repeat'(refine ad hg cf ?_;cbv)
   rw [t1]
   cbv
   repeat'((first|refine ad hg ca ?_|refine ad hg cF ?_|refine aa hg cB ?_|refine aa hg ci ?_|refine aa hg cL ?_);cbv)
   exact mA hF ⟨rfl,rfl⟩
  by_cases q2:wr=1
  case neg=>
   simp only [q2,false_and,and_false,if_false]at hR
   rw [hR]
   clear hR
   refine aV func261 fun g F hg hF=> ?_
   have t1:=t1 g hg
   have t2:=t2 g hg
   rw [zqt q2]at t2
   cbv
   repeat'((first|refine ad hg cy ?_|refine ad hg ck ?_);cbv)
   refine D3 hg cs rfl rfl ?_
   cbv
   repeat'(refine ad hg cf ?_;cbv)
   rw [t1]
   cbv
   repeat'((first|refine ad hg ca ?_|refine ad hg cF ?_);cbv)
   rw [t2]
   cbv
   repeat'((first|refine aa hg cB ?_|refine aa hg ci ?_|refine aa hg cL ?_);cbv)
   exact mA hF ⟨rfl,rfl⟩
  by_cases q3:am=3
  case neg=>
   simp only [q3,false_and,and_false,if_false]at hR
   rw [hR]
   clear hR
   refine aV func261 fun g F hg hF=> ?_
   have t1:=t1 g hg
   have t2:=t2 g hg
   have t3:=t3 g hg
   rw [zqu q2]at t2
   rw [zqt q3]at t3
   cbv
   repeat'((first|refine ad hg cy ?_|refine ad hg ck ?_);cbv)
   refine D3 hg cs rfl rfl ?_
   cbv
   repeat'(refine ad hg cf ?_;cbv)
   rw [t1]
   cbv
   repeat'((first|refine ad hg ca ?_|refine ad hg cF ?_);cbv)
   rw [t2]
   cbv
   rw [t3]
   cbv
   repeat'((first|refine aa hg cB ?_|refine aa hg ci ?_|refine aa hg cL ?_);cbv)
   exact mA hF ⟨rfl,rfl⟩
  simp only [q2,q3,and_self,if_true]at hR
  rw [hR]
  clear hR
  refine aV func261 fun g F hg hF=> ?_
  have t1:=t1 g hg
  have t2:=t2 g hg
  have t3:=t3 g hg
  have t4:=t4 g hg
  rw [zqu q2]at t2
  rw [zqu q3]at t3
  cbv
  repeat'((first|refine ad hg cy ?_|refine ad hg ck ?_);cbv)
  refine D3 hg cs rfl rfl ?_
  cbv
  repeat'(refine ad hg cf ?_;cbv)
  rw [t1]
  cbv
  repeat'((first|refine ad hg ca ?_|refine ad hg cF ?_);cbv)
  rw [t2]
  cbv
  rw [t3]
  cbv
  repeat'(refine aa hg cB ?_;cbv)
  rw [t4]
  repeat'(refine aa hg hb ?_;cbv)
  exact mA hF ⟨rfl,rfl⟩
 ·simp only [q1,ne_eq,not_false_eq_true,if_true]at hR
  rw [hR]
  clear hR
  refine aV func261 fun g F hg hF=> ?_
  have t1:g .q .neq FX (-1)=true:=by rw [bC hg];simp [q1]
  cbv
  repeat'((first|refine ad hg cy ?_|refine ad hg ck ?_);cbv)
  refine D3 hg cs rfl rfl ?_
  cbv
  repeat'(refine ad hg cf ?_;cbv)
  rw [t1]
  cbv
  repeat'(refine ad hg ha ?_;cbv)
  exact mA hF ⟨rfl,rfl⟩
theorem wq(ns:List ae)(n:Int)(x:ae)(hl:ns.length<=1048576)(h1:1<=n)(h2:n<=1048576)(hx:ns[(n-1).toNat]? =some x)(hkl:x.kids.length<20)(hk:∀k∈x.kids,isN ns k=true)(rtl:Bool)(a b c d:Int):PC0 169 [.agg [.view (vwA ae.ac ns),.B rtl,.imm (.pointer none)],ai n,agP ⟨a,b⟩,agP ⟨c,d⟩] (.t (.agg (plL n x.style ⟨a,b⟩ ⟨c,d⟩ (kf x.style) (inW x.style ⟨a,b⟩) (inH x.style ⟨c,d⟩) (if kf x.style then inW x.style ⟨a,b⟩else inH x.style ⟨c,d⟩) (if kf x.style then inH x.style ⟨c,d⟩else inW x.style ⟨a,b⟩) (.view (vw ak (ix (i9 ns) (x.kids.filter (m6 ns)))))))):=by
 have cF:=sF ns n x hl h1 h2 hx hkl hk
 obtain⟨V,hV⟩:=nmE (vwA ae.ac ns)
 obtain⟨K,hK⟩:=nmE (vw ak x.kids)
 obtain⟨R,hR⟩:=nmE (vw aC.c x.table.rules)
 obtain⟨G,hG⟩:=nmE (vw ak (ix (i9 ns) (x.kids.filter (m6 ns))))
 have iG:=imV hG
 have kG:=kmV (k:=1) hG fun _=>rfl
 have dG:=dmV hG
 have cn:=bO ns n x h1 (by omega) hx V K R hV hK hR
 have cr:=ia x.style
 have cf:=e9 x.style
 obtain⟨e1,e2,e3,e4,hE⟩:∃e1 e2 e3 e4,(⟨e1,e2,e3,e4⟩:dr)=mz x.style:=⟨_,_,_,_,rfl⟩
 rw [<-hE]at cf
 have f1:=ei e1 e2 e3 e4
 have f2:=ek e1 e2 e3 e4
 obtain⟨F1,ha⟩:=nmE (vc x.style true)
 obtain⟨F2,hb⟩:=nmE (vc x.style false)
 have z1:adE e1 e3=F1:=by rw [ha];simp only [vc,<-hE,if_true]
 have z2:adE e2 e4=F2:=by rw [hb];simp only [vc,<-hE,if_false,Bool.false_eq_true]
 rw [z1]at f1
 rw [z2]at f2
 have i1:=eY a b F1
 have i2:=eY c d F2
 obtain⟨w1,w2,hW⟩:∃w1 w2,(⟨w1,w2⟩:aK)=inW x.style ⟨a,b⟩:=⟨_,_,rfl⟩
 obtain⟨q1,q2,hH⟩:∃q1 q2,(⟨q1,q2⟩:aK)=inH x.style ⟨c,d⟩:=⟨_,_,rfl⟩
 have y1:qE ⟨a,b⟩ F1=⟨w1,w2⟩:=by rw [ha];exact hW.symm
 have y2:qE ⟨c,d⟩ F2=⟨q1,q2⟩:=by rw [hb];exact hH.symm
 rw [y1]at i1
 rw [y2]at i2
 rw [<-hV,<-hG]at cF
 rw [<-hV,<-hG,<-hW,<-hH]
 clear ha hb z1 z2 y1 y2 hW hH
 cases hr:kf x.style
 all_goals
  rw [hr]at cr
  simp only [if_true,if_false,Bool.false_eq_true]
  refine aV func169 fun g F hg hF=> ?_
  cbv
  repeat'((first|refine ad hg cn ?_|refine aa hg cr ?_|refine aa hg cf ?_|refine aa hg f1 ?_|refine aa hg f2 ?_|refine aa hg i1 ?_|refine aa hg i2 ?_|refine bU hg cF (bn rfl) iG ?_);cbv)
  refine vg [.agg (plL n x.style _ _ _ _ _ _ _ (.view G))] hF (.agg (by repeat'(first|exact .nil|exact .imm _|exact aX (ab:=⟨_,_,G⟩) rfl kG dG|refine .cons ?_ ?_)) .nil) ⟨rfl,rfl⟩
theorem ld(ns:List ae)(hl:ns.length<=1048576)(kid:Int)(y:ae)(h1:isN ns kid=true)(hy:ns[(kid-1).toNat]? =some y)(rtl:Bool)(n:Int)(s:ah)(wd hgh:aK)(row:Bool)(iw ih al ac:aK)(K:LLA):PC0 240 [.agg [.view (vwA ae.ac ns),.B rtl,.imm (.pointer none)],.agg (plL n s wd hgh row iw ih al ac (.view K)),ai kid] (.t (agP (H8 s y.style rtl row ac (knS iw)))):=by
 obtain⟨Ky,hu⟩:=nmE (vw ak y.kids)
 obtain⟨Ry,hv⟩:=nmE (vw aC.c y.table.rules)
 have b2:=bd h1
 obtain⟨V,hV⟩:=nmE (vwA ae.ac ns)
 have cy:=bO ns kid y b2.1 (by have:=b2.2.1;omega) hy V Ky Ry hV hu hv
 have ck:=eX ac.mode ac.n
 change PC0 _ _ (.i (knS ac))at ck
 have cf:=fc y.style (!row) (knS ac)
 have cb:=fun z=>dF y.style (!row) (knS ac) z
 have cx:=fun z=>dD z
 have cs:=jS s rtl
 have cm:=fun p q=>gc V rtl n s y.style wd hgh row iw ih al ac K p q
 have ca:=nw s y.style
 have ci:=fun z=>eY ac.mode ac.n z
 have cL:=mu
 obtain⟨R,hR⟩:=nmE (H8 s y.style rtl row ac (knS iw))
 rw [<-hV,<-hR]
 unfold H8 sdB at hR
 simp only [sdM,Bool.false_eq_true,if_false,Bq]at hR
 obtain⟨p,hp⟩:=nmE (sd1 (!kf s) (mE s rtl))
 obtain⟨q,hq⟩:=nmE (sd2 (!kf s) (mE s rtl))
 rw [<-hp,<-hq]at cs hR
 clear hp hq
 have cm:=cm p q
 have c1:=dP y.style.margin p rtl
 have c2:=dP y.style.margin q rtl
 obtain⟨M1,hr⟩:=nmE (jv y.style.margin p rtl (knS iw))
 obtain⟨M2,hs⟩:=nmE (jv y.style.margin q rtl (knS iw))
 obtain⟨A1,hk⟩:=nmE (xn y.style.margin p rtl)
 obtain⟨A2,hm⟩:=nmE (xn y.style.margin q rtl)
 rw [<-hr,<-hs]at cm hR
 rw [<-hk]at c1 hR
 rw [<-hm]at c2 hR
 clear hr hs hk hm
 obtain⟨am,an⟩:=ac
 obtain⟨KN,he⟩:=nmE (knS ⟨am,an⟩)
 rw [<-he]at ck cf hR
 simp only [<-he]at cb
 obtain⟨FX,ho⟩:=nmE (qL y.style (!row) KN)
 rw [<-ho]at cf hR
 obtain⟨AL,hn⟩:=nmE (Cv s y.style)
 rw [<-hn]at ca hR
 clear hn ho he
 obtain⟨BB,hd⟩:=nmE (wrap64 (M1+M2))
 rw [<-hd]at hR
 have ci:=ci BB
 change PC0 _ _ (.t (agP (qE ⟨am,an⟩ BB)))at ci
 obtain⟨i1,i2,hI⟩:∃i1 i2,(⟨i1,i2⟩:aK)=qE ⟨am,an⟩ BB:=⟨_,_,rfl⟩
 rw [<-hI]at ci hR
 clear hI
 have cL:=cL i1 i2
 obtain⟨l1,l2,hL⟩:∃j1 j2,(⟨j1,j2⟩:aK)=E7 ⟨i1,i2⟩:=⟨_,_,rfl⟩
 rw [<-hL]at cL hR
 clear hL
 obtain⟨ZZ,hf⟩:=nmE (wrap64 (an-BB))
 have ha:=cb FX
 have hi:=cb ZZ
 obtain⟨B1,hb⟩:=nmE (mG y.style (!row) KN FX)
 obtain⟨B2,hc⟩:=nmE (mG y.style (!row) KN ZZ)
 rw [<-hf,<-hb,<-hc]at hR
 rw [<-hb]at ha
 rw [<-hc]at hi
 clear hb hc cb
 have hj:=cx B1
 have ht:=cx B2
 obtain⟨wr,hh⟩:=nmE s.wrap
 rw [<-hh]at hR
 by_cases q1:FX= -1
 ·simp only [q1,ne_eq,not_true_eq_false,if_false]at hR
  subst q1
  have t1:∀g:Gd,g=G0 prog 0 f240.ntmps->g .q .neq (-1) (-1)=false:=fun g hg=>by rw [bC hg];rfl
  have t2:∀g:Gd,g=G0 prog 0 f240.ntmps->g .q .eql s.wrap 1=decide (wr=1):=fun g hg=>by rw [bj hg,hh];exact zqn _ _
  have t3:∀g:Gd,g=G0 prog 0 f240.ntmps->g .q .eql am 3=decide (am=3):=fun g hg=>by rw [bj hg];exact zqn _ _
  have t4:∀g:Gd,g=G0 prog 0 f240.ntmps->g .w .sub .i64 an BB=ZZ:=fun g hg=>by rw [cu hg,hf]
  have t5:∀g:Gd,g=G0 prog 0 f240.ntmps->g .q .eql AL 1=decide (AL=1):=fun g hg=>by rw [bj hg];exact zqn _ _
  have t6:∀g:Gd,g=G0 prog 0 f240.ntmps->g .w .add .i64 M1 M2=BB:=fun g hg=>by rw [aG hg,hd]
  clear hh hf hd
  cases A1<;>cases A2<;>by_cases q0:AL=1
  by_cases q2:wr=1
  by_cases q3:am=3
  all_goals
   (try simp only [q2]at hR)
   (try simp only [q3]at hR)
   simp only [q0,decide_true,decide_false,Bool.not_false,Bool.not_true,Bool.and_self,Bool.and_true,Bool.true_and,Bool.and_false,Bool.false_and,Bool.false_eq_true,and_self,and_true,true_and,and_false,false_and,if_true,if_false]at hR
   rw [hR]
   clear hR
   refine aV func240 fun g F hg hF=> ?_
   have t1:=t1 g hg
   have t2:=t2 g hg
   have t3:=t3 g hg
   have t4:=t4 g hg
   have t5:=t5 g hg
   have t6:=t6 g hg
   (try first|rw [zqu q2]at t2|rw [zqt q2]at t2)
   (try first|rw [zqu q3]at t3|rw [zqt q3]at t3)
   first|rw [zqu q0]at t5|rw [zqt q0]at t5
   cbv
   repeat'(first|((first|refine ad hg cy ?_|refine ad hg ck ?_|refine ad hg cf ?_|rw [t1]|refine ad hg cs ?_|refine ad hg cm ?_|refine ad hg c1 ?_|refine ad hg c2 ?_|refine ad hg ca ?_|rw [t5]|rw [t2]|rw [t3]);cbv)|(rw [t6];first|rw [t4]|skip)|((first|refine ad hg hi ?_|refine ad hg ht ?_|refine ad hg ci ?_|refine ad hg cL ?_);cbv))
   exact mA hF ⟨rfl,rfl⟩
 ·simp only [q1,ne_eq,not_false_eq_true,if_true]at hR
  rw [hR]
  clear hR
  refine aV func240 fun g F hg hF=> ?_
  have t1:g .q .neq FX (-1)=true:=by rw [bC hg];simp [q1]
  cbv
  repeat'((first|refine ad hg cy ?_|refine ad hg ck ?_|refine ad hg cf ?_);cbv)
  rw [t1]
  cbv
  repeat'((first|refine ad hg ha ?_|refine ad hg hj ?_);cbv)
  exact mA hF ⟨rfl,rfl⟩
def flK(ns:List ae)(n:Int):List Int:=ix (i9 ns) ((kt ns n).filter (m6 ns))
theorem GS(xs:List Int)(n:Int):0<=cnt xs n/\(n∈xs->1<=cnt xs n):=by
 induction xs with
 |nil=>simp [cnt]
 |cons x xs ih=>
  have e:cnt (x::xs) n=(if x=n then 1 else 0)+cnt xs n:=by simp [cnt]
  rw [e]
  obtain⟨i1,i2⟩:=ih
  by_cases hx:x=n
  ·rw [if_pos hx];exact⟨by omega,fun _=>by omega⟩
  ·rw [if_neg hx]
   refine⟨by omega,fun h=> ?_⟩
   rcases zph.1 h with h|h
   ·exact absurd h.symm hx
   ·have:=i2 h;omega
theorem xV:∀(xs:List Int),(∀k∈xs,cnt xs k=1)->xs.Nodup
 | [],_=>List.nodup_nil
 |x::xs,h=>by
  have e:∀n,cnt (x::xs) n=(if x=n then 1 else 0)+cnt xs n:=fun n=>by simp [cnt]
  have hx:x∉xs:=fun hm=>by
   have h1:=h x (zpd ..)
   rw [e,if_pos rfl]at h1
   have:=(GS xs x).2 hm
   omega
  refine List.nodup_cons.2 ⟨hx,xV xs fun k hk=> ?_⟩
  have h1:=h k (zpe _ hk)
  rw [e,if_neg (fun hxk:x=k=>hx (by rw [hxk];exact hk))]at h1
  omega
theorem Gq:∀(M:Nat)(xs:List Int),xs.Nodup->(∀k∈xs,1<=k/\k<=(M:Int))->xs.length<=M
 |0,xs,_,h=>by
  cases xs with
  |nil=>simp
  |cons x xs=>have:=h x (zpd ..);omega
 |M+1,xs,hn,h=>by
  have h1:=Gq M (xs.erase ((M:Int)+1)) (hn.erase _) (fun k hk=>by
   have ha:=(hn.mem_erase_iff).1 hk
   have:=h k ha.2
   have hb:=ha.1
   omega)
  by_cases hm:(M:Int)+1∈xs
  ·have h2:=List.length_erase_of_mem hm
   have:=List.length_pos_of_mem hm
   omega
  ·rw [List.erase_of_not_mem hm]at h1;omega
variable {ns:List ae}
theorem Et(h:dl ns=true):ns.length<=12:=by
 simp only [dl,zqs,zqp]at h
 omega
theorem lB(h:dl ns=true){n:Int}{x:ae}(h1:1<=n)(hx:ns[(n-1).toNat]? =some x):x.kids.length<=12:=by
 have hk:=fk h h1 hx
 have hl:=Et h
 have h2:∀k∈x.kids,upN ns k=n:=fun k ha=>by
  have h3:=h
  simp only [dl,zqs]at h3
  have:=(kC ns ns 0).1 h3.2 _ x hx
  simp only [fP,zqs,zqf,jR,zqp]at this
  have:=(this.2.2.2.1 k ha).2
  omega
 have hb:x.kids.Nodup:=xV _ fun k ha=>by
  obtain⟨k1,k2,y,hy⟩:=bd (hk k ha)
  have h3:=h
  simp only [dl,zqs]at h3
  have h4:=(kC ns ns 0).1 h3.2 _ y hy
  simp only [fP,zqs,Ga,Bool.or_eq_true,zqp]at h4
  have hu:y.up=n:=by have:=h2 k ha;unfold upN at this;rw [hy]at this;exact this
  have h5:=h4.2.2.1
  rw [hu]at h5
  have h6:kt ns n=x.kids:=by simp only [kt,hx]
  rw [h6,show(0:Int)+(((k-1).toNat:Nat):Int)+1=k by omega]at h5
  rcases h5 with h5|h5
  ·omega
  ·exact h5
 have:=Gq 12 x.kids hb fun k ha=>by
  obtain⟨k1,k2,y,hy⟩:=bd (hk k ha)
  omega
 exact this
def xx(x:af):Int:=if 0<=x.most/\x.most<x.least then x.least else x.most
def ru(x:af):Int:=if x.most<x.least then x.least else x.most
def uj(x:af):Bool:=rng x.base 0 1048576&&(rng x.least 0 1048576&&(rng x.most (-1) 1048576&&(rng x.grow 0 1000&&(rng x.shrink 0 1000&&(rng x.before (-1048576) 1048576&&rng x.behind (-1048576) 1048576)))))
def er(xs:List af):Bool:=xs.all uj&&decide ((xs.length:Int)<=12)
def wgt(gr:Bool)(x:af):Int:=if gr then x.grow else wrap64 (x.shrink*x.base)
def DF(xs:List af)(gap inner:Int):Bool:=decide (wrap64 (iz xs (xs.map hyp) gap)<inner)
def Cz(ws:List Int):Bool:=ws.all (fun w=>rng w 0 1073741824)&&decide ((ws.length:Int)<=64)
def pJ:Int->List Int->Int
 |a,[]=>a
 |a,w::ws=>pJ (wrap64 (a+w)) ws
def shG(n all:Int):Int->List Int->List Int
 |_,[]=>[]
 |s,w::ws=>wrap64 (fdv (wrap64 (n*wrap64 (s+w))) all-fdv (wrap64 (n*s)) all)::shG n all (wrap64 (s+w)) ws
def shr(n:Int)(ws:List Int):List Int:=if Cz ws then shG (sg n) (pJ 0 ws) 0 ws else []
theorem yU(n all:Int):∀(s:Int)(ws:List Int),(shG n all s ws).length=ws.length
 |_,[]=>rfl
 |s,w::ws=>by simp [shG,yU n all]
def itA(xs:List af)(i:Int):af:=xs[i.toNat]?.getD ⟨0,0,0,0,0,0,0,false,false⟩
def fre:Int->List Bool->List Int
 |_,[]=>[]
 |i,f::fs=>if f then fre (i+1) fs else i::fre (i+1) fs
def mix:List af->List Bool->List Int->List Int
 |x::xs,f::fs,s::ss=>(if f then s else x.base)::mix xs fs ss
 |_,_,_=>[]
def xl(xs:List af)(ss:List Int)(gap inner:Int)(gr:Bool):Int:=
 let n:=wrap64 (inner-wrap64 (iz xs ss gap))
 if(gr=true/\n<0)\/(gr=false/\0<n)then 0 else sg n
def tgt(gr:Bool)(all rest:Int)(x:af):Int:=wrap64 (wrap64 (x.base*all)+wrap64 (rest*wgt gr x))
def qX(gr:Bool)(all rest:Int)(x:af):Bool:=decide (tgt gr all rest x<wrap64 (x.least*all))
def wQ(gr:Bool)(all rest:Int)(x:af):Bool:=decide (0<=x.most)&&decide (wrap64 (ru x*all)<tgt gr all rest x)
def xk(gr:Bool)(all rest:Int)(v:Int)(x:af):Int:=
 if qX gr all rest x then wrap64 (v+wrap64 (wrap64 (x.least*all)-tgt gr all rest x))else if wQ gr all rest x then wrap64 (v-wrap64 (tgt gr all rest x-wrap64 (ru x*all)))else v
def ovr(gr:Bool)(all rest:Int)(x:af):Int:=
 if qX gr all rest x then wrap64 (wrap64 (x.least*all)-tgt gr all rest x)else if 0<=x.most/\wrap64 (xx x*all)<tgt gr all rest x then wrap64 (wrap64 (xx x*all)-tgt gr all rest x)else 0
def qv(ps:List (Int×Int))(l:List Int):List Int:=ps.foldl (fun l p=>l.set p.1.toNat p.2) l
def pX(is:List Int)(l:List Bool):List Bool:=is.foldl (fun l i=>l.set i.toNat true) l
structure Fx where
 xs:List af
 gap:Int
 inner:Int
 gr:Bool
def Fx.ws(X:Fx)(fr:List Bool):List Int:=(fre 0 fr).map fun i=>wgt X.gr (itA X.xs i)
def Fx.all(X:Fx)(fr:List Bool):Int:=pJ 0 (X.ws fr)
def Fx.low(X:Fx)(fr:List Bool)(rest:Int):List Int:=(fre 0 fr).filter fun i=>qX X.gr (X.all fr) rest (itA X.xs i)
def Fx.hig(X:Fx)(fr:List Bool)(rest:Int):List Int:=(fre 0 fr).filter fun i=> !qX X.gr (X.all fr) rest (itA X.xs i)&&wQ X.gr (X.all fr) rest (itA X.xs i)
def Fx.vio(X:Fx)(fr:List Bool)(rest:Int):Int:=(fre 0 fr).foldl (fun v i=>xk X.gr (X.all fr) rest v (itA X.xs i)) 0
def Fx.shs(X:Fx)(fr:List Bool)(rest:Int):List (Int×Int):=((fre 0 fr).zip (shr rest (X.ws fr))).map fun p=>(p.1,cl (wrap64 ((itA X.xs p.1).base+p.2)))
def Fx.setI(X:Fx)(fr:List Bool)(rest:Int):List (Int×Int):=
 if X.low fr rest=[]/\X.hig fr rest=[]then X.shs fr rest
 else(if 0<=X.vio fr rest then(X.low fr rest).map fun i=>(i,(itA X.xs i).least)else [])++(if X.vio fr rest<=0 then(X.hig fr rest).map fun i=>(i,ru (itA X.xs i))else [])
def Fx.rI(X:Fx)(fr:List Bool)(sz:List Int):Int:=xl X.xs (mix X.xs fr sz) X.gap X.inner X.gr
def Fx.runI(X:Fx):Nat->List Int->List Bool->Option (List Int)
 |0,_,_=>none
 |k+1,sz,fr=>if fre 0 fr=[]then some sz else X.runI k (qv (X.setI fr (X.rI fr sz)) sz) (pX ((X.setI fr (X.rI fr sz)).map (·.1)) fr)
def Fx.ovs(X:Fx)(fr:List Bool)(rest:Int):List Int:=(fre 0 fr).map fun i=>ovr X.gr (X.all fr) rest (itA X.xs i)
def Fx.setS(X:Fx)(fr:List Bool)(rest:Int):List (Int×Int):=
 let some_:=(X.ovs fr rest).any fun o=>o !=0
 let sum:=pJ 0 (X.ovs fr rest)
 ((fre 0 fr).zip ((X.ovs fr rest).zip (shr rest (X.ws fr)))).filterMap fun p=>
  if some_=false then some (p.1,cl (wrap64 ((itA X.xs p.1).base+p.2.2)))
  else if 0<p.2.1/\0<=sum then some (p.1,(itA X.xs p.1).least)
  else if p.2.1<0/\sum<=0 then some (p.1,xx (itA X.xs p.1))else none
def Fx.runS(X:Fx):Nat->List Int->List Bool->Option (List Int)
 |0,_,_=>none
 |k+1,sz,fr=>if fre 0 fr=[]then some sz else X.runS k (qv (X.setS fr (xl X.xs sz X.gap X.inner X.gr)) sz) (pX ((X.setS fr (xl X.xs sz X.gap X.inner X.gr)).map (·.1)) fr)
theorem Dj:∀(xs:List af)(fr:List Bool)(sz:List Int),fr.length=xs.length->sz.length=xs.length->(mix xs fr sz).length=xs.length
 | [],_,_,_,_=>rfl
 |x::xs,f::fs,s::ss,h1,h2=>by simp only [mix,zqx];rw [Dj xs fs ss (by simpa using h1) (by simpa using h2)]
 |_::_,[],_,h,_=>by simp at h
 |_::_,_::_,[],_,h=>by simp at h
theorem Di:∀(xs:List af)(fr:List Bool)(sz:List Int)(j:Nat)(v:Int),fr.length=xs.length->sz.length=xs.length->mix xs (fr.set j true) (sz.set j v)=(mix xs fr sz).set j v
 | [],_,_,_,_,_,_=>by simp [mix]
 |x::xs,f::fs,s::ss,0,v,h1,h2=>by simp [mix]
 |x::xs,f::fs,s::ss,j+1,v,h1,h2=>by simp only [List.set_cons_succ,mix];rw [Di xs fs ss j v (by simpa using h1) (by simpa using h2)]
 |_::_,[],_,_,_,h,_=>by simp at h
 |_::_,_::_,[],_,_,_,h=>by simp at h
theorem n6:∀(ps:List (Int×Int))(l:List Int),(qv ps l).length=l.length
 | [],_=>rfl
 |p::ps,l=>by show(qv ps _).length=_;rw [n6 ps];simp
theorem n7:∀(ps:List Int)(l:List Bool),(pX ps l).length=l.length
 | [],_=>rfl
 |p::ps,l=>by show(pX ps _).length=_;rw [n7 ps];simp
theorem AW(xs:List af):∀(ps:List (Int×Int))(fr:List Bool)(sz:List Int),fr.length=xs.length->sz.length=xs.length->mix xs (pX (ps.map (·.1)) fr) (qv ps sz)=qv ps (mix xs fr sz)
 | [],_,_,_,_=>rfl
 |p::ps,fr,sz,h1,h2=>by
  show mix xs (pX (ps.map (·.1)) (fr.set p.1.toNat true)) (qv ps (sz.set p.1.toNat p.2))=qv ps ((mix xs fr sz).set p.1.toNat p.2)
  rw [AW xs ps _ _ (by simpa using h1) (by simpa using h2),Di xs fr sz _ _ h1 h2]
theorem AX:∀(xs:List af)(fr:List Bool)(sz:List Int)(i:Int),fr.length=xs.length->sz.length=xs.length->fre i fr=[]->mix xs fr sz=sz
 | [],_,[],_,_,_,_=>rfl
 | [],_,_::_,_,_,h,_=>by simp at h
 |x::xs,f::fs,s::ss,i,h1,h2,h3=>by
  simp only [fre]at h3
  cases f with
  |false=>simp at h3
  |true=>
   simp only [if_true]at h3
   simp only [mix,if_true]
   rw [AX xs fs ss (i+1) (by simpa using h1) (by simpa using h2) h3]
 |_::_,[],_,_,h,_,_=>by simp at h
 |_::_,_::_,[],_,_,h,_=>by simp at h
theorem ik:∀(fr:List Bool)(i:Int),0<=i->∀j∈fre i fr,i<=j/\j<i+fr.length/\fr[(j-i).toNat]? =some false
 | [],_,_,j,h=>by simp [fre]at h
 |f::fs,i,h0,j,h=>by
  have ha:j∈fre (i+1) fs->i<=j/\j<i+(f::fs).length/\(f::fs)[(j-i).toNat]? =some false:=fun h=>by
   have:=ik fs (i+1) (by omega) j h
   simp only [zqx]
   refine⟨by omega,by omega,?_⟩
   rw [show(j-i).toNat=(j-(i+1)).toNat+1 by omega]
   exact this.2.2
  simp only [fre]at h
  cases f with
  |true=>exact ha (by simpa using h)
  |false=>
   simp only [Bool.false_eq_true,if_false,zph]at h
   rcases h with rfl|h
   ·exact⟨zpc _,by simp;omega,by simp⟩
   ·exact ha h
theorem wU:∀(fr:List Bool)(i:Int),0<=i->(fre i fr).Pairwise (·< ·)
 | [],_,_=> .nil
 |f::fs,i,h0=>by
  simp only [fre]
  cases f with
  |true=>simpa using wU fs (i+1) (by omega)
  |false=>
   simp only [Bool.false_eq_true,if_false]
   exact .cons (fun j hj=>by have:=ik fs (i+1) (by omega) j hj;omega) (wU fs (i+1) (by omega))
theorem CS{ps qs:List (Int×Int)}(hp:ps.Perm qs):(ps.Pairwise fun a b=>a.1.toNat≠b.1.toNat)->∀l,qv ps l=qv qs l:=by
 induction hp with
 |nil=>intro _ _;rfl
 |cons x _ ih=>intro h l;cases h with|cons h1 h2=>exact ih h2 _
 |swap x y l0=>
  intro h l
  cases h with
  |cons h1 h2=>
   have hb:y.1.toNat≠x.1.toNat:=h1 x (by simp)
   show qv l0 ((l.set _ _).set _ _)=qv l0 ((l.set _ _).set _ _)
   rw [List.set_comm _ _ hb]
 |trans h1 _ ih1 ih2=>intro h l;rw [ih1 h l,ih2 (h1.pairwise h fun ha=>Ne.symm ha) l]
theorem CU{ps qs:List Int}(hp:ps.Perm qs):∀l,pX ps l=pX qs l:=by
 induction hp with
 |nil=>intro _;rfl
 |cons x _ ih=>intro l;exact ih _
 |swap x y l0=>
  intro l
  show pX l0 ((l.set _ _).set _ _)=pX l0 ((l.set _ _).set _ _)
  by_cases h:x.toNat=y.toNat
  ·rw [h]
  ·rw [List.set_comm _ _ (Ne.symm h)]
 |trans h1 _ ih1 ih2=>intro l;rw [ih1,ih2]
theorem Aa{α β:Type}(p q:α->Bool)(f g:α->β):∀(l:List α),((l.filter p).map f++(l.filter fun a=> !p a&&q a).map g).Perm (l.filterMap fun a=>if p a then some (f a)else if q a then some (g a)else none)
 | []=> .nil
 |a::l=>by
  have ih:=Aa p q f g l
  simp only [List.filter_cons,List.filterMap_cons]
  cases p a with
  |true=>simpa using ih
  |false=>
   cases q a with
   |true=>simp only [Bool.false_eq_true,if_false,Bool.not_false,Bool.and_self,if_true,zqA];exact(List.perm_middle).trans (.cons _ ih)
   |false=>simpa using ih
structure ItB(x:af):Prop where
 b0:0<=x.base
 b1:x.base<=1048576
 l0:0<=x.least
 l1:x.least<=1048576
 m0: -1<=x.most
 m1:x.most<=1048576
 g0:0<=x.grow
 g1:x.grow<=1000
 s0:0<=x.shrink
 s1:x.shrink<=1000
 f0: -1048576<=x.before
 f1:x.before<=1048576
 h0: -1048576<=x.behind
 h1:x.behind<=1048576
theorem ItB.of{x:af}(h:uj x=true):ItB x:=by
 simp only [uj,rng,zqs,zqp]at h
 constructor<;>omega
variable {xs:List af}
theorem fq(h:er xs=true):(∀x∈xs,ItB x)/\xs.length<=12:=by
 simp only [er,zqs,zqp,zqf]at h
 exact⟨fun x hx=> .of (h.1 x hx),by omega⟩
theorem DB(h:∀x∈xs,ItB x)(i:Int):ItB (itA xs i):=by
 unfold itA
 cases hx:xs[i.toNat]? with
 |none=>constructor<;>decide
 |some x=>exact h x (zqd hx)
theorem uW{a b A B:Int}(h0:0<=a)(h1:a<=A)(h2:0<=b)(h3:b<=B):0<=a*b/\a*b<=A*B:=⟨Int.mul_nonneg h0 h2,Int.mul_le_mul h1 h3 h2 (by omega)⟩
theorem Jc{a b A B:Int}(h0: -A<=a)(h1:a<=A)(h2:0<=b)(h3:b<=B): -(A*B)<=a*b/\a*b<=A*B:=by
 have hA:0<=A:=by omega
 rcases Int.le_total 0 a with h|h
 ·have:=uW h h1 h2 h3
  have:=Int.mul_nonneg hA (show 0<=B by omega)
  omega
 ·have:=uW (show 0<= -a by omega) (show-a<=A by omega) h2 h3
  rw [Int.neg_mul]at this
  have:=Int.mul_nonneg hA (show 0<=B by omega)
  omega
theorem F7{x:af}(h:ItB x)(gr:Bool):0<=wgt gr x/\wgt gr x<=1048576000/\(gr=false->wgt gr x=x.shrink*x.base):=by
 obtain⟨h1,h2⟩:=uW h.s0 h.s1 h.b0 h.b1
 have:=h.g0
 have:=h.g1
 cases gr with
 |true=>exact⟨by simp only [wgt,if_true];omega,by simp only [wgt,if_true];omega,fun h=>by cases h⟩
 |false=>
  simp only [wgt,Bool.false_eq_true,if_false]
  have:wrap64 (x.shrink*x.base)=x.shrink*x.base:=by unfold wrap64;omega
  rw [this];omega
theorem yL:∀(ws:List Int)(a:Int)(k:Nat),(∀w∈ws,-144115188075855872<=w/\w<=144115188075855872)-> -(144115188075855872*(k:Int))<=a->a<=144115188075855872*(k:Int)->k+ws.length<=24->pJ a ws=a+ws.sum
 | [],a,k,_,_,_,_=>by simp [pJ]
 |w::ws,a,k,h,h0,h1,h2=>by
  have hw:=h w (by simp)
  simp only [zqx]at h2
  have hk:(k:Int)<=23:=by omega
  have e:wrap64 (a+w)=a+w:=by unfold wrap64;omega
  rw [pJ,e,yL ws (a+w) (k+1) (fun x hx=>h x (by simp [hx])) (by omega) (by omega) (by omega),List.sum_cons]
  omega
theorem Gc:∀(ws:List Int),(∀w∈ws,0<=w/\w<=1048576000)->0<=ws.sum/\ws.sum<=1048576000*(ws.length:Int)
 | [],_=>by simp
 |w::ws,h=>by
  have:=Gc ws (fun x hx=>h x (by simp [hx]))
  have:=h w (by simp)
  simp only [List.sum_cons,zqx]
  omega
theorem kD:∀(fr:List Bool)(i:Int),(fre i fr).length<=fr.length
 | [],_=>by simp [fre]
 |f::fs,i=>by
  have:=kD fs (i+1)
  cases f<;>simp [fre]<;>omega
section
variable {X:Fx}(hX:er X.xs = true)
include hX
theorem Fx.ws_bd(fr:List Bool):∀w∈X.ws fr,0<=w/\w<=1048576000:=by
 intro w hw
 simp only [Fx.ws,List.mem_map]at hw
 obtain⟨i,_,rfl⟩:=hw
 have:=F7 (DB (fq hX).1 i) X.gr
 omega
variable {fr:List Bool}
theorem Fx.all_eq(hf:fr.length=X.xs.length):X.all fr=(X.ws fr).sum/\0<=X.all fr/\X.all fr<=12582912000:=by
 have h1:=X.ws_bd hX fr
 have h2:=Gc _ h1
 have h3:=(fq hX).2
 have h4:(X.ws fr).length<=12:=by have:=kD fr 0;simp only [Fx.ws,zql];omega
 have e:X.all fr=(X.ws fr).sum:=by
  rw [Fx.all,yL _ 0 0 (fun w hw=>by have:=h1 w hw;omega) (by omega) (by omega) (by omega)];omega
 rw [e];omega
theorem Fx.shr_len(hf:fr.length=X.xs.length)(rest:Int):(shr rest (X.ws fr)).length=(fre 0 fr).length:=by
 have h1:=X.ws_bd hX fr
 have h3:=(fq hX).2
 have h4:(X.ws fr).length<=12:=by have:=kD fr 0;simp only [Fx.ws,zql];omega
 have:Cz (X.ws fr)=true:=by
  simp only [Cz,rng,zqs,zqp,zqf]
  exact⟨fun w hw=>by have:=h1 w hw;omega,by omega⟩
 rw [shr,if_pos this,yU]
 simp [Fx.ws]
end
theorem xT{x:af}(h:ItB x)(gr:Bool){A rest:Int}(h0:0<=A)(h1:A<=12582912000)(h2: -1048576<=rest)(h3:rest<=1048576):
  (qX gr A rest x=true↔0<ovr gr A rest x)/\((!qX gr A rest x&&wQ gr A rest x)=true↔ovr gr A rest x<0)/\(-144115188075855872<=ovr gr A rest x/\ovr gr A rest x<=144115188075855872)/\
  (wQ gr A rest x=true->xx x=ru x)/\∀v:Int,-9223372036854775808<=v->v<=9223372036854775807->xk gr A rest v x=wrap64 (v+ovr gr A rest x):=by
 have hw:=F7 h gr
 obtain⟨b1,b2⟩:=uW h.b0 h.b1 h0 h1
 obtain⟨c1,c2⟩:=uW h.l0 h.l1 h0 h1
 obtain⟨d1,d2⟩:=Jc h2 h3 hw.1 hw.2.1
 have hg:0<=ru x:=by have:=h.l0;unfold ru;split<;>omega
 have hh:ru x<=1048576:=by have:=h.l1;have:=h.m1;unfold ru;split<;>omega
 obtain⟨e1,e2⟩:=uW hg hh h0 h1
 have et:tgt gr A rest x=x.base*A+rest*wgt gr x:=by
  unfold tgt
  rw [show wrap64 (x.base*A)=x.base*A by unfold wrap64;omega,show wrap64 (rest*wgt gr x)=rest*wgt gr x by unfold wrap64;omega]
  unfold wrap64;omega
 have el:wrap64 (x.least*A)=x.least*A:=by unfold wrap64;omega
 have eu:wrap64 (ru x*A)=ru x*A:=by unfold wrap64;omega
 have hf:0<=x.most->xx x=ru x:=fun hm=>by unfold xx ru;split<;>split<;>omega
 obtain⟨t,ht⟩:=nmE (tgt gr A rest x)
 have hj: -14000000000000000<=t:=by rw [ht,et];omega
 have hk:t<=16000000000000000:=by rw [ht,et];omega
 obtain⟨lo,he⟩:=nmE (x.least*A)
 obtain⟨hi,hd⟩:=nmE (ru x*A)
 have ha:qX gr A rest x=decide (t<lo):=by unfold qX;rw [el,<-ht,<-he]
 have hc:wQ gr A rest x=(decide (0<=x.most)&&decide (hi<t)):=by unfold wQ;rw [eu,<-ht,<-hd]
 have hb:ovr gr A rest x=if t<lo then lo-t else if 0<=x.most/\hi<t then hi-t else 0:=by
  unfold ovr
  rw [ha,el,<-ht,<-he]
  simp only [zqp]
  by_cases h1:t<lo
  ·rw [if_pos h1,if_pos h1];unfold wrap64;omega
  ·rw [if_neg h1,if_neg h1]
   by_cases hm:0<=x.most
   ·rw [hf hm,eu,<-hd]
    by_cases h2:hi<t
    ·rw [if_pos ⟨hm,h2⟩,if_pos ⟨hm,h2⟩];unfold wrap64;omega
    ·rw [if_neg (by omega),if_neg (by omega)]
   ·rw [if_neg (by omega),if_neg (by omega)]
 refine⟨?_,?_,?_,?_,?_⟩
 ·rw [ha,hb,zqp];split<;>(try split)<;>omega
 ·rw [ha,hc,hb]
  simp only [zqs,Bool.not_eq_true',zqp,zqo]
  split<;>(try split)<;>omega
 ·rw [hb];split<;>(try split)<;>omega
 ·rw [hc];simp only [zqs,zqp];exact fun h=>hf h.1
 ·intro v v0 v1
  unfold xk
  rw [ha,hc,hb,el,eu,<-ht,<-he,<-hd]
  simp only [zqs,zqp]
  split
  ·unfold wrap64;omega
  ·split
   ·unfold wrap64;omega
   ·unfold wrap64;omega
theorem F9{gr:Bool}{A rest:Int}(h0:0<=A)(h1:A<=12582912000)(h2: -1048576<=rest)(h3:rest<=1048576){xs:List af}(hx:∀x∈xs,ItB x):∀(is:List Int)(v:Int)(k:Nat),-(144115188075855872*(k:Int))<=v->v<=144115188075855872*(k:Int)->k+is.length<=24->
  is.foldl (fun v i=>xk gr A rest v (itA xs i)) v=v+(is.map fun i=>ovr gr A rest (itA xs i)).sum
 | [],v,k,_,_,_=>by simp
 |i::is,v,k,g0,g1,g2=>by
  obtain⟨_,_,hb,_,hv⟩:=xT (DB hx i) gr h0 h1 h2 h3
  simp only [zqx]at g2
  have hk:(k:Int)<=23:=by omega
  rw [List.foldl_cons,hv v (by omega) (by omega)]
  have e:wrap64 (v+ovr gr A rest (itA xs i))=v+ovr gr A rest (itA xs i):=by unfold wrap64;omega
  rw [e,F9 h0 h1 h2 h3 hx is _ (k+1) (by omega) (by omega) (by omega),zqA,List.sum_cons]
  omega
theorem IR(n:Int): -1048576<=sg n/\sg n<=1048576:=by unfold sg bro;split<;>(try split)<;>omega
theorem Gk(xs:List af)(ss:List Int)(gap inner:Int)(gr:Bool): -1048576<=xl xs ss gap inner gr/\xl xs ss gap inner gr<=1048576:=by
 simp only [xl]
 split
 ·omega
 ·exact IR _
theorem CJ:∀(l:List Int),(∀x∈l,x<=0)->l.sum<=0/\((∃x∈l,x<0)->l.sum<0)
 | [],_=>by simp
 |x::l,h=>by
  obtain⟨h1,h2⟩:=CJ l (fun y hy=>h y (by simp [hy]))
  have:=h x (by simp)
  simp only [List.sum_cons]
  refine⟨by omega,fun⟨y,hy,hn⟩=> ?_⟩
  rcases zph.1 hy with rfl|hy
  ·omega
  ·have:=h2 ⟨y,hy,hn⟩;omega
theorem CI:∀(l:List Int),(∀x∈l,0<=x)->0<=l.sum/\((∃x∈l,0<x)->0<l.sum)
 | [],_=>by simp
 |x::l,h=>by
  obtain⟨h1,h2⟩:=CI l (fun y hy=>h y (by simp [hy]))
  have:=h x (by simp)
  simp only [List.sum_cons]
  refine⟨by omega,fun⟨y,hy,hn⟩=> ?_⟩
  rcases zph.1 hy with rfl|hy
  ·omega
  ·have:=h2 ⟨y,hy,hn⟩;omega
theorem rg{α β:Type}{f g:α->Option β}:∀{l:List α},(∀a∈l,f a=g a)->l.filterMap f=l.filterMap g
 | [],_=>rfl
 |a::l,h=>by simp only [List.filterMap_cons];rw [h a (by simp),rg fun b hb=>h b (by simp [hb])]
theorem Fx.keys_sub(X:Fx)(fr:List Bool)(rest:Int):((X.setS fr rest).map (·.1)).Sublist (fre 0 fr):=by
 have ha:∀(l:List Int)(q:List (Int×Int))(F:Int×Int×Int->Option (Int×Int)),(∀p r,F p=some r->r.1=p.1)->(((l.zip q).filterMap F).map (·.1)).Sublist l:=by
  intro l
  induction l with
  |nil=>intro q F _;simp
  |cons a l ih=>
   intro q F hF
   cases q with
   |nil=>simp
   |cons b q=>
    simp only [List.zip_cons_cons,List.filterMap_cons]
    cases hb:F (a,b)with
    |none=>exact(ih q F hF).cons _
    |some r=>
     simp only [zqA]
     rw [hF _ _ hb]
     exact(ih q F hF).cons_cons _
 refine ha _ _ _ fun p r hp=> ?_
 split at hp
 ·cases hp;rfl
 ·split at hp
  ·cases hp;rfl
  ·split at hp
   ·cases hp;rfl
   ·cases hp
section
variable {X:Fx}(hX:er X.xs = true){fr:List Bool}(hf:fr.length = X.xs.length){rest:Int}(hr0:-1048576 <= rest)(hr1:rest <= 1048576)
include hX hf hr0 hr1
theorem Fx.facts(i:Int):(qX X.gr (X.all fr) rest (itA X.xs i)=true↔0<ovr X.gr (X.all fr) rest (itA X.xs i))/\((!qX X.gr (X.all fr) rest (itA X.xs i)&&wQ X.gr (X.all fr) rest (itA X.xs i))=true↔ovr X.gr (X.all fr) rest (itA X.xs i)<0)/\
  (-144115188075855872<=ovr X.gr (X.all fr) rest (itA X.xs i)/\ovr X.gr (X.all fr) rest (itA X.xs i)<=144115188075855872)/\(wQ X.gr (X.all fr) rest (itA X.xs i)=true->xx (itA X.xs i)=ru (itA X.xs i))/\
  ∀v:Int,-9223372036854775808<=v->v<=9223372036854775807->xk X.gr (X.all fr) rest v (itA X.xs i)=wrap64 (v+ovr X.gr (X.all fr) rest (itA X.xs i)):=xT (DB (fq hX).1 i) X.gr (X.all_eq hX hf).2.1 (X.all_eq hX hf).2.2 hr0 hr1
theorem Fx.ovs_eq:pJ 0 (X.ovs fr rest)=(X.ovs fr rest).sum/\X.vio fr rest=(X.ovs fr rest).sum:=by
 have h3:=(fq hX).2
 have h4:=kD fr 0
 constructor
 ·rw [yL _ 0 0 (fun w hw=> ?_) (by omega) (by omega) (by simp only [Fx.ovs,zql];omega)]
  ·omega
  ·simp only [Fx.ovs,List.mem_map]at hw
   obtain⟨i,_,rfl⟩:=hw
   exact(X.facts hX hf hr0 hr1 i).2.2.1
 ·rw [Fx.vio,F9 (X.all_eq hX hf).2.1 (X.all_eq hX hf).2.2 hr0 hr1 (fq hX).1 _ 0 0 (by omega) (by omega) (by omega),Fx.ovs]
  omega
theorem Fx.some_iff:((X.ovs fr rest).any fun o=>o !=0)=false↔(X.low fr rest=[]/\X.hig fr rest=[]):=by
 rw [List.any_eq_false]
 simp only [Fx.ovs,Fx.low,Fx.hig,List.mem_map,bne_iff_ne,ne_eq,Decidable.not_not,List.filter_eq_nil_iff]
 constructor
 ·intro h
  refine⟨fun i hi hl=> ?_,fun i hi hl=> ?_⟩
  ·have:=(X.facts hX hf hr0 hr1 i).1.1 hl
   have:=h _ ⟨i,hi,rfl⟩
   omega
  ·have:=(X.facts hX hf hr0 hr1 i).2.1.1 hl
   have:=h _ ⟨i,hi,rfl⟩
   omega
 ·rintro⟨h1,h2⟩ o ⟨i,hi,rfl⟩
  have f:=X.facts hX hf hr0 hr1 i
  rcases Int.lt_trichotomy (ovr X.gr (X.all fr) rest (itA X.xs i)) 0 with h|h|h
  ·exact absurd (f.2.1.2 h) (h2 i hi)
  ·exact h
  ·exact absurd (f.1.2 h) (h1 i hi)
theorem Fx.set_perm:(X.setI fr rest).Perm (X.setS fr rest):=by
 obtain⟨hg,hh⟩:=X.ovs_eq hX hf hr0 hr1
 have ha:=X.shr_len hX hf rest
 obtain⟨sh,hb⟩:=nmE (shr rest (X.ws fr))
 rw [<-hb]at ha
 unfold Fx.setI
 split
 ·rename_i h
  have hd:=(X.some_iff hX hf hr0 hr1).2 h
  simp only [Fx.setS,Fx.shs,hd,if_true,<-hb]
  have he:∀(l:List Int)(o s:List Int),o.length=l.length->s.length=l.length->(l.zip s).map (fun p=>(p.1,cl (wrap64 ((itA X.xs p.1).base+p.2))))=(l.zip (o.zip s)).filterMap fun p=>some (p.1,cl (wrap64 ((itA X.xs p.1).base+p.2.2))):=by
   intro l
   induction l with
   |nil=>intro o s _ _;simp
   |cons a l ih=>
    intro o s h1 h2
    match o,s,h1,h2 with
    |o0::o,s0::s,h1,h2=>simp only [List.zip_cons_cons,zqA,List.filterMap_cons];rw [ih o s (by simpa using h1) (by simpa using h2)]
    | [],_,h1,_=>simp at h1
    |_::_,[],_,h2=>simp at h2
  rw [he (fre 0 fr) (X.ovs fr rest) sh (by simp [Fx.ovs]) ha]
 ·rename_i h
  have hd:((X.ovs fr rest).any fun o=>o !=0)=true:=by
   cases hc:(X.ovs fr rest).any fun o=>o !=0
   ·exact absurd ((X.some_iff hX hf hr0 hr1).1 hc) h
   ·rfl
  simp only [Fx.setS,hd,<-hb]
  rw [hg,<-hh]
  have he:∀(l:List Int)(s:List Int)(F:Int->Int->Option (Int×Int))(G:Int->Int),s.length=l.length->(l.zip ((l.map G).zip s)).filterMap (fun p=>F p.1 p.2.1)=l.filterMap fun i=>F i (G i):=by
   intro l
   induction l with
   |nil=>intro s F G _;simp
   |cons a l ih=>
    intro s F G h1
    match s,h1 with
    |s0::s,h1=>simp only [zqA,List.zip_cons_cons,List.filterMap_cons];rw [ih s F G (by simpa using h1)]
    | [],h1=>simp at h1
  have k2:=he (fre 0 fr) sh (fun i o=>if 0<o/\0<=X.vio fr rest then some (i,(itA X.xs i).least)else if o<0/\X.vio fr rest<=0 then some (i,xx (itA X.xs i))else none) (fun i=>ovr X.gr (X.all fr) rest (itA X.xs i)) ha
  simp only [Bool.true_eq_false,if_false]
  rw [show X.ovs fr rest=(fre 0 fr).map fun i=>ovr X.gr (X.all fr) rest (itA X.xs i)from rfl,k2]
  have tp:=Aa (fun i=>qX X.gr (X.all fr) rest (itA X.xs i)) (fun i=>wQ X.gr (X.all fr) rest (itA X.xs i)) (fun i=>(i,(itA X.xs i).least)) (fun i=>(i,ru (itA X.xs i))) (fre 0 fr)
  rcases Int.lt_trichotomy (X.vio fr rest) 0 with hv|hv|hv
  ·rw [if_neg (by omega),if_pos (by omega),List.nil_append,Fx.hig]
   refine .of_eq ?_
   rw [<-List.filterMap_eq_map,List.filterMap_filter]
   refine rg fun i hi=> ?_
   obtain⟨f1,f2,_,f4,_⟩:=X.facts hX hf hr0 hr1 i
   clear k2 tp he hb hd h ha hg hh
   grind
  ·rw [if_pos (by omega),if_pos (by omega)]
   refine tp.trans (.of_eq (rg fun i hi=> ?_))
   obtain⟨f1,f2,_,f4,_⟩:=X.facts hX hf hr0 hr1 i
   clear k2 tp he hb hd h ha hg hh
   grind
  ·rw [if_pos (by omega),if_neg (by omega),zpr,Fx.low]
   refine .of_eq ?_
   rw [<-List.filterMap_eq_map,List.filterMap_filter]
   refine rg fun i hi=> ?_
   obtain⟨f1,f2,_,f4,_⟩:=X.facts hX hf hr0 hr1 i
   clear k2 tp he hb hd h ha hg hh
   grind
theorem Fx.keys_ne(hne:fre 0 fr≠[]):X.setI fr rest≠[]:=by
 obtain⟨hh,hj⟩:=X.ovs_eq hX hf hr0 hr1
 have hd:=X.shr_len hX hf rest
 unfold Fx.setI
 split
 ·rename_i h
  intro hc
  rw [Fx.shs,List.map_eq_nil_iff]at hc
  have:(List.zip (fre 0 fr) (shr rest (X.ws fr))).length=0:=by rw [hc];rfl
  rw [zqB,hd,Nat.min_self]at this
  exact hne (zqv this)
 ·rename_i h
  intro hc
  rw [List.append_eq_nil_iff]at hc
  obtain⟨he,hg⟩:=hc
  have hb:0<=X.vio fr rest->X.low fr rest=[]:=fun hv=>by rw [if_pos hv]at he;simpa using he
  have ha:X.vio fr rest<=0->X.hig fr rest=[]:=fun hv=>by rw [if_pos hv]at hg;simpa using hg
  rcases Int.lt_trichotomy (X.vio fr rest) 0 with hv|hv|hv
  ·have h1:=ha (by omega)
   have:0<=(X.ovs fr rest).sum:=(CI _ fun o ho=>by
    simp only [Fx.ovs,List.mem_map]at ho
    obtain⟨i,hi,rfl⟩:=ho
    have f:=X.facts hX hf hr0 hr1 i
    have hn:¬ovr X.gr (X.all fr) rest (itA X.xs i)<0:=fun hc=>by
     have:=f.2.1.2 hc
     have hm:i∈X.hig fr rest:=by rw [Fx.hig,List.mem_filter];exact⟨hi,this⟩
     rw [h1]at hm;cases hm
    omega).1
   omega
  ·exact h ⟨hb (by omega),ha (by omega)⟩
  ·have h1:=hb (by omega)
   have:(X.ovs fr rest).sum<=0:=(CJ _ fun o ho=>by
    simp only [Fx.ovs,List.mem_map]at ho
    obtain⟨i,hi,rfl⟩:=ho
    have f:=X.facts hX hf hr0 hr1 i
    have hn:¬0<ovr X.gr (X.all fr) rest (itA X.xs i):=fun hc=>by
     have:=f.1.2 hc
     have hm:i∈X.low fr rest:=by rw [Fx.low,List.mem_filter];exact⟨hi,this⟩
     rw [h1]at hm;cases hm
    omega).1
   omega
end
theorem zC:∀(fr:List Bool)(i j:Int),0<=i->(fre i (fr.set (j-i).toNat true)).length<=(fre i fr).length/\(j∈fre i fr->(fre i (fr.set (j-i).toNat true)).length<(fre i fr).length)
 | [],_,_,_=>by simp [fre]
 |f::fs,i,j,h0=>by
  by_cases hj:j<=i
  ·rw [show(j-i).toNat=0 by omega,List.set_cons_zero]
   have hb:∀k∈fre (i+1) fs,i<k:=fun k hk=>by have:=ik fs (i+1) (by omega) k hk;omega
   cases f with
   |true=>
    simp only [fre,if_true]
    exact⟨zpk _,fun hm=>by have:=hb j hm;omega⟩
   |false=>simp only [fre,if_true,Bool.false_eq_true,if_false,zqx];exact⟨by omega,fun _=>by omega⟩
  ·obtain⟨hc,ha⟩:=zC fs (i+1) j (by omega)
   rw [show(j-i).toNat=(j-(i+1)).toNat+1 by omega,List.set_cons_succ]
   cases f with
   |true=>simp only [fre,if_true];exact⟨hc,ha⟩
   |false=>
    simp only [fre,Bool.false_eq_true,if_false,zqx,zph]
    refine⟨by omega,fun hm=> ?_⟩
    rcases hm with hm|hm
    ·omega
    ·have:=ha hm;omega
theorem Bj:∀(is:List Int)(fr:List Bool),(fre 0 (pX is fr)).length<=(fre 0 fr).length
 | [],_=>zpk _
 |i::is,fr=>by
  have h1:=Bj is (fr.set i.toNat true)
  have h2:=(zC fr 0 i (by omega)).1
  rw [Int.sub_zero]at h2
  exact zpb h1 h2
section
variable {X:Fx}(hX:er X.xs = true)
include hX
theorem Fx.run_eq:∀(k:Nat)(sz:List Int)(fr:List Bool),fr.length=X.xs.length->sz.length=X.xs.length->X.runS k (mix X.xs fr sz) fr=X.runI k sz fr
 |0,_,_,_,_=>rfl
 |k+1,sz,fr,h1,h2=>by
  unfold Fx.runS Fx.runI
  by_cases hn:fre 0 fr=[]
  ·rw [if_pos hn,if_pos hn,AX _ _ _ 0 h1 h2 hn]
  ·rw [if_neg hn,if_neg hn]
   have hr:X.rI fr sz=xl X.xs (mix X.xs fr sz) X.gap X.inner X.gr:=rfl
   obtain⟨r,hc⟩:=nmE (xl X.xs (mix X.xs fr sz) X.gap X.inner X.gr)
   rw [hr,<-hc]
   have hb:=Gk X.xs (mix X.xs fr sz) X.gap X.inner X.gr
   rw [<-hc]at hb
   have hp:=X.set_perm hX h1 hb.1 hb.2
   have hk:=X.keys_sub fr r
   have hd:(X.setS fr r).Pairwise fun a b=>a.1.toNat≠b.1.toNat:=by
    have:=((wU fr 0 (by omega)).sublist hk)
    rw [List.pairwise_map]at this
    have hm:∀a∈X.setS fr r,0<=a.1:=fun a ha=>(ik fr 0 (by omega) a.1 (hk.mem (List.mem_map.2 ⟨a,ha,rfl⟩))).1
    refine this.imp_of_mem fun{a b} ha hb hab=> ?_
    have:=hm a ha
    have:=hm b hb
    omega
   have e1:∀l,qv (X.setS fr r) l=qv (X.setI fr r) l:=fun l=>CS hp.symm hd l
   have e2:pX ((X.setS fr r).map (·.1)) fr=pX ((X.setI fr r).map (·.1)) fr:=CU (hp.symm.map _) fr
   rw [e1,e2,<-AW X.xs (X.setI fr r) fr sz h1 h2]
   exact Fx.run_eq k _ _ (by rw [n7];exact h1) (by rw [n6];exact h2)
theorem Fx.run_some:∀(k:Nat)(sz:List Int)(fr:List Bool),fr.length=X.xs.length->(fre 0 fr).length<k->∃r,X.runI k sz fr=some r/\r.length=sz.length
 |0,_,_,_,h=>absurd h (zpq _)
 |k+1,sz,fr,h1,h2=>by
  unfold Fx.runI
  by_cases hn:fre 0 fr=[]
  ·rw [if_pos hn];exact⟨sz,rfl,rfl⟩
  ·rw [if_neg hn]
   have hb:=Gk X.xs (mix X.xs fr sz) X.gap X.inner X.gr
   have ha:=X.keys_ne hX h1 hb.1 hb.2 hn
   have hp:=X.set_perm hX h1 hb.1 hb.2
   have hk:=X.keys_sub fr (xl X.xs (mix X.xs fr sz) X.gap X.inner X.gr)
   obtain⟨r,hr⟩:=nmE (X.rI fr sz)
   have he:xl X.xs (mix X.xs fr sz) X.gap X.inner X.gr=r:=hr.symm
   rw [he]at ha hp hk
   rw [<-hr]
   have hf:(fre 0 (pX ((X.setI fr r).map (·.1)) fr)).length<(fre 0 fr).length:=by
    match hs:X.setI fr r,ha with
    |p::ps,_=>
     rw [hs]at hp
     have hm:p.1∈fre 0 fr:=hk.mem (List.mem_map.2 ⟨p,hp.mem_iff.1 (by simp),rfl⟩)
     have h3:=(zC fr 0 p.1 (by omega)).2 hm
     rw [Int.sub_zero]at h3
     exact Nat.lt_of_le_of_lt (Bj (ps.map (·.1)) (fr.set p.1.toNat true)) h3
   obtain⟨q,hc,hd⟩:=Fx.run_some k (qv (X.setI fr r) sz) (pX ((X.setI fr r).map (·.1)) fr) (by rw [n7];exact h1) (by omega)
   exact⟨q,hc,by rw [hd,n6]⟩
end
variable {α:Type}
theorem bk(c:α->Array Value)(xs:List α)(x:α):vw c (xs++[x])=vw c xs++[lc (c x)]:=by simp [vw]
theorem jK(c:α->Array Value)(xs:List α){y:List AC}(h:y.all dx=true):ay (vw c xs++[y])=true:=by
 have:=aD c xs
 simp only [ay,List.all_append,zqD,List.all_nil,h,Bool.and_true]at this⊢
 exact this
theorem aU(c:α->Array Value)(xs:List α):aN (vw c xs)=(xs.length:Int):=by rw [ao,ar]
theorem qH(ws:List Int)(hl:ws.length<=1048576):PC0 331 [.c (.view (vw ak ws))] (.t (abl (Cz ws))):=by
 obtain⟨V,hV⟩:=nmE (vw ak ws)
 have hd:=lmV hV
 have hb:aN V=(ws.length:Int):=by rw [hV,aU]
 rw [<-hV]
 refine aV func331 fun g F hg hF=> ?_
 cbv
 refine aQ hg bq (by kernel_rfl) V (fun x=>lc (ak x)) ws hV hl (fun z(s:Unit)=>[(0,.v V),(5,.v V),(6,.i (g .ln V)),(7,.i (z))]) (fun z(s:Unit)=>[]) (fun z(s:Unit)=>True) (fun(s:Unit) rest=>rest.all (fun w=>rng w 0 1073741824)&&decide ((ws.length:Int)<=64)) (Cz ws) () rfl trivial (Wk.weak (wkG [] zr4 trivial (by decide) aB)) (fun z s B hz h0 hi he=> ?_) (fun z s x rest B z0 z1 z2 hx hy h0 hi hc e1 hB=> ?_)
 ·cbv;rw [he];cbv
  exact bm hF (by rw [ja hg,bz hg,hb,<-h0];rfl)
 ·cbv;rw [hc];cbv;refine goX hg _ z0 hy rfl ?_;cbv
  repeat'(first|(refine bA hg (bT _ _ _) rfl (fun R0 ha=> ?_);cases R0<;>cbv))
  ·exact bm hF (by rw [<-h0,zqD,<-ha];rfl)
  ·rw [e1]
   exact hB (()) _ _ ⟨by rw [<-h0,zqD,<-ha];rfl,zpt⟩ (Wk.weak (wkG [] zr4 trivial (by decide) aB))
theorem qo(ws:List Int)(hl:ws.length<=1048576):PC0 335 [.c (.view (vw ak ws))] (.t (abl (Cz ws))):=by
 obtain⟨V,hV⟩:=nmE (vw ak ws)
 have hd:=lmV hV
 have hb:aN V=(ws.length:Int):=by rw [hV,aU]
 rw [<-hV]
 refine aV func335 fun g F hg hF=> ?_
 cbv
 refine aQ hg bq (by kernel_rfl) V (fun x=>lc (ak x)) ws hV hl (fun z(s:Unit)=>[(0,.v V),(3,.i (z))]) (fun z(s:Unit)=>[]) (fun z(s:Unit)=>True) (fun(s:Unit) rest=>rest.all (fun w=>rng w 0 1073741824)&&decide ((ws.length:Int)<=64)) (Cz ws) () rfl trivial (Wk.weak (wkG [] zr2 trivial (by decide) aB)) (fun z s B hz h0 hi he=> ?_) (fun z s x rest B z0 z1 z2 hx hy h0 hi hc e1 hB=> ?_)
 ·cbv;rw [he];cbv
  exact bm hF (by rw [ja hg,bz hg,hb,<-h0];rfl)
 ·cbv;rw [hc];cbv;refine goX hg _ z0 hy rfl ?_;cbv
  repeat'(first|(refine bA hg (bi _ _ _) rfl (fun R0 ha=> ?_);cases R0<;>cbv))
  ·exact bm hF (by rw [<-h0,zqD,<-ha];rfl)
  ·rw [e1]
   exact hB (()) _ _ ⟨by rw [<-h0,zqD,<-ha];rfl,zpt⟩ (Wk.weak (wkG [] zr2 trivial (by decide) aB))
theorem oH(n:Int)(ws:List Int)(hl:ws.length<=1048576):bS prog 312 [ai n,.c (.view (vw ak ws))] fun res hd=>res= .o 0/\hd=[⟨3,1,vw ak (shr n ws)⟩]:=by
 have cw:=qH ws hl
 obtain⟨V,hV⟩:=nmE (vw ak ws)
 have hn:=lmV hV
 obtain⟨GV,ha⟩:=nmE (vw ak (shr n ws))
 obtain⟨A,hA⟩:=nmE (pJ 0 ws)
 obtain⟨w,hw⟩:=nmE (Cz ws)
 rw [<-hV,<-hw]at cw
 rw [<-hV,<-ha]
 refine aV func312 fun g F hg hF=> ?_
 cbv
 repeat'(first|(refine bA hg cw rfl (fun R0 hb=> ?_);cases R0<;>cbv))
 ·have e:GV=[]:=by rw [ha,shr,if_neg (by rw [<-hw,<-hb];simp)];rfl
  subst e
  exact vf _ _ hF ⟨rfl,rfl⟩
 repeat'(refine aY hg (da _) rfl (fun R0 hb=> ?_);cbv)
 have hG:shr n ws=shG R0 A 0 ws:=by rw [shr,if_pos (by rw [<-hw];simp_all),hA];simp_all
 refine aQ hg bq (by kernel_rfl) V (fun x=>lc (ak x)) ws hV hl (fun z(s:Int)=>[(0,.i (R0)),(1,.v V),(5,.i (s)),(17,.v V),(18,.i (g .ln V)),(19,.i (z))]) (fun z(s:Int)=>[]) (fun z(s:Int)=>True) (fun(s:Int) rest=>pJ s rest) (A) 0 hA.symm trivial (Wk.weak (wkG [] zr6 trivial (by decide) aB)) (fun z s B hz h0 hi he=> ?_) (fun z s x rest B z0 z1 z2 hx hy h0 hi hc e1 hB=> ?_)
 rotate_left
 ·cbv;rw [hc];cbv;refine goX hg _ z0 hy rfl ?_;cbv
  rw [e1,aG hg]
  exact hB (_) _ _ ⟨h0,zpt⟩ (Wk.weak (wkG [] zr6 trivial (by decide) aB))
 cbv;rw [he];cbv
 obtain rfl:A=s:=h0.symm
 refine aQ hg bq (by kernel_rfl) V (fun x=>lc (ak x)) ws hV hl (fun z(s:Int×List Int×LLA)=>[(0,.i (R0)),(5,.i (A)),(8,.o 0),(9,.i (s.1)),(27,.v V),(28,.i (g .ln V)),(29,.i (z))]) (fun z(s:Int×List Int×LLA)=>[.rw ⟨3,1,s.2.2⟩]) (fun z(s:Int×List Int×LLA)=>s.2.2=vw ak s.2.1/\(s.2.1.length:Int)=z) (fun(s:Int×List Int×LLA) rest=>s.2.1++shG R0 A s.1 rest) (shr n ws) (0,[],[]) (by simpa using hG.symm) ⟨rfl,rfl⟩ (Wk.weak (wkG [none] zr7 ⟨⟨_,rfl,rfl⟩,zpt⟩ (by decide) aB)) (fun z s B hz h0 hi he=> ?_) (fun z s x rest B z0 z1 z2 hx hy h0 hi hc e1 hB=> ?_)
 ·obtain⟨q,hf,es⟩:=s
  obtain⟨i1,i2⟩:=hi
  dsimp only at i1 i2 h0
  cbv;rw [he];cbv
  obtain rfl:es=GV:=by simp only [shG,zpr]at h0;rw [i1,ha,<-h0]
  exact bN hF rfl (by rw [ha];exact aD _ _)
 ·obtain⟨q,hf,es⟩:=s
  obtain⟨i1,i2⟩:=hi
  dsimp only at i1 i2 h0
  have hk:es.length<=1048576:=by rw [i1,ar];omega
  cbv;rw [hc];cbv;refine goX hg _ z0 hy rfl ?_;cbv
  (refine aY hg (bZ _ _) rfl (fun Q0 hh=> ?_));cbv
  (refine aY hg (bZ _ _) rfl (fun Q1 hj=> ?_));cbv
  refine dg hg rfl (by decide) hk ?_
  cbv
  rw [e1,fI hg]
  have hm:g .w .sub .i64 Q0 Q1=wrap64 (fdv (wrap64 (R0*wrap64 (q+x))) A-fdv (wrap64 (R0*q)) A):=by rw [hh,hj];simp only [aG hg,gA hg,cu hg]
  rw [hm,aG hg]
  exact hB ((_,hf++[_],_)) _ _ ⟨(by simpa [shG]using h0),⟨by rw [i1,bk];rfl,by simp;omega⟩⟩ (Wk.weak (wkG [some _] zr7 ⟨wqE rfl (by rw [i1];exact jK _ _ rfl),zpt⟩ (by decide) aB))
theorem nT(n:Int)(ws:List Int)(hl:ws.length<=1048576):bS prog 316 [ai n,.c (.view (vw ak ws))] fun res hd=>res= .o 0/\hd=[⟨3,1,vw ak (shr n ws)⟩]:=by
 have cw:=qo ws hl
 obtain⟨V,hV⟩:=nmE (vw ak ws)
 have hn:=lmV hV
 obtain⟨GV,ha⟩:=nmE (vw ak (shr n ws))
 obtain⟨A,hA⟩:=nmE (pJ 0 ws)
 obtain⟨w,hw⟩:=nmE (Cz ws)
 rw [<-hV,<-hw]at cw
 rw [<-hV,<-ha]
 refine aV func316 fun g F hg hF=> ?_
 cbv
 repeat'(first|(refine bA hg cw rfl (fun R0 hb=> ?_);cases R0<;>cbv))
 ·have e:GV=[]:=by rw [ha,shr,if_neg (by rw [<-hw,<-hb];simp)];rfl
  subst e
  exact bN hF rfl rfl
 refine aQ hg bq (by kernel_rfl) V (fun x=>lc (ak x)) ws hV hl (fun z(s:Int)=>[(0,.i (n)),(1,.v V),(5,.o 0),(6,.i (s)),(7,.i (z))]) (fun z(s:Int)=>[.rw ⟨3,1,[]⟩]) (fun z(s:Int)=>True) (fun(s:Int) rest=>pJ s rest) (A) 0 hA.symm trivial (Wk.weak (wkG [some _] zr5 ⟨wqE rfl rfl,zpt⟩ (by decide) aB)) (fun z s B hz h0 hi he=> ?_) (fun z s x rest B z0 z1 z2 hx hy h0 hi hc e1 hB=> ?_)
 rotate_left
 ·cbv;rw [hc];cbv;refine goX hg _ z0 hy rfl ?_;cbv
  rw [e1,aG hg]
  exact hB (_) _ _ ⟨h0,zpt⟩ (Wk.weak (wkG [some _] zr5 ⟨wqE rfl rfl,zpt⟩ (by decide) aB))
 cbv;rw [he];cbv
 obtain rfl:A=s:=h0.symm
 (refine aY hg (cV _) rfl (fun R0 hb=> ?_));cbv
 have hG:shr n ws=shG R0 A 0 ws:=by rw [shr,if_pos (by rw [<-hw];simp_all),hA,hb]
 refine aQ hg bq (by kernel_rfl) V (fun x=>lc (ak x)) ws hV hl (fun z(s:Int×List Int×LLA)=>[(0,.i (R0)),(1,.v V),(5,.o 0),(6,.i (A)),(8,.i (s.1)),(9,.i (z))]) (fun z(s:Int×List Int×LLA)=>[.rw ⟨3,1,s.2.2⟩]) (fun z(s:Int×List Int×LLA)=>s.2.2=vw ak s.2.1/\(s.2.1.length:Int)=z) (fun(s:Int×List Int×LLA) rest=>s.2.1++shG R0 A s.1 rest) (shr n ws) (0,[],[]) (by simpa using hG.symm) ⟨rfl,rfl⟩ (Wk.weak (wkG [some _] zr6 ⟨wqE rfl rfl,zpt⟩ (by decide) aB)) (fun z s B hz h0 hi he=> ?_) (fun z s x rest B z0 z1 z2 hx hy h0 hi hc e1 hB=> ?_)
 ·obtain⟨q,hf,es⟩:=s
  obtain⟨i1,i2⟩:=hi
  dsimp only at i1 i2 h0
  cbv;rw [he];cbv
  obtain rfl:es=GV:=by simp only [shG,zpr]at h0;rw [i1,ha,<-h0]
  exact bN hF rfl (by rw [ha];exact aD _ _)
 ·obtain⟨q,hf,es⟩:=s
  obtain⟨i1,i2⟩:=hi
  dsimp only at i1 i2 h0
  have hk:es.length<=1048576:=by rw [i1,ar];omega
  cbv;rw [hc];cbv;refine goX hg _ z0 hy rfl ?_;cbv
  (refine aY hg (bW _ _) rfl (fun Q0 hh=> ?_));cbv
  (refine aY hg (bW _ _) rfl (fun Q1 hj=> ?_));cbv
  refine dg hg rfl (by decide) hk ?_
  cbv
  rw [e1,fI hg]
  have hm:g .w .sub .i64 Q0 Q1=wrap64 (fdv (wrap64 (R0*wrap64 (q+x))) A-fdv (wrap64 (R0*q)) A):=by rw [hh,hj];simp only [aG hg,gA hg,cu hg]
  rw [hm,aG hg]
  exact hB ((_,hf++[_],_)) _ _ ⟨(by simpa [shG]using h0),⟨by rw [i1,bk];rfl,by simp;omega⟩⟩ (Wk.weak (wkG [some _] zr6 ⟨wqE rfl (by rw [i1];exact jK _ _ rfl),zpt⟩ (by decide) aB))
theorem vG(x:af):PC0 297 [.agg (lc (af.c x))] (.t (abl (uj x))):=by
 obtain⟨a0,a1,a2,a3,a4,a5,a6,a7,a8⟩:=x
 refine aV func297 fun g F hg hF=> ?_
 cbv
 repeat'(first|(refine bA hg (bi _ _ _) rfl (fun R0 ha=> ?_);cases R0<;>cbv))
 all_goals exact bm hF (by simp only [uj];clear hF hg;simp_all)
theorem wO(x:af):PC0 310 [.agg (lc (af.c x))] (.t (abl (uj x))):=by
 obtain⟨a0,a1,a2,a3,a4,a5,a6,a7,a8⟩:=x
 refine aV func310 fun g F hg hF=> ?_
 cbv
 repeat'(first|(refine bA hg (bT _ _ _) rfl (fun R0 ha=> ?_);cases R0<;>cbv))
 all_goals exact bm hF (by simp only [uj];clear hF hg;simp_all)
theorem jB(xs:List af)(hl:xs.length<=1048576):PC0 286 [.c (.view (vw af.c xs))] (.t (abl (er xs))):=by
 obtain⟨V,hV⟩:=nmE (vw af.c xs)
 have hd:=lmV hV
 have hb:aN V=(xs.length:Int):=by rw [hV,aU]
 rw [<-hV]
 refine aV func286 fun g F hg hF=> ?_
 cbv
 refine aQ hg bq (by kernel_rfl) V (fun x=>lc (af.c x)) xs hV hl (fun z(s:Unit)=>[(0,.v V),(5,.v V),(6,.i (g .ln V)),(7,.i (z))]) (fun z(s:Unit)=>[]) (fun z(s:Unit)=>True) (fun(s:Unit) rest=>rest.all uj&&decide ((xs.length:Int)<=12)) (er xs) () rfl trivial (Wk.weak (wkG [] zr4 trivial (by decide) aB)) (fun z s B hz h0 hi he=> ?_) (fun z s x rest B z0 z1 z2 hx hy h0 hi hc e1 hB=> ?_)
 ·cbv;rw [he];cbv
  exact bm hF (by rw [ja hg,bz hg,hb,<-h0];rfl)
 ·cbv;rw [hc];cbv;refine goX hg _ z0 hy rfl ?_;cbv
  (refine bA hg (wO x) rfl (fun R0 ha=> ?_));cbv
  cases R0<;>cbv
  ·exact bm hF (by rw [<-h0,zqD,<-ha];rfl)
  ·rw [e1]
   exact hB (()) _ _ ⟨by rw [<-h0,zqD,<-ha];rfl,zpt⟩ (Wk.weak (wkG [] zr4 trivial (by decide) aB))
theorem jq(xs:List af)(hl:xs.length<=1048576):PC0 259 [.c (.view (vw af.c xs))] (.t (abl (er xs))):=by
 obtain⟨V,hV⟩:=nmE (vw af.c xs)
 have hd:=lmV hV
 have hb:aN V=(xs.length:Int):=by rw [hV,aU]
 rw [<-hV]
 refine aV func259 fun g F hg hF=> ?_
 cbv
 refine aQ hg bq (by kernel_rfl) V (fun x=>lc (af.c x)) xs hV hl (fun z(s:Unit)=>[(0,.v V),(3,.i (z))]) (fun z(s:Unit)=>[]) (fun z(s:Unit)=>True) (fun(s:Unit) rest=>rest.all uj&&decide ((xs.length:Int)<=12)) (er xs) () rfl trivial (Wk.weak (wkG [] zr2 trivial (by decide) aB)) (fun z s B hz h0 hi he=> ?_) (fun z s x rest B z0 z1 z2 hx hy h0 hi hc e1 hB=> ?_)
 ·cbv;rw [he];cbv
  exact bm hF (by rw [ja hg,bz hg,hb,<-h0];rfl)
 ·cbv;rw [hc];cbv;refine goX hg _ z0 hy rfl ?_;cbv
  (refine bA hg (vG x) rfl (fun R0 ha=> ?_));cbv
  cases R0<;>cbv
  ·exact bm hF (by rw [<-h0,zqD,<-ha];rfl)
  ·rw [e1]
   exact hB (()) _ _ ⟨by rw [<-h0,zqD,<-ha];rfl,zpt⟩ (Wk.weak (wkG [] zr2 trivial (by decide) aB))
theorem iB(xs:List af)(hl:xs.length<=1048576):bS prog 285 [.c (.view (vw af.c xs))] fun res hb=>res= .o 0/\hb=[⟨3,1,vw ak (xs.map hyp)⟩]:=by
 obtain⟨V,hV⟩:=nmE (vw af.c xs)
 have hj:=lmV hV
 obtain⟨GV,ha⟩:=nmE (vw ak (xs.map hyp))
 rw [<-hV,<-ha]
 refine aV func285 fun g F hg hF=> ?_
 cbv
 refine aQ hg bq (by kernel_rfl) V (fun x=>lc (af.c x)) xs hV hl (fun z(s:List Int×LLA)=>[(3,.o 0),(6,.v V),(7,.i (g .ln V)),(8,.i (z))]) (fun z(s:List Int×LLA)=>[.rw ⟨3,1,s.2⟩]) (fun z(s:List Int×LLA)=>s.2=vw ak s.1/\(s.1.length:Int)=z) (fun(s:List Int×LLA) rest=>s.1++rest.map hyp) (xs.map hyp) ([],[]) rfl ⟨rfl,rfl⟩ (Wk.weak (wkG [none] zr4 ⟨⟨_,rfl,rfl⟩,zpt⟩ (by decide) aB)) (fun z s B hz h0 hi he=> ?_) (fun z s x rest B z0 z1 z2 hx hy h0 hi hc e1 hB=> ?_)
 ·obtain⟨hf,es⟩:=s
  obtain⟨i1,i2⟩:=hi
  dsimp only at i1 i2 h0
  cbv;rw [he];cbv
  obtain rfl:es=GV:=by simp only [List.map_nil,zpr]at h0;rw [i1,ha,<-h0]
  exact bN hF rfl (by rw [ha];exact aD _ _)
 ·obtain⟨hf,es⟩:=s
  obtain⟨i1,i2⟩:=hi
  dsimp only at i1 i2 h0
  have hh:es.length<=1048576:=by rw [i1,ar];omega
  cbv;rw [hc];cbv;refine goX hg _ z0 hy rfl ?_;cbv
  (refine aY hg (qc x) rfl (fun Q0 hd=> ?_));cbv
  refine dg hg rfl (by decide) hh ?_
  cbv
  rw [e1,fI hg]
  exact hB ((hf++[_],_)) _ _ ⟨(by simpa [hd]using h0),⟨by rw [i1,bk,<-hd];rfl,by simp;omega⟩⟩ (Wk.weak (wkG [some _] zr4 ⟨wqE rfl (by rw [i1];exact jK _ _ rfl),zpt⟩ (by decide) aB))
theorem jn(xs:List af)(hl:xs.length<=1048576):bS prog 299 [.c (.view (vw af.c xs))] fun res hb=>res= .o 0/\hb=[⟨3,1,vw ak (xs.map hyp)⟩]:=by
 obtain⟨V,hV⟩:=nmE (vw af.c xs)
 have hj:=lmV hV
 obtain⟨GV,ha⟩:=nmE (vw ak (xs.map hyp))
 rw [<-hV,<-ha]
 refine aV func299 fun g F hg hF=> ?_
 cbv
 refine aQ hg bq (by kernel_rfl) V (fun x=>lc (af.c x)) xs hV hl (fun z(s:List Int×LLA)=>[(0,.v V),(3,.o 0),(4,.i (z))]) (fun z(s:List Int×LLA)=>[.rw ⟨3,1,s.2⟩]) (fun z(s:List Int×LLA)=>s.2=vw ak s.1/\(s.1.length:Int)=z) (fun(s:List Int×LLA) rest=>s.1++rest.map hyp) (xs.map hyp) ([],[]) rfl ⟨rfl,rfl⟩ (Wk.weak (wkG [some _] zr3 ⟨wqE rfl rfl,zpt⟩ (by decide) aB)) (fun z s B hz h0 hi he=> ?_) (fun z s x rest B z0 z1 z2 hx hy h0 hi hc e1 hB=> ?_)
 ·obtain⟨hf,es⟩:=s
  obtain⟨i1,i2⟩:=hi
  dsimp only at i1 i2 h0
  cbv;rw [he];cbv
  obtain rfl:es=GV:=by simp only [List.map_nil,zpr]at h0;rw [i1,ha,<-h0]
  exact bN hF rfl (by rw [ha];exact aD _ _)
 ·obtain⟨hf,es⟩:=s
  obtain⟨i1,i2⟩:=hi
  dsimp only at i1 i2 h0
  have hh:es.length<=1048576:=by rw [i1,ar];omega
  cbv;rw [hc];cbv;refine goX hg _ z0 hy rfl ?_;cbv
  (refine aY hg (pT x) rfl (fun Q0 hd=> ?_));cbv
  refine dg hg rfl (by decide) hh ?_
  cbv
  rw [e1,fI hg]
  exact hB ((hf++[_],_)) _ _ ⟨(by simpa [hd]using h0),⟨by rw [i1,bk,<-hd];rfl,by simp;omega⟩⟩ (Wk.weak (wkG [some _] zr3 ⟨wqE rfl (by rw [i1];exact jK _ _ rfl),zpt⟩ (by decide) aB))
theorem iW(x:af)(gr:Bool):PC0 329 [.agg (lc (af.c x)),abl gr] (.i (wgt gr x)):=by
 obtain⟨a0,a1,a2,a3,a4,a5,a6,a7,a8⟩:=x
 cases gr<;>(refine aV func329 fun g F hg hF=> ?_;cbv;exact aO hF (by(try rw [gA hg]);rfl))
theorem jg(x:af):PC0 337 [.agg (lc (af.c x))] (.i (ru x)):=by
 obtain⟨a0,a1,a2,a3,a4,a5,a6,a7,a8⟩:=x
 refine aV func337 fun g F hg hF=> ?_
 cbv
 exact aO hF (by rw [GH hg];rfl)
theorem eG(x:af):PC0 339 [.agg (lc (af.c x))] (.i (xx x)):=by
 obtain⟨a0,a1,a2,a3,a4,a5,a6,a7,a8⟩:=x
 refine aV func339 fun g F hg hF=> ?_
 cbv
 repeat'(first|(split<;>rename_i hh<;>(try rw [hh])<;>(try simp only [di hg]at hh)<;>cbv))
 all_goals exact aO hF (by simp only [xx];grind)
end Go.Proofs.YtckchgoblpgpbaaGreat
