/- The reference's passes over a line that flexes, as maps of data. -/
import Derived.Test.YtckchgoblpgpbaaGreatJ5bf
set_option linter.unusedVariables false
set_option linter.unusedSimpArgs false
set_option maxHeartbeats 3200000
namespace Go.Proofs.YtckchgoblpgpbaaGreat
open Go.ChangeShapes Go.WideShapes Go.ChangeAt Go.RowKit Am Go.Proofs.Tryz
set_option maxRecDepth 100000
def yL(h:AH):List AC->List AC->Prop
 | [],[]=>True
 |c::cs,d::ds=>oO h c d/\yL h cs ds
 |_,_=>False
theorem yL.at_{h:AH}:∀(cs ds:List AC),yL h cs ds->cs.length=ds.length/\∀(j:Nat)(c d:AC),cs[j]? =some c->ds[j]? =some d->oO h c d
 | [],[],_=>⟨rfl,fun j c d hc=>by simp at hc⟩
 |c::cs,d::ds,hr=>by
  obtain⟨h1,h2⟩:=yL.at_ cs ds hr.2
  refine⟨by simp [h1],fun j x y hx hy=> ?_⟩
  cases j with
  |zero=>simp only [zqw,zqy]at hx hy;subst hx hy;exact hr.1
  |succ j=>exact h2 j x y (by simpa using hx) (by simpa using hy)
 | [],_::_,hr=>hr.elim
 |_::_,[],hr=>hr.elim
theorem vB{h:AH}{r off:Nat}{t k:Nat}{cs ds:List AC}(hr:h[r]? =some (.live ⟨t,k,[cs]⟩))(hl:yL h cs ds):Bz h (.ptr r 0 off) (.eptr ds off):=
 .ptr r 0 off ⟨t,k,[cs]⟩ cs ds hr rfl (yL.at_ cs ds hl).1 (yL.at_ cs ds hl).2
structure S4 where
 i:Int
 p:List Int
 w:List Int
 a:Int
def S4.go(gr:Bool):S4->List (ag×Bool)->S4
 |s,[]=>s
 |s,(x,f)::r=>S4.go gr (if f then⟨s.i+1,s.p,s.w,s.a⟩else⟨s.i+1,s.p++[s.i],s.w++[wgt gr x],wrap64 (s.a+wgt gr x)⟩) r
theorem S4.go_eq(X:Fx):∀(xs:List ag)(fr:List Bool)(n:Nat)(p w:List Int)(a:Int),fr.length=xs.length->(∀j:Nat,j<xs.length->itA X.xs ((n:Int)+(j:Int))=xs[j]?.getD ⟨0,0,0,0,0,0,0,false,false⟩)->
  S4.go X.gr ⟨n,p,w,a⟩ (xs.zip fr)=⟨(n:Int)+xs.length,p++fre n fr,w++(fre n fr).map fun i=>wgt X.gr (itA X.xs i),oA a ((fre n fr).map fun i=>wgt X.gr (itA X.xs i))⟩
 | [],[],n,p,w,a,_,_=>by simp [S4.go,fre,oA]
 | [],_::_,_,_,_,_,h,_=>by simp at h
 |_::_,[],_,_,_,_,h,_=>by simp at h
 |x::xs,b::fr,n,p,w,a,h1,h3=>by
  have hx:itA X.xs (n:Int)=x:=by have:=h3 0 (by simp);simpa using this
  have h4:∀j:Nat,j<xs.length->itA X.xs (((n+1:Nat):Int)+(j:Int))=xs[j]?.getD ⟨0,0,0,0,0,0,0,false,false⟩:=fun j hj=>by
   have:=h3 (j+1) (by simp;omega)
   simp only [List.getElem?_cons_succ]at this
   rw [<-this]
   congr 1
   omega
  have ih:=fun p w a=>S4.go_eq X xs fr (n+1) p w a (by simpa using h1) h4
  have en:((n+1:Nat):Int)=(n:Int)+1:=by omega
  rw [List.zip_cons_cons]
  cases b with
  |true=>
   simp only [S4.go,if_true,fre]
   have:=ih p w a
   rw [en]at this
   rw [this,zqx]
   congr 1
   omega
  |false=>
   simp only [S4.go,Bool.false_eq_true,if_false,fre]
   have:=ih (p++[(n:Int)]) (w++[wgt X.gr x]) (wrap64 (a+wgt X.gr x))
   rw [en]at this
   rw [this,zqx,zqA,oA,hx,zqC,zqC]
   congr 1
   omega
theorem S4.all_(X:Fx){fr:List Bool}(hf:fr.length=X.xs.length):S4.go X.gr ⟨0,[],[],0⟩ (X.xs.zip fr)=⟨X.xs.length,fre 0 fr,X.ws fr,X.all fr⟩:=by
 have:=S4.go_eq X X.xs fr 0 [] [] 0 hf (fun j hj=>by simp [itA])
 simpa [Fx.all,Fx.ws]using this
theorem jX(xs:List ag)(gr:Bool)(i:Int)(h0:0<=i)(h1:i<xs.length)(c1 c2 c4 c5 c6:AC):PC0 333 [.c (.eptr [.view (vw ag.c xs),c1,c2,.B gr,c4,c5,c6] 0),ai i] (.i (wgt gr (itA xs i))):=by
 obtain⟨y,hb⟩:=nmE (itA xs i)
 obtain⟨V,hV⟩:=nmE (vw ag.c xs)
 have ha:V[i.toNat]? =some (lc (ag.c y)):=by rw [hV,hb];exact bf (oI h0 h1)
 rw [<-hV,<-hb]
 obtain⟨y0,y1,y2,y3,y4,y5,y6,y7,y8⟩:=y
 cases gr
 ·refine ae (aJ f333) ay func333 fun g F hg hF=> ?_
  cbv
  refine goX hg _ h0 ha rfl ?_
  cbv
  refine goX hg _ h0 ha rfl ?_
  cbv
  exact aV hF (by rw [gc hg];rfl)
 ·refine ae (aJ f333) ay func333 fun g F hg hF=> ?_
  cbv
  refine goX hg _ h0 ha rfl ?_
  cbv
  exact aV hF rfl
theorem rA(xs:List ag)(sz:List Int)(gap inner:Int)(gr:Bool)(hx:xs.length<=1048576)(hs:sz.length<=1048576)(c4 c6:AC):PC0 338 [.c (.eptr [.view (vw ag.c xs),.J gap,.J inner,.B gr,c4,.view (vw ak sz),c6] 0)] (.i (uZ xs sz gap inner gr)):=by
 have co:=gp xs sz gap hx hs
 obtain⟨V,hV⟩:=nmE (vw ag.c xs)
 obtain⟨Z,hZ⟩:=nmE (vw ak sz)
 obtain⟨r,hr⟩:=nmE (uZ xs sz gap inner gr)
 rw [<-hV,<-hZ]at co⊢
 rw [<-hr]
 rw [uZ]at hr
 cases gr
 ·refine ae (aJ f338) ay func338 fun g F hg hF=> ?_
  cbv
  (first|refine ba hg (co) rfl (fun OV ha=> ?_)|refine aB hg (co) rfl (fun OV ha=> ?_));cbv
  obtain⟨n,hn⟩:∃n,n=g .w .sub .i64 inner OV:=⟨_,rfl⟩
  rw [<-hn]
  rw [bZ hg,ha]at hn
  cases hq:g .q .gtr n 0<;>cbv
  all_goals rw [cu hg]at hq
  ·(first|refine ba hg (bD _) rfl (fun Q hQ=> ?_)|refine aB hg (bD _) rfl (fun Q hQ=> ?_));cbv
   exact aV hF (by rw [hQ,hr,<-hn,if_neg (by simpa using hq)])
  ·exact aV hF (by rw [hr,<-hn,if_pos (by simpa using hq)])
 ·refine ae (aJ f338) ay func338 fun g F hg hF=> ?_
  cbv
  (first|refine ba hg (co) rfl (fun OV ha=> ?_)|refine aB hg (co) rfl (fun OV ha=> ?_));cbv
  obtain⟨n,hn⟩:∃n,n=g .w .sub .i64 inner OV:=⟨_,rfl⟩
  rw [<-hn]
  rw [bZ hg,ha]at hn
  cases hq:g .q .lss n 0<;>cbv
  all_goals rw [bh hg]at hq
  ·(first|refine ba hg (bD _) rfl (fun Q hQ=> ?_)|refine aB hg (bD _) rfl (fun Q hQ=> ?_));cbv
   exact aV hF (by rw [hQ,hr,<-hn,if_neg (by simpa using hq)])
  ·exact aV hF (by rw [hr,<-hn,if_pos (by simpa using hq)])
structure S5 where
 d:List Int
 s:Int
 b:Bool
def S5.go(X:Fx)(A r:Int):S5->List (Int×Int)->S5
 |s,[]=>s
 |s,(i,_)::is=>S5.go X A r ⟨s.d++[ovr X.gr A r (itA X.xs i)],wrap64 (s.s+ovr X.gr A r (itA X.xs i)),s.b||(ovr X.gr A r (itA X.xs i) !=0)⟩ is
theorem S5.go_eq(X:Fx)(A r:Int):∀(is:List Int)(ws:List Int)(s:S5),ws.length=is.length->S5.go X A r s (is.zip ws)=⟨s.d++is.map (fun i=>ovr X.gr A r (itA X.xs i)),oA s.s (is.map fun i=>ovr X.gr A r (itA X.xs i)),s.b||(is.map fun i=>ovr X.gr A r (itA X.xs i)).any fun o=>o !=0⟩
 | [],_,s,_=>by simp [S5.go,oA]
 |i::is,w::ws,s,h=>by
  rw [List.zip_cons_cons,S5.go,S5.go_eq X A r is ws _ (by simpa using h)]
  simp only [zqA,oA,List.any_cons,zqC,List.singleton_append,Bool.or_assoc]
 |_::_,[],_,h=>by simp at h
theorem D8(d:List Int)(m k:Nat)(v:Int)(hk:k=d.length):(d++List.replicate (m+1) 0).set k v=(d++[v])++List.replicate m 0:=by
 subst hk
 simp [List.replicate_succ]
def Gw(X:Fx)(so:Bool)(sum:Int)(p:Int×Int×Int):Option (Int×Int):=
 if so=false then some (p.1,cl (wrap64 ((itA X.xs p.1).base+p.2.2)))
 else if 0<p.2.1/\0<=sum then some (p.1,(itA X.xs p.1).least)
 else if p.2.1<0/\sum<=0 then some (p.1,vd (itA X.xs p.1))else none
theorem Fx.setS_eq(X:Fx)(fr:List Bool)(rest:Int):X.setS fr rest=((fre 0 fr).zip ((X.ovs fr rest).zip (shr rest (X.ws fr)))).filterMap (Gw X ((X.ovs fr rest).any fun o=>o !=0) (oA 0 (X.ovs fr rest))):=rfl
theorem ry(X:Fx)(hX:ep X.xs=true)(sz:List Int)(fr:List Bool)(hs:sz.length=X.xs.length)(hf:fr.length=X.xs.length)(p:Int):
  Con prog 334 (toH [.bx 304 7 (X.bx p),.rw ⟨4,1,vw lR fr⟩,.rw ⟨3,1,vw ak sz⟩]) [.c (.ptr 0 0 0)] fun res h'=>∃eh,toH eh=h'/\∃p' sz' fr',
   res= .t (abl (decide (fre 0 fr≠[])))/\eh=[.bx 304 7 (X.bx p'),.rw ⟨4,1,vw lR fr'⟩,.rw ⟨3,1,vw ak sz'⟩]/\
   sz'=(if fre 0 fr=[]then sz else o3 (X.setS fr (uZ X.xs sz X.gap X.inner X.gr)) sz)/\fr'=(if fre 0 fr=[]then fr else oE ((X.setS fr (uZ X.xs sz X.gap X.inner X.gr)).map (·.1)) fr):=by
 have hp:=S4.all_ X hf
 obtain⟨yd,yc⟩:=fd hX
 obtain⟨zs,xf⟩:=nmE (X.xs.zip fr)
 have hV:vw ag.c X.xs=zs.map fun t=>lc (ag.c t.1):=by
  rw [xf,vw]
  conv=>lhs;rw [<-List.map_fst_zip (l₁:=X.xs) (l₂:=fr) (by omega)]
  rw [List.map_map];rfl
 have x7:zs.length<=1048576:=by rw [xf,zqB];omega
 rw [<-xf]at hp
 obtain⟨rt,x1⟩:=nmE (uZ X.xs sz X.gap X.inner X.gr)
 have cw:=fun(i:Int)(h0:0<=i)(h1:i<X.xs.length)(c1 c2 c4 c5 c6:AC)=>jX X.xs X.gr i h0 h1 c1 c2 c4 c5 c6
 have xh:=fun(c4 c6:AC)=>rA X.xs sz X.gap X.inner X.gr (by omega) (by omega) c4 c6
 obtain⟨V,hY⟩:=nmE (vw ag.c X.xs)
 obtain⟨Z,hZ⟩:=nmE (vw ak sz)
 have yb:=lmV hZ
 have iZ:=imV hZ
 have kZ:=kmV (k:=1) hZ fun _=>rfl
 have dZ:=dmV hZ
 obtain⟨R,hR⟩:=nmE (vw lR fr)
 obtain⟨FR,hm⟩:=nmE (fre 0 fr)
 obtain⟨WS,h6⟩:=nmE (X.ws fr)
 obtain⟨AL,xE⟩:=nmE (X.all fr)
 obtain⟨GR,hW⟩:=nmE X.gr
 have pZ:=pmV hZ
 have pR:=pmV hR
 have kR:=kmV (k:=1) hR fun _=>rfl
 have dR:=dmV hR
 have xT:aX R=(X.xs.length:Int):=by rw [hR,aQ,hf]
 simp only [<-x1]at xh⊢
 simp only [Fx.bx,<-hY,<-hZ,<-hR,<-hW]at cw xh⊢
 rw [<-hY]at hV
 rw [<-hm,<-h6,<-xE]at hp
 rw [<-hm]
 have xo:aX V=(X.xs.length:Int):=by rw [hY,aQ]
 obtain⟨R1,xH⟩:=nmE (S4.mk (X.xs.length:Int) FR WS AL)
 rw [<-xH]at hp
 refine xl (c:=aJ f334) ay func334 (by kernel_rfl) (by kernel_rfl) (bl (by rfl)) (by kernel_rfl) fun g F hg hF=> ?_
 replace hg:g=G0 prog 3 f334.ntmps:=hg
 replace hF:F=mA 3 _:=hF
 cbv
 refine aY hg ay (by kernel_rfl) V (fun t=>lc (ag.c t.1)) zs hV x7 (fun z(s:S4×LLA×LLA)=>[(0,.p 0),(3,.o 3),(4,.o 4),(5,.i (s.1.a)),(6,.i (z))]) (fun z(s:S4×LLA×LLA)=>[.bx 304 7 [.view V,.J X.gap,.J X.inner,.B GR,.own 1,.own 2,.J p],.rw ⟨4,1,R⟩,.rw ⟨3,1,Z⟩,.rw ⟨3,1,s.2.1⟩,.rw ⟨3,1,s.2.2⟩]) (fun z(s:S4×LLA×LLA)=>s.2.1=vw ak s.1.w/\s.2.2=vw ak s.1.p/\s.1.i=z/\(s.1.w.length:Int)<=z/\(s.1.p.length:Int)<=z) (fun(s:S4×LLA×LLA) rest=>S4.go X.gr s.1 rest) (R1) (⟨0,[],[],0⟩,[],[]) hp ⟨rfl,rfl,rfl,by simp,by simp⟩ (Wk.weak (wkG [some 0,some 1,some 2,some 3,some 4] zr5 ⟨⟨_,_,rfl,rfl,rfl,rfl,.inr ⟨zr7,trivial⟩⟩,wqE rfl pR,wqE rfl pZ,wqE rfl rfl,wqE rfl rfl,trivial⟩)) (fun z s B hz h0 hi he=> ?_) (fun z s x rest B z0 z1 z2 hx hy h0 hi hc e1 hB=> ?_)
 rotate_left
 ·obtain⟨⟨i,pl,w,a⟩,eW,eP⟩:=s
  obtain⟨b1,b2,b3,b4,b5⟩:=hi
  dsimp only at b1 b2 b3 b4 b5 h0
  subst b3
  obtain⟨x,b⟩:=x
  have hG:=hx
  rw [xf,List.getElem?_zip_eq_some]at hG
  obtain⟨q1,q2⟩:=hG
  have ya:aX V=(X.xs.length:Int):=xo
  have lW:eW.length<=1048576:=by rw [b1,aq];omega
  have lP:eP.length<=1048576:=by rw [b2,aq];omega
  have pW:=pmV b1
  have pP:=pmV b2
  have xi:=fun c1 c2 c4 c5 c6=>cw i z0 (xo▸z1) c1 c2 c4 c5 c6
  have xW:itA X.xs i=x:=by unfold itA;rw [q1];rfl
  obtain⟨w0,xA⟩:=nmE (wgt GR (itA X.xs i))
  simp only [<-xA]at xi
  rw [xW,hW]at xA
  have aP:eP++[[.J i]]=vw ak (pl++[i]):=by rw [bv,b2];rfl
  have aW:eW++[[.J w0]]=vw ak (w++[w0]):=by rw [bv,b1];rfl
  have h9:i<aX R:=by rw [xT,<-xo];exact z1
  cbv
  rw [hc]
  cbv
  refine goY hg z0 h9 fun j hj xa=> ?_
  cbv
  refine⟨_,by rw [hj,hR];exact bf q2,?_⟩
  cases b<;>cbv
  ·refine dg hg rfl (by decide) lP ?_
   cbv
   refine fJ hg (xi _ _ (.view R) (.view Z) _) (dp (vB rfl ⟨ao rfl,ao rfl,ao rfl,ao rfl,aZ (ab:=⟨_,_,R⟩) rfl kR dR,aZ (ab:=⟨_,_,Z⟩) rfl kZ dZ,ao rfl,trivial⟩) (ah (ao rfl) av)) rfl ?_
   cbv
   refine dg hg rfl (by decide) lW ?_
   cbv
   refine fJ hg (xi _ _ (.view R) (.view Z) _) (dp (vB rfl ⟨ao rfl,ao rfl,ao rfl,ao rfl,aZ (ab:=⟨_,_,R⟩) rfl kR dR,aZ (ab:=⟨_,_,Z⟩) rfl kZ dZ,ao rfl,trivial⟩) (ah (ao rfl) av)) rfl ?_
   cbv
   rw [e1]
   simp only [gd hg,aN hg]
   exact hB ((⟨i+1,pl++[i],w++[w0],wrap64 (a+w0)⟩,_,_)) _ _ ⟨(by simpa [S4.go,xA,hW]using h0),⟨aW,aP,rfl,by simp;omega,by simp;omega⟩⟩ (Wk.weak (wkG [some 0,some 1,some 2,some _,some _] zr5 ⟨⟨_,_,rfl,rfl,rfl,rfl,.inr ⟨zr7,trivial⟩⟩,wqE rfl pR,wqE rfl pZ,⟨_,_,rfl,rfl,rfl,rfl,.inl ⟨rfl,aW.symm▸aF _ _⟩⟩,⟨_,_,rfl,rfl,rfl,rfl,.inl ⟨rfl,aP.symm▸aF _ _⟩⟩,trivial⟩))
  ·rw [e1]
   exact hB ((⟨i+1,pl,w,a⟩,eW,eP)) _ _ ⟨(by simpa [S4.go]using h0),⟨b1,b2,rfl,by dsimp only;omega,by dsimp only;omega⟩⟩ (Wk.weak (wkG [some 0,some 1,some 2,some 3,some 4] zr5 ⟨⟨_,_,rfl,rfl,rfl,rfl,.inr ⟨zr7,trivial⟩⟩,wqE rfl pR,wqE rfl pZ,wqE rfl pW,wqE rfl pP,trivial⟩))
 obtain⟨⟨i,pl,w,a⟩,eW,eP⟩:=s
 obtain⟨b1,b2,b3,b4,b5⟩:=hi
 dsimp only at b1 b2 h0
 rw [xH]at h0
 simp only [S4.go,S4.mk.injEq]at h0
 obtain⟨-,h2,h3,h4⟩:=h0
 obtain rfl:FR=pl:=h2.symm
 obtain rfl:WS=w:=h3.symm
 obtain rfl:AL=a:=h4.symm
 have pW:=pmV b1
 have pP:=pmV b2
 have x8:=kmV (k:=1) b2 fun _=>rfl
 have xO:=dmV b2
 have xN:=kmV (k:=1) b1 fun _=>rfl
 have xD:=dmV b1
 have x9:FR.length<=12:=by have:=jQ fr 0;rw [<-hm,hf]at this;omega
 have xM:WS.length=FR.length:=by rw [h6,hm,Fx.ws,zql]
 cbv;rw [he];cbv
 by_cases hn:FR=[]
 ·have e:g .q .eql (g .ln eP) 0=true:=by rw [bj hg,bF hg,b2,hn];rfl
  rw [e]
  cbv
  exact xg hF rfl rfl rfl zr7 pR pZ rfl ⟨_,rfl,p,sz,fr,by simp [hn],by rw [hZ,hR],by simp [hn],by simp [hn]⟩
 have e:g .q .eql (g .ln eP) 0=false:=by
  rw [bj hg,bF hg,b2,aQ]
  have:FR.length≠0:=fun h=>hn (zqv h)
  simp;omega
 rw [e]
 cbv
 obtain⟨p1,xZ⟩:∃p1,p1=g .w .add .i64 p 1:=⟨_,rfl⟩
 rw [<-xZ]
 refine fJ hg (xh (.view R) _) (dp (vB rfl ⟨ao rfl,ao rfl,ao rfl,ao rfl,aZ (ab:=⟨_,_,R⟩) rfl kR dR,aZ (ab:=⟨_,_,Z⟩) rfl kZ dZ,ao rfl,trivial⟩) av) rfl ?_
 cbv
 refine Ep hg (by decide) (by rw [b2,aq];omega) ?_
 cbv
 generalize hO:g .rp (g .ln eP) _=O0
 replace hO:O0=vw ak (List.replicate FR.length 0):=by
  rw [<-hO,zf hg,bF hg,b2,aQ,C2]
  rfl
 have pO:=pmV hO
 obtain⟨qs,xe⟩:=nmE (FR.zip WS)
 have xp:eP=qs.map fun t=>lc (ak t.1):=by
  rw [b2,xe,vw]
  conv=>lhs;rw [<-List.map_fst_zip (l₁:=FR) (l₂:=WS) (by omega)]
  rw [List.map_map];rfl
 have x0:qs.length<=1048576:=by rw [xe,zqB];omega
 obtain⟨hu,hJ⟩:=nmE (X.ovs fr rt)
 obtain⟨SM,xL⟩:=nmE (oA 0 hu)
 obtain⟨SB,xK⟩:=nmE (hu.any fun o=>o !=0)
 obtain⟨R2,xI⟩:=nmE (S5.mk hu SM SB)
 have xQ:S5.go X AL rt ⟨[],0,false⟩ qs=R2:=by
  rw [xe,S5.go_eq X AL rt FR WS _ xM,xI,xL,xK,hJ,Fx.ovs,<-hm,<-xE]
  simp
 have xS:hu.length=FR.length:=by rw [hJ,Fx.ovs,<-hm,zql]
 refine aY hg ay (by kernel_rfl) eP (fun t=>lc (ak t.1)) qs xp x0 (fun z(s:S5×LLA)=>[(0,.p 0),(3,.o 3),(4,.v eP),(5,.i (AL)),(7,.i (rt)),(8,.o 4),(9,.i (s.1.s)),(10,.t (abl (s.1.b))),(11,.i (z))]) (fun z(s:S5×LLA)=>[.bx 304 7 [.view V,.J X.gap,.J X.inner,.B GR,.own 1,.own 2,.J p1],.rw ⟨4,1,R⟩,.rw ⟨3,1,Z⟩,.rw ⟨3,1,eW⟩,.rw ⟨3,1,s.2⟩]) (fun z(s:S5×LLA)=>s.2=vw ak (s.1.d++List.replicate (FR.length-s.1.d.length) 0)/\(s.1.d.length:Int)=z) (fun(s:S5×LLA) rest=>S5.go X AL rt s.1 rest) (R2) (⟨[],0,false⟩,O0) xQ ⟨by simpa using hO,rfl⟩ (bH (sl1 4 eP) (jh rfl x8 xO) (Wk.weak (wkG [some 0,some 1,some 2,some 3,some 5] zr9 ⟨⟨_,_,rfl,rfl,rfl,rfl,.inr ⟨zr7,trivial⟩⟩,⟨_,_,rfl,rfl,rfl,rfl,.inl (bG pR)⟩,⟨_,_,rfl,rfl,rfl,rfl,.inl (bG pZ)⟩,⟨_,_,rfl,rfl,rfl,rfl,.inl (bG pW)⟩,⟨_,_,rfl,rfl,rfl,rfl,.inl (bG pO)⟩,trivial⟩))) (fun z s B hz h0 hi he=> ?_) (fun z s x rest B z0 z1 z2 hx hy h0 hi hc e1 hB=> ?_)
 rotate_left
 ·obtain⟨⟨d,s,b⟩,eO⟩:=s
  obtain⟨i1,i2⟩:=hi
  dsimp only at i1 i2 h0
  obtain⟨x,w⟩:=x
  have hG:=hx
  rw [xe,List.getElem?_zip_eq_some]at hG
  obtain⟨q1,q2⟩:=hG
  have x4:z.toNat<FR.length:=(List.getElem?_eq_some_iff.1 q1).1
  have hM:x∈fre 0 fr:=hm▸zqd q1
  have h8:=gO fr 0 (Int.le_refl 0) x hM
  have x3:=h8.1
  have hI:eP[z.toNat]? =some (lc (ak x)):=by rw [b2];exact bf q1
  have xk:eW[z.toNat]? =some (lc (ak w)):=by rw [b1];exact bf q2
  have x6:z<aX eW:=by rw [b1,aQ,xM];omega
  have hS:z<aX eO:=by rw [i1,aQ];simp only [zqe,List.length_replicate];omega
  obtain⟨y,hQ⟩:=nmE (itA X.xs x)
  have h5:V[x.toNat]? =some (lc (ag.c y)):=by rw [hY,hQ];exact bf (oI h8.1 (by rw [<-hf];omega))
  have hw:w=wgt GR y:=by
   rw [h6,Fx.ws,<-hm,zqi,q1,Option.map_some,zqy,<-hW,<-hQ]at q2
   exact q2.symm
  obtain⟨v,hv⟩:=nmE (ovr GR AL rt y)
  have hgo:S5.go X AL rt ⟨d++[v],wrap64 (s+v),b||(v !=0)⟩ rest=R2:=by rw [hv,hQ,hW];exact h0
  have xy:FR.length-d.length=FR.length-(d.length+1)+1:=by omega
  have xB:z.toNat=d.length:=by omega
  have ht:(d++List.replicate (FR.length-d.length) 0).set z.toNat v=(d++[v])++List.replicate (FR.length-(d.length+1)) 0:=by
   rw [show FR.length-d.length=FR.length-(d.length+1)+1 by omega]
   exact D8 d _ _ v (by omega)
  have h7:(d++List.replicate (FR.length-d.length) 0)[z.toNat]? =some 0:=by
   rw [xy,List.replicate_succ,xB]
   simp
  have hA:((d++[v])++List.replicate (FR.length-(d.length+1)) 0)[z.toNat]? =some v:=by
   rw [show z.toNat=d.length by omega]
   simp
  have hC:((d++[v]).length:Int)=z+1:=by simp;omega
  obtain⟨y0,y1,y2,y3,y4,y5,y6,y7,y8⟩:=y
  have hD:v=if pr GR AL rt ⟨y0,y1,y2,y3,y4,y5,y6,y7,y8⟩then wrap64 (wrap64 (y1*AL)-tgt GR AL rt ⟨y0,y1,y2,y3,y4,y5,y6,y7,y8⟩)else if 0<=y2/\wrap64 (vd ⟨y0,y1,y2,y3,y4,y5,y6,y7,y8⟩*AL)<tgt GR AL rt ⟨y0,y1,y2,y3,y4,y5,y6,y7,y8⟩then wrap64 (wrap64 (vd ⟨y0,y1,y2,y3,y4,y5,y6,y7,y8⟩*AL)-tgt GR AL rt ⟨y0,y1,y2,y3,y4,y5,y6,y7,y8⟩)else 0:=hv
  cbv
  rw [hc]
  cbv
  refine goX hg _ z0 hI rfl ?_
  cbv
  refine goX hg _ x3 h5 rfl ?_
  cbv
  refine goY hg z0 x6 fun jw xY xX=> ?_
  cbv
  refine⟨_,by rw [xY];exact xk,?_⟩
  cbv
  have hT:g .w .add .i64 (g .w .mul .i64 y0 AL) (g .w .mul .i64 rt w)=tgt GR AL rt ⟨y0,y1,y2,y3,y4,y5,y6,y7,y8⟩:=by simp only [aN hg,gc hg,hw];rfl
  have xU:g .q .lss (g .w .add .i64 (g .w .mul .i64 y0 AL) (g .w .mul .i64 rt w)) (g .w .mul .i64 y1 AL)=pr GR AL rt ⟨y0,y1,y2,y3,y4,y5,y6,y7,y8⟩:=by rw [hT];simp only [bh hg,gc hg];rfl
  rw [xU]
  cases hl:pr GR AL rt ⟨y0,y1,y2,y3,y4,y5,y6,y7,y8⟩
  ·rw [hl]at hD
   simp only [Bool.false_eq_true,if_false]at hD
   cbv
   cases h2:g .q .geq y2 0
   ·have xb:v=0:=by
     rw [iu hg]at h2
     have:=of_decide_eq_false h2
     rw [hD,if_neg (by omega)]
    cbv
    obtain⟨E1,hU⟩:=nmE eO
    have ha:E1=vw ak ((d++[v])++List.replicate (FR.length-(d.length+1)) 0):=by
     rw [hU,i1,<-ht,xb]
     congr 1
     rw [xy,List.replicate_succ,xB]
     simp
    have ho:=pmV ha
    have hd:E1=vw ak ((d++[v])++List.replicate (FR.length-(d++[v]).length) 0):=by rw [ha];simp
    rw [<-hU]
    cbv
    refine goY hg z0 (by rw [ha,aQ];simp only [zqe,List.length_replicate,zqm];omega) fun j1 hK hL=> ?_
    cbv
    refine⟨_,by rw [hK,ha];exact bf hA,?_⟩
    cbv
    cases hb:b
    ·cbv
     refine goY hg z0 (by rw [ha,aQ];simp only [zqe,List.length_replicate,zqm];omega) fun j2 hh hk=> ?_
     cbv
     refine⟨_,by rw [hh,ha];exact bf hA,?_⟩
     cbv
     rw [e1,bn hg,aN hg]
     exact hB ((⟨d++[v],wrap64 (s+v),(v !=0)⟩,E1)) _ _ ⟨(by rw [hb]at hgo;exact hgo),⟨hd,hC⟩⟩ (Wk.weak (wkG [some 0,some 1,some 2,some 3,some 4] zr9 ⟨⟨_,_,rfl,rfl,rfl,rfl,.inr ⟨zr7,trivial⟩⟩,wqE rfl pR,wqE rfl pZ,wqE rfl pW,wqE rfl ho,trivial⟩))
    ·cbv
     rw [e1,aN hg]
     exact hB ((⟨d++[v],wrap64 (s+v),true⟩,E1)) _ _ ⟨(by rw [hb]at hgo;exact hgo),⟨hd,hC⟩⟩ (Wk.weak (wkG [some 0,some 1,some 2,some 3,some 4] zr9 ⟨⟨_,_,rfl,rfl,rfl,rfl,.inr ⟨zr7,trivial⟩⟩,wqE rfl pR,wqE rfl pZ,wqE rfl pW,wqE rfl ho,trivial⟩))
   ·cbv
    have xP:0<=y2:=by rw [iu hg]at h2;exact of_decide_eq_true h2
    (first|refine ba hg (er ⟨y0,y1,y2,y3,y4,y5,y6,y7,y8⟩) rfl (fun Q1 xF=> ?_)|refine aB hg (er ⟨y0,y1,y2,y3,y4,y5,y6,y7,y8⟩) rfl (fun Q1 xF=> ?_));cbv
    have xV:g .q .gtr (g .w .add .i64 (g .w .mul .i64 y0 AL) (g .w .mul .i64 rt w)) (g .w .mul .i64 Q1 AL)=decide (wrap64 (vd ⟨y0,y1,y2,y3,y4,y5,y6,y7,y8⟩*AL)<tgt GR AL rt ⟨y0,y1,y2,y3,y4,y5,y6,y7,y8⟩):=by rw [hT];simp only [cu hg,gc hg,xF]
    rw [xV]
    by_cases h3:wrap64 (vd ⟨y0,y1,y2,y3,y4,y5,y6,y7,y8⟩*AL)<tgt GR AL rt ⟨y0,y1,y2,y3,y4,y5,y6,y7,y8⟩
    ·rw [zqu h3]
     have xb:v=wrap64 (wrap64 (vd ⟨y0,y1,y2,y3,y4,y5,y6,y7,y8⟩*AL)-tgt GR AL rt ⟨y0,y1,y2,y3,y4,y5,y6,y7,y8⟩):=by rw [hD,if_pos ⟨xP,h3⟩]
     cbv
     (first|refine ba hg (er ⟨y0,y1,y2,y3,y4,y5,y6,y7,y8⟩) rfl (fun Q2 xG=> ?_)|refine aB hg (er ⟨y0,y1,y2,y3,y4,y5,y6,y7,y8⟩) rfl (fun Q2 xG=> ?_));cbv
     refine goY hg z0 hS fun j hj xa=> ?_
     cbv
     refine goN hg ⟨_,by rw [hj,i1];exact bf h7,rfl⟩ ?_
     cbv
     generalize hG1:g .st _ _ _=E1
     have ha:E1=vw ak ((d++[v])++List.replicate (FR.length-(d.length+1)) 0):=by
      rw [<-hG1,mP hg,hj,show g .w .sub .i64 (g .w .mul .i64 Q2 AL) (g .w .add .i64 (g .w .mul .i64 y0 AL) (g .w .mul .i64 rt w))=v by rw [hT,xb,xG];simp only [bZ hg,gc hg]]
      have:=iz ak (d++List.replicate (FR.length-d.length) 0) z.toNat v
      rw [<-ht,this,i1]
      rfl
     have ho:=pmV ha
     have hd:E1=vw ak ((d++[v])++List.replicate (FR.length-(d++[v]).length) 0):=by rw [ha];simp
     refine goY hg z0 (by rw [ha,aQ];simp only [zqe,List.length_replicate,zqm];omega) fun j1 hK hL=> ?_
     cbv
     refine⟨_,by rw [hK,ha];exact bf hA,?_⟩
     cbv
     cases hb:b
     ·cbv
      refine goY hg z0 (by rw [ha,aQ];simp only [zqe,List.length_replicate,zqm];omega) fun j2 hh hk=> ?_
      cbv
      refine⟨_,by rw [hh,ha];exact bf hA,?_⟩
      cbv
      rw [e1,bn hg,aN hg]
      exact hB ((⟨d++[v],wrap64 (s+v),(v !=0)⟩,E1)) _ _ ⟨(by rw [hb]at hgo;exact hgo),⟨hd,hC⟩⟩ (Wk.weak (wkG [some 0,some 1,some 2,some 3,some 4] zr9 ⟨⟨_,_,rfl,rfl,rfl,rfl,.inr ⟨zr7,trivial⟩⟩,wqE rfl pR,wqE rfl pZ,wqE rfl pW,wqE rfl ho,trivial⟩))
     ·cbv
      rw [e1,aN hg]
      exact hB ((⟨d++[v],wrap64 (s+v),true⟩,E1)) _ _ ⟨(by rw [hb]at hgo;exact hgo),⟨hd,hC⟩⟩ (Wk.weak (wkG [some 0,some 1,some 2,some 3,some 4] zr9 ⟨⟨_,_,rfl,rfl,rfl,rfl,.inr ⟨zr7,trivial⟩⟩,wqE rfl pR,wqE rfl pZ,wqE rfl pW,wqE rfl ho,trivial⟩))
    ·rw [zqt h3]
     have xb:v=0:=by rw [hD,if_neg (fun h=>h3 h.2)]
     cbv
     obtain⟨E1,hU⟩:=nmE eO
     have ha:E1=vw ak ((d++[v])++List.replicate (FR.length-(d.length+1)) 0):=by
      rw [hU,i1,<-ht,xb]
      congr 1
      rw [xy,List.replicate_succ,xB]
      simp
     have ho:=pmV ha
     have hd:E1=vw ak ((d++[v])++List.replicate (FR.length-(d++[v]).length) 0):=by rw [ha];simp
     rw [<-hU]
     cbv
     refine goY hg z0 (by rw [ha,aQ];simp only [zqe,List.length_replicate,zqm];omega) fun j1 hK hL=> ?_
     cbv
     refine⟨_,by rw [hK,ha];exact bf hA,?_⟩
     cbv
     cases hb:b
     ·cbv
      refine goY hg z0 (by rw [ha,aQ];simp only [zqe,List.length_replicate,zqm];omega) fun j2 hh hk=> ?_
      cbv
      refine⟨_,by rw [hh,ha];exact bf hA,?_⟩
      cbv
      rw [e1,bn hg,aN hg]
      exact hB ((⟨d++[v],wrap64 (s+v),(v !=0)⟩,E1)) _ _ ⟨(by rw [hb]at hgo;exact hgo),⟨hd,hC⟩⟩ (Wk.weak (wkG [some 0,some 1,some 2,some 3,some 4] zr9 ⟨⟨_,_,rfl,rfl,rfl,rfl,.inr ⟨zr7,trivial⟩⟩,wqE rfl pR,wqE rfl pZ,wqE rfl pW,wqE rfl ho,trivial⟩))
     ·cbv
      rw [e1,aN hg]
      exact hB ((⟨d++[v],wrap64 (s+v),true⟩,E1)) _ _ ⟨(by rw [hb]at hgo;exact hgo),⟨hd,hC⟩⟩ (Wk.weak (wkG [some 0,some 1,some 2,some 3,some 4] zr9 ⟨⟨_,_,rfl,rfl,rfl,rfl,.inr ⟨zr7,trivial⟩⟩,wqE rfl pR,wqE rfl pZ,wqE rfl pW,wqE rfl ho,trivial⟩))
  ·rw [hl]at hD
   simp only [if_true]at hD
   cbv
   refine goY hg z0 hS fun j hj xa=> ?_
   cbv
   refine goN hg ⟨_,by rw [hj,i1];exact bf h7,rfl⟩ ?_
   cbv
   generalize hG1:g .st _ _ _=E1
   have ha:E1=vw ak ((d++[v])++List.replicate (FR.length-(d.length+1)) 0):=by
    rw [<-hG1,mP hg,hj,show g .w .sub .i64 (g .w .mul .i64 y1 AL) (g .w .add .i64 (g .w .mul .i64 y0 AL) (g .w .mul .i64 rt w))=v by rw [hT,hD];simp only [bZ hg,gc hg]]
    have:=iz ak (d++List.replicate (FR.length-d.length) 0) z.toNat v
    rw [<-ht,this,i1]
    rfl
   have ho:=pmV ha
   have hd:E1=vw ak ((d++[v])++List.replicate (FR.length-(d++[v]).length) 0):=by rw [ha];simp
   refine goY hg z0 (by rw [ha,aQ];simp only [zqe,List.length_replicate,zqm];omega) fun j1 hK hL=> ?_
   cbv
   refine⟨_,by rw [hK,ha];exact bf hA,?_⟩
   cbv
   cases hb:b
   ·cbv
    refine goY hg z0 (by rw [ha,aQ];simp only [zqe,List.length_replicate,zqm];omega) fun j2 hh hk=> ?_
    cbv
    refine⟨_,by rw [hh,ha];exact bf hA,?_⟩
    cbv
    rw [e1,bn hg,aN hg]
    exact hB ((⟨d++[v],wrap64 (s+v),(v !=0)⟩,E1)) _ _ ⟨(by rw [hb]at hgo;exact hgo),⟨hd,hC⟩⟩ (Wk.weak (wkG [some 0,some 1,some 2,some 3,some 4] zr9 ⟨⟨_,_,rfl,rfl,rfl,rfl,.inr ⟨zr7,trivial⟩⟩,wqE rfl pR,wqE rfl pZ,wqE rfl pW,wqE rfl ho,trivial⟩))
   ·cbv
    rw [e1,aN hg]
    exact hB ((⟨d++[v],wrap64 (s+v),true⟩,E1)) _ _ ⟨(by rw [hb]at hgo;exact hgo),⟨hd,hC⟩⟩ (Wk.weak (wkG [some 0,some 1,some 2,some 3,some 4] zr9 ⟨⟨_,_,rfl,rfl,rfl,rfl,.inr ⟨zr7,trivial⟩⟩,wqE rfl pR,wqE rfl pZ,wqE rfl pW,wqE rfl ho,trivial⟩))
 obtain⟨⟨d,s,b⟩,eO⟩:=s
 obtain⟨i1,i2⟩:=hi
 dsimp only at i1 i2 h0
 rw [xI]at h0
 simp only [S5.go,S5.mk.injEq]at h0
 obtain⟨h2,h3,h4⟩:=h0
 obtain rfl:hu=d:=h2.symm
 obtain rfl:SM=s:=h3.symm
 obtain rfl:SB=b:=h4.symm
 have xm:eO=vw ak hu:=by rw [i1,xS,Nat.sub_self];simp
 have pO:=pmV xm
 have x2:(shr rt WS).length=FR.length:=by rw [h6,hm];exact X.shr_len hX hf rt
 have cs:=mY rt WS (by omega)
 obtain⟨SH,xn⟩:=nmE (shr rt WS)
 obtain⟨ES,xc⟩:=nmE (vw ak SH)
 have xC:=imV xc
 have hN:aC ES=true:=jp xC
 rw [<-xn,<-b1,<-xc]at cs
 rw [<-xn]at x2
 obtain⟨q3,xd⟩:=nmE (FR.zip (hu.zip SH))
 have xp:eP=q3.map fun t=>lc (ak t.1):=by
  rw [b2,xd,vw]
  conv=>lhs;rw [<-List.map_fst_zip (l₁:=FR) (l₂:=hu.zip SH) (by rw [zqB];omega)]
  rw [List.map_map];rfl
 have xz:q3.length<=1048576:=by rw [xd,zqB];omega
 obtain⟨R3,xJ⟩:=nmE (S3.mk (o3 (X.setS fr rt) sz) (oE ((X.setS fr rt).map (·.1)) fr))
 have xR:S3.go ⟨sz,fr⟩ (q3.filterMap (Gw X SB SM))=R3:=by rw [xJ,X.setS_eq,<-hm,<-hJ,<-h6,<-xn,<-xK,<-xL,<-xd];rfl
 cbv;rw [he];cbv
 first|(refine bE hg cs (ah (ao rfl) (ah (aZ (ab:=⟨_,_,eW⟩) rfl xN xD) (av))) xC ?_;cbv)|(refine bO hg cs (ah (ao rfl) (ah (aZ (ab:=⟨_,_,eW⟩) rfl xN xD) (av))) xC ?_;cbv)
 refine aY hg ay (by kernel_rfl) eP (fun t=>lc (ak t.1)) q3 xp xz (fun z(s:S3×LLA×LLA)=>[(0,.p 0),(4,.v eP),(8,.o 3),(9,.i (SM)),(10,.t (abl (SB))),(14,.o 4),(15,.i (z))]) (fun z(s:S3×LLA×LLA)=>[.bx 304 7 [.view V,.J X.gap,.J X.inner,.B GR,.own 1,.own 2,.J p1],.rw ⟨4,1,s.2.2⟩,.rw ⟨3,1,s.2.1⟩,.rw ⟨3,1,eO⟩,.rw ⟨3,1,ES⟩]) (fun z(s:S3×LLA×LLA)=>s.2.1=vw ak s.1.s/\s.2.2=vw lR s.1.f/\s.1.s.length=X.xs.length/\s.1.f.length=X.xs.length) (fun(s:S3×LLA×LLA) rest=>S3.go s.1 (rest.filterMap (Gw X SB SM))) (R3) (⟨sz,fr⟩,Z,R) xR ⟨hZ,hR,hs,hf⟩ (Wk.weak (wkG [some 0,some 1,some 2,some 4,some 5] zr7 ⟨⟨_,_,rfl,rfl,rfl,rfl,.inr ⟨zr7,trivial⟩⟩,wqE rfl pR,wqE rfl pZ,wqE rfl pO,wqE rfl hN,trivial⟩)) (fun z s B hz h0 hi he=> ?_) (fun z s x rest B z0 z1 z2 hx hy h0 hi hc e1 hB=> ?_)
 rotate_left
 ·obtain⟨⟨q,u⟩,eZ,eR⟩:=s
  obtain⟨k1,k2,k3,k4⟩:=hi
  dsimp only at k1 k2 k3 k4 h0
  obtain⟨x,o,sh⟩:=x
  have hG:=hx
  rw [xd,List.getElem?_zip_eq_some,List.getElem?_zip_eq_some]at hG
  obtain⟨q1,q2,q4⟩:=hG
  have x4:z.toNat<FR.length:=(List.getElem?_eq_some_iff.1 q1).1
  have hM:x∈fre 0 fr:=hm▸zqd q1
  have h8:=gO fr 0 (Int.le_refl 0) x hM
  have hr:=h8.1
  have hI:eP[z.toNat]? =some (lc (ak x)):=by rw [b2];exact bf q1
  have hH:eO[z.toNat]? =some (lc (ak o)):=by rw [xm];exact bf q2
  have xj:ES[z.toNat]? =some (lc (ak sh)):=by rw [xc];exact bf q4
  have hS:z<aX eO:=by rw [xm,aQ];omega
  have x5:z<aX ES:=by rw [xc,aQ];omega
  obtain⟨y,hQ⟩:=nmE (itA X.xs x)
  have h5:V[x.toNat]? =some (lc (ag.c y)):=by rw [hY,hQ];exact bf (oI h8.1 (by rw [<-hf];omega))
  have h9:x<aX eR:=by rw [k2,aQ,k4,<-hf];omega
  have xq:x<aX eZ:=by rw [k1,aQ,k3,<-hf];omega
  have xt:x.toNat<u.length:=by rw [k4,<-hf];omega
  have xr:x.toNat<q.length:=by rw [k3,<-hf];omega
  have sR:eR.set x.toNat [.B true]=vw lR (u.set x.toNat true):=by rw [iz,k2];rfl
  have sZ:∀v:Int,eZ.set x.toNat [.J v]=vw ak (q.set x.toNat v):=fun v=>by rw [iz,k1];rfl
  have pq:=pmV k1
  have pu:=pmV k2
  have hE:Gw X SB SM (x,o,sh)=if SB=false then some (x,cl (wrap64 (y.base+sh)))else if 0<o/\0<=SM then some (x,y.least)else if o<0/\SM<=0 then some (x,vd y)else none:=by rw [hQ];rfl
  obtain⟨y0,y1,y2,y3,y4,y5,y6,y7,y8⟩:=y
  dsimp only at hE
  cbv
  rw [hc]
  cbv
  refine goX hg _ z0 hI rfl ?_
  cbv
  cases hSBc:SB
  ·cbv
   refine goX hg _ hr h5 rfl ?_
   cbv
   refine goY hg z0 x5 fun j3 xu xw=> ?_
   cbv
   refine⟨_,by rw [xu];exact xj,?_⟩
   cbv
   (first|refine ba hg (aG _) rfl (fun Q0 hP=> ?_)|refine aB hg (aG _) rfl (fun Q0 hP=> ?_));cbv
   rw [aN hg]at hP
   refine goY hg hr xq fun j2 hh hk=> ?_
   cbv
   refine goN hg ⟨_,by rw [hh,k1];exact bf (zqc xr),rfl⟩ ?_
   cbv
   refine goY hg hr h9 fun j hj xa=> ?_
   cbv
   refine goN hg ⟨_,by rw [hj,k2];exact bf (zqc xt),rfl⟩ ?_
   cbv
   rw [e1]
   simp only [mP hg]
   subst hj hh
   exact hB ((⟨q.set x.toNat (Q0),u.set x.toNat true⟩,_,_)) _ _ ⟨(by rw [List.filterMap_cons_some (b:=(x,Q0)) (by rw [hE,if_pos hSBc,hP])]at h0;exact h0),⟨sZ _,sR,by simpa using k3,by simpa using k4⟩⟩ (Wk.weak (wkG [some 0,some 1,some 2,some 3,some 4] ⟨rfl,rfl,rfl,rfl,(by rw [hSBc];exact rfl),rfl,rfl,trivial⟩ ⟨⟨_,_,rfl,rfl,rfl,rfl,.inr ⟨zr7,trivial⟩⟩,⟨_,_,rfl,rfl,rfl,rfl,.inl ⟨rfl,sR.symm▸aF _ _⟩⟩,⟨_,_,rfl,rfl,rfl,rfl,.inl ⟨rfl,(sZ _).symm▸aF _ _⟩⟩,wqE rfl pO,wqE rfl hN,trivial⟩))
  ·rw [if_neg (by rw [hSBc];simp)]at hE
   cbv
   refine goY hg z0 hS fun j3 xu xw=> ?_
   cbv
   refine⟨_,by rw [xu];exact hH,?_⟩
   cbv
   have tg:g .q .gtr o 0=decide (0<o):=by rw [cu hg]
   have tl:g .q .lss o 0=decide (o<0):=bh hg _ _
   have tm:g .q .geq SM 0=decide (0<=SM):=by rw [iu hg]
   have tn:g .q .leq SM 0=decide (SM<=0):=iy hg _ _
   by_cases c1:0<o
   ·rw [tg,zqu c1]
    cbv
    by_cases c2:0<=SM
    ·rw [tm,zqu c2]
     cbv
     refine goX hg _ hr h5 rfl ?_
     cbv
     refine goY hg hr xq fun j2 hh hk=> ?_
     cbv
     refine goN hg ⟨_,by rw [hh,k1];exact bf (zqc xr),rfl⟩ ?_
     cbv
     refine goY hg hr h9 fun j hj xa=> ?_
     cbv
     refine goN hg ⟨_,by rw [hj,k2];exact bf (zqc xt),rfl⟩ ?_
     cbv
     rw [e1]
     simp only [mP hg]
     subst hj hh
     exact hB ((⟨q.set x.toNat (y1),u.set x.toNat true⟩,_,_)) _ _ ⟨(by rw [List.filterMap_cons_some (b:=(x,y1)) (by rw [hE,if_pos ⟨c1,c2⟩])]at h0;exact h0),⟨sZ _,sR,by simpa using k3,by simpa using k4⟩⟩ (Wk.weak (wkG [some 0,some 1,some 2,some 3,some 4] ⟨rfl,rfl,rfl,rfl,(by rw [hSBc];exact rfl),rfl,rfl,trivial⟩ ⟨⟨_,_,rfl,rfl,rfl,rfl,.inr ⟨zr7,trivial⟩⟩,⟨_,_,rfl,rfl,rfl,rfl,.inl ⟨rfl,sR.symm▸aF _ _⟩⟩,⟨_,_,rfl,rfl,rfl,rfl,.inl ⟨rfl,(sZ _).symm▸aF _ _⟩⟩,wqE rfl pO,wqE rfl hN,trivial⟩))
    ·rw [tm,zqt c2]
     cbv
     refine goY hg z0 hS fun j4 xv xx=> ?_
     cbv
     refine⟨_,by rw [xv];exact hH,?_⟩
     cbv
     rw [tl,zqt (by omega)]
     cbv
     rw [e1]
     exact hB ((⟨q,u⟩,eZ,eR)) _ _ ⟨(by rw [List.filterMap_cons_none (by rw [hE,if_neg (fun h=>c2 h.2),if_neg (by omega)])]at h0;exact h0),⟨k1,k2,k3,k4⟩⟩ (Wk.weak (wkG [some 0,some 1,some 2,some 3,some 4] ⟨rfl,rfl,rfl,rfl,(by rw [hSBc];exact rfl),rfl,rfl,trivial⟩ ⟨⟨_,_,rfl,rfl,rfl,rfl,.inr ⟨zr7,trivial⟩⟩,wqE rfl pu,wqE rfl pq,wqE rfl pO,wqE rfl hN,trivial⟩))
   ·rw [tg,zqt c1]
    cbv
    refine goY hg z0 hS fun j4 xv xx=> ?_
    cbv
    refine⟨_,by rw [xv];exact hH,?_⟩
    cbv
    by_cases c3:o<0
    ·rw [tl,zqu c3]
     cbv
     by_cases c4:SM<=0
     ·rw [tn,zqu c4]
      cbv
      refine goX hg _ hr h5 rfl ?_
      cbv
      (first|refine ba hg (er ⟨y0,y1,y2,y3,y4,y5,y6,y7,y8⟩) rfl (fun Q0 hP=> ?_)|refine aB hg (er ⟨y0,y1,y2,y3,y4,y5,y6,y7,y8⟩) rfl (fun Q0 hP=> ?_));cbv
      refine goY hg hr xq fun j2 hh hk=> ?_
      cbv
      refine goN hg ⟨_,by rw [hh,k1];exact bf (zqc xr),rfl⟩ ?_
      cbv
      refine goY hg hr h9 fun j hj xa=> ?_
      cbv
      refine goN hg ⟨_,by rw [hj,k2];exact bf (zqc xt),rfl⟩ ?_
      cbv
      rw [e1]
      simp only [mP hg]
      subst hj hh
      exact hB ((⟨q.set x.toNat (Q0),u.set x.toNat true⟩,_,_)) _ _ ⟨(by rw [List.filterMap_cons_some (b:=(x,Q0)) (by rw [hE,if_neg (fun h=>c1 h.1),if_pos ⟨c3,c4⟩,hP])]at h0;exact h0),⟨sZ _,sR,by simpa using k3,by simpa using k4⟩⟩ (Wk.weak (wkG [some 0,some 1,some 2,some 3,some 4] ⟨rfl,rfl,rfl,rfl,(by rw [hSBc];exact rfl),rfl,rfl,trivial⟩ ⟨⟨_,_,rfl,rfl,rfl,rfl,.inr ⟨zr7,trivial⟩⟩,⟨_,_,rfl,rfl,rfl,rfl,.inl ⟨rfl,sR.symm▸aF _ _⟩⟩,⟨_,_,rfl,rfl,rfl,rfl,.inl ⟨rfl,(sZ _).symm▸aF _ _⟩⟩,wqE rfl pO,wqE rfl hN,trivial⟩))
     ·rw [tn,zqt c4]
      cbv
      rw [e1]
      exact hB ((⟨q,u⟩,eZ,eR)) _ _ ⟨(by rw [List.filterMap_cons_none (by rw [hE,if_neg (fun h=>c1 h.1),if_neg (fun h=>c4 h.2)])]at h0;exact h0),⟨k1,k2,k3,k4⟩⟩ (Wk.weak (wkG [some 0,some 1,some 2,some 3,some 4] ⟨rfl,rfl,rfl,rfl,(by rw [hSBc];exact rfl),rfl,rfl,trivial⟩ ⟨⟨_,_,rfl,rfl,rfl,rfl,.inr ⟨zr7,trivial⟩⟩,wqE rfl pu,wqE rfl pq,wqE rfl pO,wqE rfl hN,trivial⟩))
    ·rw [tl,zqt c3]
     cbv
     rw [e1]
     exact hB ((⟨q,u⟩,eZ,eR)) _ _ ⟨(by rw [List.filterMap_cons_none (by rw [hE,if_neg (fun h=>c1 h.1),if_neg (fun h=>c3 h.1)])]at h0;exact h0),⟨k1,k2,k3,k4⟩⟩ (Wk.weak (wkG [some 0,some 1,some 2,some 3,some 4] ⟨rfl,rfl,rfl,rfl,(by rw [hSBc];exact rfl),rfl,rfl,trivial⟩ ⟨⟨_,_,rfl,rfl,rfl,rfl,.inr ⟨zr7,trivial⟩⟩,wqE rfl pu,wqE rfl pq,wqE rfl pO,wqE rfl hN,trivial⟩))
 obtain⟨⟨q,u⟩,eZ,eR⟩:=s
 obtain⟨k1,k2,k3,k4⟩:=hi
 dsimp only at k1 k2 k3 k4 h0
 cbv;rw [he];cbv
 have hq:S3.mk q u=R3:=h0
 rw [xJ]at hq
 simp only [S3.mk.injEq]at hq
 exact xg hF rfl rfl rfl zr7 (by rw [k2];exact aF _ _) (by rw [k1];exact aF _ _) rfl ⟨_,rfl,p1,q,u,by simp [hn],by rw [k1,k2],by rw [if_neg hn];exact hq.1,by rw [if_neg hn];exact hq.2⟩
end Go.Proofs.YtckchgoblpgpbaaGreat
