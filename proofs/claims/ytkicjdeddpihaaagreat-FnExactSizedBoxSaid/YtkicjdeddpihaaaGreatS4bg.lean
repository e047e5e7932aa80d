/- The reference's passes over a line that flexes, as maps of data. -/
import Derived.Test.YtkicjdeddpihaaaGreatS4bf
set_option linter.unusedVariables false
set_option linter.unusedSimpArgs false
set_option maxHeartbeats 3200000
namespace Go.Proofs.YtkicjdeddpihaaaGreat
open Go.ChangeShapes Go.WideShapes Go.ChangeAt Go.RowKit Am Go.Proofs.Tryz
set_option maxRecDepth 100000
def Ai(h:AH):List AC->List AC->Prop
 | [],[]=>True
 |c::cs,d::ds=>po h c d/\Ai h cs ds
 |_,_=>False
theorem Ai.at_{h:AH}:∀(cs ds:List AC),Ai h cs ds->cs.length=ds.length/\∀(j:Nat)(c d:AC),cs[j]? =some c->ds[j]? =some d->po h c d
 | [],[],_=>⟨rfl,fun j c d hc=>by simp at hc⟩
 |c::cs,d::ds,hr=>by
  obtain⟨h1,h2⟩:=Ai.at_ cs ds hr.2
  refine⟨by simp [h1],fun j x y hx hy=> ?_⟩
  cases j with
  |zero=>simp only [zqw,zqy]at hx hy;subst hx hy;exact hr.1
  |succ j=>exact h2 j x y (by simpa using hx) (by simpa using hy)
 | [],_::_,hr=>hr.elim
 |_::_,[],hr=>hr.elim
theorem wN{h:AH}{r off:Nat}{t k:Nat}{cs ds:List AC}(hr:h[r]? =some (.live ⟨t,k,[cs]⟩))(hl:Ai h cs ds):Dd h (.ptr r 0 off) (.eptr ds off):=
 .ptr r 0 off ⟨t,k,[cs]⟩ cs ds hr rfl (Ai.at_ cs ds hl).1 (Ai.at_ cs ds hl).2
structure S4 where
 i:Int
 p:List Int
 w:List Int
 a:Int
def S4.go(gr:Bool):S4->List (af×Bool)->S4
 |s,[]=>s
 |s,(x,f)::r=>S4.go gr (if f then⟨s.i+1,s.p,s.w,s.a⟩else⟨s.i+1,s.p++[s.i],s.w++[wgt gr x],wrap64 (s.a+wgt gr x)⟩) r
theorem S4.go_eq(X:Fx):∀(xs:List af)(fr:List Bool)(n:Nat)(p w:List Int)(a:Int),fr.length=xs.length->(∀j:Nat,j<xs.length->itA X.xs ((n:Int)+(j:Int))=xs[j]?.getD ⟨0,0,0,0,0,0,0,false,false⟩)->
  S4.go X.gr ⟨n,p,w,a⟩ (xs.zip fr)=⟨(n:Int)+xs.length,p++fre n fr,w++(fre n fr).map fun i=>wgt X.gr (itA X.xs i),oZ a ((fre n fr).map fun i=>wgt X.gr (itA X.xs i))⟩
 | [],[],n,p,w,a,_,_=>by simp [S4.go,fre,oZ]
 | [],_::_,_,_,_,_,h,_=>by simp at h
 |_::_,[],_,_,_,_,h,_=>by simp at h
 |x::xs,b::fr,n,p,w,a,h1,h3=>by
  have hx:itA X.xs (n:Int)=x:=by have:=h3 0 (by simp);simpa using this
  have h4:∀j:Nat,j<xs.length->itA X.xs (((n+1:Nat):Int)+(j:Int))=xs[j]?.getD ⟨0,0,0,0,0,0,0,false,false⟩:=fun j hj=>by
   have:=h3 (j+1) (by simp;omega)
   simp only [List.getElem?_cons_succ]at this
   rw [<-this]
   congr 1
   omega
  have ih:=fun p w a=>S4.go_eq X xs fr (n+1) p w a (by simpa using h1) h4
  have en:((n+1:Nat):Int)=(n:Int)+1:=by omega
  rw [List.zip_cons_cons]
  cases b with
  |true=>
   simp only [S4.go,if_true,fre]
   have:=ih p w a
   rw [en]at this
   rw [this,zqx]
   congr 1
   omega
  |false=>
   simp only [S4.go,Bool.false_eq_true,if_false,fre]
   have:=ih (p++[(n:Int)]) (w++[wgt X.gr x]) (wrap64 (a+wgt X.gr x))
   rw [en]at this
   rw [this,zqx,zqA,oZ,hx,zqC,zqC]
   congr 1
   omega
theorem S4.all_(X:Fx){fr:List Bool}(hf:fr.length=X.xs.length):S4.go X.gr ⟨0,[],[],0⟩ (X.xs.zip fr)=⟨X.xs.length,fre 0 fr,X.ws fr,X.all fr⟩:=by
 have:=S4.go_eq X X.xs fr 0 [] [] 0 hf (fun j hj=>by simp [itA])
 simpa [Fx.all,Fx.ws]using this
theorem ki(xs:List af)(gr:Bool)(i:Int)(h0:0<=i)(h1:i<xs.length)(c1 c2 c4 c5 c6:AC):PC0 260 [.c (.eptr [.view (vw af.c xs),c1,c2,.B gr,c4,c5,c6] 0),ai i] (.i (wgt gr (itA xs i))):=by
 obtain⟨y,hb⟩:=nmE (itA xs i)
 obtain⟨V,hV⟩:=nmE (vw af.c xs)
 have ha:V[i.toNat]? =some (lc (af.c y)):=by rw [hV,hb];exact ba (pb h0 h1)
 rw [<-hV,<-hb]
 obtain⟨y0,y1,y2,y3,y4,y5,y6,y7,y8⟩:=y
 cases gr
 ·refine ad (aM f260) ay func260 fun g F hg hF=> ?_
  cbv
  refine goX hg _ h0 ha rfl ?_
  cbv
  refine goX hg _ h0 ha rfl ?_
  cbv
  exact aV hF (by rw [gk hg];rfl)
 ·refine ad (aM f260) ay func260 fun g F hg hF=> ?_
  cbv
  refine goX hg _ h0 ha rfl ?_
  cbv
  exact aV hF rfl
theorem sB(xs:List af)(sz:List Int)(gap inner:Int)(gr:Bool)(hx:xs.length<=1048576)(hs:sz.length<=1048576)(c4 c6:AC):PC0 294 [.c (.eptr [.view (vw af.c xs),.J gap,.J inner,.B gr,c4,.view (vw aj sz),c6] 0)] (.i (wg xs sz gap inner gr)):=by
 have co:=gv xs sz gap hx hs
 obtain⟨V,hV⟩:=nmE (vw af.c xs)
 obtain⟨Z,hZ⟩:=nmE (vw aj sz)
 obtain⟨r,hr⟩:=nmE (wg xs sz gap inner gr)
 rw [<-hV,<-hZ]at co⊢
 rw [<-hr]
 rw [wg]at hr
 cases gr
 ·refine ad (aM f294) ay func294 fun g F hg hF=> ?_
  cbv
  (first|refine bm hg (co) rfl (fun OV ha=> ?_)|refine aX hg (co) rfl (fun OV ha=> ?_));cbv
  obtain⟨n,hn⟩:∃n,n=g .w .sub .i64 inner OV:=⟨_,rfl⟩
  rw [<-hn]
  rw [dp hg,ha]at hn
  cases hq:g .q .gtr n 0<;>cbv
  all_goals rw [cj hg]at hq
  ·(first|refine bm hg (bP _) rfl (fun Q hQ=> ?_)|refine aX hg (bP _) rfl (fun Q hQ=> ?_));cbv
   exact aV hF (by rw [hQ,hr,<-hn,if_neg (by simpa using hq)])
  ·exact aV hF (by rw [hr,<-hn,if_pos (by simpa using hq)])
 ·refine ad (aM f294) ay func294 fun g F hg hF=> ?_
  cbv
  (first|refine bm hg (co) rfl (fun OV ha=> ?_)|refine aX hg (co) rfl (fun OV ha=> ?_));cbv
  obtain⟨n,hn⟩:∃n,n=g .w .sub .i64 inner OV:=⟨_,rfl⟩
  rw [<-hn]
  rw [dp hg,ha]at hn
  cases hq:g .q .lss n 0<;>cbv
  all_goals rw [bg hg]at hq
  ·(first|refine bm hg (bP _) rfl (fun Q hQ=> ?_)|refine aX hg (bP _) rfl (fun Q hQ=> ?_));cbv
   exact aV hF (by rw [hQ,hr,<-hn,if_neg (by simpa using hq)])
  ·exact aV hF (by rw [hr,<-hn,if_pos (by simpa using hq)])
structure S5 where
 d:List Int
 s:Int
 b:Bool
def S5.go(X:Fx)(A r:Int):S5->List (Int×Int)->S5
 |s,[]=>s
 |s,(i,_)::is=>S5.go X A r ⟨s.d++[ovr X.gr A r (itA X.xs i)],wrap64 (s.s+ovr X.gr A r (itA X.xs i)),s.b||(ovr X.gr A r (itA X.xs i) !=0)⟩ is
theorem S5.go_eq(X:Fx)(A r:Int):∀(is:List Int)(ws:List Int)(s:S5),ws.length=is.length->S5.go X A r s (is.zip ws)=⟨s.d++is.map (fun i=>ovr X.gr A r (itA X.xs i)),oZ s.s (is.map fun i=>ovr X.gr A r (itA X.xs i)),s.b||(is.map fun i=>ovr X.gr A r (itA X.xs i)).any fun o=>o !=0⟩
 | [],_,s,_=>by simp [S5.go,oZ]
 |i::is,w::ws,s,h=>by
  rw [List.zip_cons_cons,S5.go,S5.go_eq X A r is ws _ (by simpa using h)]
  simp only [zqA,oZ,List.any_cons,zqC,List.singleton_append,Bool.or_assoc]
 |_::_,[],_,h=>by simp at h
theorem Gq(d:List Int)(m k:Nat)(v:Int)(hk:k=d.length):(d++List.replicate (m+1) 0).set k v=(d++[v])++List.replicate m 0:=by
 subst hk
 simp [List.replicate_succ]
def IX(X:Fx)(so:Bool)(sum:Int)(p:Int×Int×Int):Option (Int×Int):=
 if so=false then some (p.1,cl (wrap64 ((itA X.xs p.1).base+p.2.2)))
 else if 0<p.2.1/\0<=sum then some (p.1,(itA X.xs p.1).least)
 else if p.2.1<0/\sum<=0 then some (p.1,ww (itA X.xs p.1))else none
theorem Fx.setS_eq(X:Fx)(fr:List Bool)(rest:Int):X.setS fr rest=((fre 0 fr).zip ((X.ovs fr rest).zip (shr rest (X.ws fr)))).filterMap (IX X ((X.ovs fr rest).any fun o=>o !=0) (oZ 0 (X.ovs fr rest))):=rfl
theorem sw(X:Fx)(hX:ep X.xs=true)(sz:List Int)(fr:List Bool)(hs:sz.length=X.xs.length)(hf:fr.length=X.xs.length)(p:Int):
  Con prog 261 (toH [.bx 253 7 (X.bx p),.rw ⟨4,1,vw mc fr⟩,.rw ⟨3,1,vw aj sz⟩]) [.c (.ptr 0 0 0)] fun res h'=>∃eh,toH eh=h'/\∃p' sz' fr',
   res= .t (abl (decide (fre 0 fr≠[])))/\eh=[.bx 253 7 (X.bx p'),.rw ⟨4,1,vw mc fr'⟩,.rw ⟨3,1,vw aj sz'⟩]/\
   sz'=(if fre 0 fr=[]then sz else pJ (X.setS fr (wg X.xs sz X.gap X.inner X.gr)) sz)/\fr'=(if fre 0 fr=[]then fr else o4 ((X.setS fr (wg X.xs sz X.gap X.inner X.gr)).map (·.1)) fr):=by
 have hp:=S4.all_ X hf
 obtain⟨yb,ya⟩:=ff hX
 obtain⟨zs,xf⟩:=nmE (X.xs.zip fr)
 have hV:vw af.c X.xs=zs.map fun t=>lc (af.c t.1):=by
  rw [xf,vw]
  conv=>lhs;rw [<-List.map_fst_zip (l₁:=X.xs) (l₂:=fr) (by omega)]
  rw [List.map_map];rfl
 have x5:zs.length<=1048576:=by rw [xf,zqB];omega
 rw [<-xf]at hp
 obtain⟨rt,xZ⟩:=nmE (wg X.xs sz X.gap X.inner X.gr)
 have cw:=fun(i:Int)(h0:0<=i)(h1:i<X.xs.length)(c1 c2 c4 c5 c6:AC)=>ki X.xs X.gr i h0 h1 c1 c2 c4 c5 c6
 have xg:=fun(c4 c6:AC)=>sB X.xs sz X.gap X.inner X.gr (by omega) (by omega) c4 c6
 obtain⟨V,hY⟩:=nmE (vw af.c X.xs)
 obtain⟨Z,hZ⟩:=nmE (vw aj sz)
 have x9:=lmV hZ
 have iZ:=imV hZ
 have kZ:=kmV (k:=1) hZ fun _=>rfl
 have dZ:=dmV hZ
 obtain⟨R,hR⟩:=nmE (vw mc fr)
 obtain⟨FR,hm⟩:=nmE (fre 0 fr)
 obtain⟨WS,h6⟩:=nmE (X.ws fr)
 obtain⟨AL,xC⟩:=nmE (X.all fr)
 obtain⟨GR,hW⟩:=nmE X.gr
 have pZ:=pmV hZ
 have pR:=pmV hR
 have kR:=kmV (k:=1) hR fun _=>rfl
 have dR:=dmV hR
 have xR:aN R=(X.xs.length:Int):=by rw [hR,aO,hf]
 simp only [<-xZ]at xg⊢
 simp only [Fx.bx,<-hY,<-hZ,<-hR,<-hW]at cw xg⊢
 rw [<-hY]at hV
 rw [<-hm,<-h6,<-xC]at hp
 rw [<-hm]
 have xm:aN V=(X.xs.length:Int):=by rw [hY,aO]
 obtain⟨R1,xF⟩:=nmE (S4.mk (X.xs.length:Int) FR WS AL)
 rw [<-xF]at hp
 refine mY (c:=aM f261) ay func261 (by kernel_rfl) (by kernel_rfl) (bl (by rfl)) (by kernel_rfl) fun g F hg hF=> ?_
 replace hg:g=G0 prog 3 f261.ntmps:=hg
 replace hF:F=m6 3 _:=hF
 cbv
 refine aY hg ay (by kernel_rfl) V (fun t=>lc (af.c t.1)) zs hV x5 (fun z(s:S4×LLA×LLA)=>[(0,.p 0),(3,.o 3),(4,.o 4),(5,.i (s.1.a)),(6,.i (z))]) (fun z(s:S4×LLA×LLA)=>[.bx 253 7 [.view V,.J X.gap,.J X.inner,.B GR,.own 1,.own 2,.J p],.rw ⟨4,1,R⟩,.rw ⟨3,1,Z⟩,.rw ⟨3,1,s.2.1⟩,.rw ⟨3,1,s.2.2⟩]) (fun z(s:S4×LLA×LLA)=>s.2.1=vw aj s.1.w/\s.2.2=vw aj s.1.p/\s.1.i=z/\(s.1.w.length:Int)<=z/\(s.1.p.length:Int)<=z) (fun(s:S4×LLA×LLA) rest=>S4.go X.gr s.1 rest) (R1) (⟨0,[],[],0⟩,[],[]) hp ⟨rfl,rfl,rfl,by simp,by simp⟩ (Wk.weak (wkG [some 0,some 1,some 2,some 3,some 4] zr5 ⟨⟨_,_,rfl,rfl,rfl,rfl,.inr ⟨zr7,trivial⟩⟩,wqE rfl pR,wqE rfl pZ,wqE rfl rfl,wqE rfl rfl,trivial⟩)) (fun z s B hz h0 hi he=> ?_) (fun z s x rest B z0 z1 z2 hx hy h0 hi hc e1 hB=> ?_)
 rotate_left
 ·obtain⟨⟨i,pl,w,a⟩,eW,eP⟩:=s
  obtain⟨b1,b2,b3,b4,b5⟩:=hi
  dsimp only at b1 b2 b3 b4 b5 h0
  subst b3
  obtain⟨x,b⟩:=x
  have hG:=hx
  rw [xf,List.getElem?_zip_eq_some]at hG
  obtain⟨q1,q2⟩:=hG
  have x8:aN V=(X.xs.length:Int):=xm
  have lW:eW.length<=1048576:=by rw [b1,ar];omega
  have lP:eP.length<=1048576:=by rw [b2,ar];omega
  have pW:=pmV b1
  have pP:=pmV b2
  have xh:=fun c1 c2 c4 c5 c6=>cw i z0 (xm▸z1) c1 c2 c4 c5 c6
  have xU:itA X.xs i=x:=by unfold itA;rw [q1];rfl
  obtain⟨w0,xy⟩:=nmE (wgt GR (itA X.xs i))
  simp only [<-xy]at xh
  rw [xU,hW]at xy
  have aP:eP++[[.J i]]=vw aj (pl++[i]):=by rw [br,b2];rfl
  have aW:eW++[[.J w0]]=vw aj (w++[w0]):=by rw [br,b1];rfl
  have h9:i<aN R:=by rw [xR,<-xm];exact z1
  cbv
  rw [hc]
  cbv
  refine goY hg z0 h9 fun j hj xa=> ?_
  cbv
  refine⟨_,by rw [hj,hR];exact ba q2,?_⟩
  cases b<;>cbv
  ·refine dz hg rfl (by decide) lP ?_
   cbv
   refine ij hg (xh _ _ (.view R) (.view Z) _) (dB (wN rfl ⟨aw rfl,aw rfl,aw rfl,aw rfl,bf (ab:=⟨_,_,R⟩) rfl kR dR,bf (ab:=⟨_,_,Z⟩) rfl kZ dZ,aw rfl,trivial⟩) (aq (aw rfl) aC)) rfl ?_
   cbv
   refine dz hg rfl (by decide) lW ?_
   cbv
   refine ij hg (xh _ _ (.view R) (.view Z) _) (dB (wN rfl ⟨aw rfl,aw rfl,aw rfl,aw rfl,bf (ab:=⟨_,_,R⟩) rfl kR dR,bf (ab:=⟨_,_,Z⟩) rfl kZ dZ,aw rfl,trivial⟩) (aq (aw rfl) aC)) rfl ?_
   cbv
   rw [e1]
   simp only [gW hg,aJ hg]
   exact hB ((⟨i+1,pl++[i],w++[w0],wrap64 (a+w0)⟩,_,_)) _ _ ⟨(by simpa [S4.go,xy,hW]using h0),⟨aW,aP,rfl,by simp;omega,by simp;omega⟩⟩ (Wk.weak (wkG [some 0,some 1,some 2,some _,some _] zr5 ⟨⟨_,_,rfl,rfl,rfl,rfl,.inr ⟨zr7,trivial⟩⟩,wqE rfl pR,wqE rfl pZ,⟨_,_,rfl,rfl,rfl,rfl,.inl ⟨rfl,aW.symm▸aI _ _⟩⟩,⟨_,_,rfl,rfl,rfl,rfl,.inl ⟨rfl,aP.symm▸aI _ _⟩⟩,trivial⟩))
  ·rw [e1]
   exact hB ((⟨i+1,pl,w,a⟩,eW,eP)) _ _ ⟨(by simpa [S4.go]using h0),⟨b1,b2,rfl,by dsimp only;omega,by dsimp only;omega⟩⟩ (Wk.weak (wkG [some 0,some 1,some 2,some 3,some 4] zr5 ⟨⟨_,_,rfl,rfl,rfl,rfl,.inr ⟨zr7,trivial⟩⟩,wqE rfl pR,wqE rfl pZ,wqE rfl pW,wqE rfl pP,trivial⟩))
 obtain⟨⟨i,pl,w,a⟩,eW,eP⟩:=s
 obtain⟨b1,b2,b3,b4,b5⟩:=hi
 dsimp only at b1 b2 h0
 rw [xF]at h0
 simp only [S4.go,S4.mk.injEq]at h0
 obtain⟨-,h2,h3,h4⟩:=h0
 obtain rfl:FR=pl:=h2.symm
 obtain rfl:WS=w:=h3.symm
 obtain rfl:AL=a:=h4.symm
 have pW:=pmV b1
 have pP:=pmV b2
 have x6:=kmV (k:=1) b2 fun _=>rfl
 have xM:=dmV b2
 have xL:=kmV (k:=1) b1 fun _=>rfl
 have xB:=dmV b1
 have x7:FR.length<=12:=by have:=j7 fr 0;rw [<-hm,hf]at this;omega
 have xK:WS.length=FR.length:=by rw [h6,hm,Fx.ws,zql]
 cbv;rw [he];cbv
 by_cases hn:FR=[]
 ·have e:g .q .eql (g .ln eP) 0=true:=by rw [bn hg,bz hg,b2,hn];rfl
  rw [e]
  cbv
  exact yt hF rfl rfl rfl zr7 pR pZ rfl ⟨_,rfl,p,sz,fr,by simp [hn],by rw [hZ,hR],by simp [hn],by simp [hn]⟩
 have e:g .q .eql (g .ln eP) 0=false:=by
  rw [bn hg,bz hg,b2,aO]
  have:FR.length≠0:=fun h=>hn (zqv h)
  simp;omega
 rw [e]
 cbv
 obtain⟨p1,xX⟩:∃p1,p1=g .w .add .i64 p 1:=⟨_,rfl⟩
 rw [<-xX]
 refine ij hg (xg (.view R) _) (dB (wN rfl ⟨aw rfl,aw rfl,aw rfl,aw rfl,bf (ab:=⟨_,_,R⟩) rfl kR dR,bf (ab:=⟨_,_,Z⟩) rfl kZ dZ,aw rfl,trivial⟩) aC) rfl ?_
 cbv
 refine Fz hg (by decide) (by rw [b2,ar];omega) ?_
 cbv
 generalize hO:g .rp (g .ln eP) _=O0
 replace hO:O0=vw aj (List.replicate FR.length 0):=by
  rw [<-hO,yo hg,bz hg,b2,aO,EV]
  rfl
 have pO:=pmV hO
 obtain⟨qs,xe⟩:=nmE (FR.zip WS)
 have xn:eP=qs.map fun t=>lc (aj t.1):=by
  rw [b2,xe,vw]
  conv=>lhs;rw [<-List.map_fst_zip (l₁:=FR) (l₂:=WS) (by omega)]
  rw [List.map_map];rfl
 have xY:qs.length<=1048576:=by rw [xe,zqB];omega
 obtain⟨hu,hJ⟩:=nmE (X.ovs fr rt)
 obtain⟨SM,xJ⟩:=nmE (oZ 0 hu)
 obtain⟨SB,xI⟩:=nmE (hu.any fun o=>o !=0)
 obtain⟨R2,xG⟩:=nmE (S5.mk hu SM SB)
 have xO:S5.go X AL rt ⟨[],0,false⟩ qs=R2:=by
  rw [xe,S5.go_eq X AL rt FR WS _ xK,xG,xJ,xI,hJ,Fx.ovs,<-hm,<-xC]
  simp
 have xQ:hu.length=FR.length:=by rw [hJ,Fx.ovs,<-hm,zql]
 refine aY hg ay (by kernel_rfl) eP (fun t=>lc (aj t.1)) qs xn xY (fun z(s:S5×LLA)=>[(0,.p 0),(3,.o 3),(4,.v eP),(5,.i (AL)),(7,.i (rt)),(8,.o 4),(9,.i (s.1.s)),(10,.t (abl (s.1.b))),(11,.i (z))]) (fun z(s:S5×LLA)=>[.bx 253 7 [.view V,.J X.gap,.J X.inner,.B GR,.own 1,.own 2,.J p1],.rw ⟨4,1,R⟩,.rw ⟨3,1,Z⟩,.rw ⟨3,1,eW⟩,.rw ⟨3,1,s.2⟩]) (fun z(s:S5×LLA)=>s.2=vw aj (s.1.d++List.replicate (FR.length-s.1.d.length) 0)/\(s.1.d.length:Int)=z) (fun(s:S5×LLA) rest=>S5.go X AL rt s.1 rest) (R2) (⟨[],0,false⟩,O0) xO ⟨by simpa using hO,rfl⟩ (bG (sl1 4 eP) (jy rfl x6 xM) (Wk.weak (wkG [some 0,some 1,some 2,some 3,some 5] zr9 ⟨⟨_,_,rfl,rfl,rfl,rfl,.inr ⟨zr7,trivial⟩⟩,⟨_,_,rfl,rfl,rfl,rfl,.inl (bD pR)⟩,⟨_,_,rfl,rfl,rfl,rfl,.inl (bD pZ)⟩,⟨_,_,rfl,rfl,rfl,rfl,.inl (bD pW)⟩,⟨_,_,rfl,rfl,rfl,rfl,.inl (bD pO)⟩,trivial⟩))) (fun z s B hz h0 hi he=> ?_) (fun z s x rest B z0 z1 z2 hx hy h0 hi hc e1 hB=> ?_)
 rotate_left
 ·obtain⟨⟨d,s,b⟩,eO⟩:=s
  obtain⟨i1,i2⟩:=hi
  dsimp only at i1 i2 h0
  obtain⟨x,w⟩:=x
  have hG:=hx
  rw [xe,List.getElem?_zip_eq_some]at hG
  obtain⟨q1,q2⟩:=hG
  have x2:z.toNat<FR.length:=(List.getElem?_eq_some_iff.1 q1).1
  have hM:x∈fre 0 fr:=hm▸zqd q1
  have h8:=ig fr 0 (Int.le_refl 0) x hM
  have x1:=h8.1
  have hI:eP[z.toNat]? =some (lc (aj x)):=by rw [b2];exact ba q1
  have xj:eW[z.toNat]? =some (lc (aj w)):=by rw [b1];exact ba q2
  have x4:z<aN eW:=by rw [b1,aO,xK];omega
  have hS:z<aN eO:=by rw [i1,aO];simp only [zqe,List.length_replicate];omega
  obtain⟨y,hQ⟩:=nmE (itA X.xs x)
  have h5:V[x.toNat]? =some (lc (af.c y)):=by rw [hY,hQ];exact ba (pb h8.1 (by rw [<-hf];omega))
  have hw:w=wgt GR y:=by
   rw [h6,Fx.ws,<-hm,zqi,q1,Option.map_some,zqy,<-hW,<-hQ]at q2
   exact q2.symm
  obtain⟨v,hv⟩:=nmE (ovr GR AL rt y)
  have hgo:S5.go X AL rt ⟨d++[v],wrap64 (s+v),b||(v !=0)⟩ rest=R2:=by rw [hv,hQ,hW];exact h0
  have xw:FR.length-d.length=FR.length-(d.length+1)+1:=by omega
  have xz:z.toNat=d.length:=by omega
  have ht:(d++List.replicate (FR.length-d.length) 0).set z.toNat v=(d++[v])++List.replicate (FR.length-(d.length+1)) 0:=by
   rw [show FR.length-d.length=FR.length-(d.length+1)+1 by omega]
   exact Gq d _ _ v (by omega)
  have h7:(d++List.replicate (FR.length-d.length) 0)[z.toNat]? =some 0:=by
   rw [xw,List.replicate_succ,xz]
   simp
  have hA:((d++[v])++List.replicate (FR.length-(d.length+1)) 0)[z.toNat]? =some v:=by
   rw [show z.toNat=d.length by omega]
   simp
  have hC:((d++[v]).length:Int)=z+1:=by simp;omega
  obtain⟨y0,y1,y2,y3,y4,y5,y6,y7,y8⟩:=y
  have hD:v=if qr GR AL rt ⟨y0,y1,y2,y3,y4,y5,y6,y7,y8⟩then wrap64 (wrap64 (y1*AL)-tgt GR AL rt ⟨y0,y1,y2,y3,y4,y5,y6,y7,y8⟩)else if 0<=y2/\wrap64 (ww ⟨y0,y1,y2,y3,y4,y5,y6,y7,y8⟩*AL)<tgt GR AL rt ⟨y0,y1,y2,y3,y4,y5,y6,y7,y8⟩then wrap64 (wrap64 (ww ⟨y0,y1,y2,y3,y4,y5,y6,y7,y8⟩*AL)-tgt GR AL rt ⟨y0,y1,y2,y3,y4,y5,y6,y7,y8⟩)else 0:=hv
  cbv
  rw [hc]
  cbv
  refine goX hg _ z0 hI rfl ?_
  cbv
  refine goX hg _ x1 h5 rfl ?_
  cbv
  refine goY hg z0 x4 fun jw xW xV=> ?_
  cbv
  refine⟨_,by rw [xW];exact xj,?_⟩
  cbv
  have hT:g .w .add .i64 (g .w .mul .i64 y0 AL) (g .w .mul .i64 rt w)=tgt GR AL rt ⟨y0,y1,y2,y3,y4,y5,y6,y7,y8⟩:=by simp only [aJ hg,gk hg,hw];rfl
  have xS:g .q .lss (g .w .add .i64 (g .w .mul .i64 y0 AL) (g .w .mul .i64 rt w)) (g .w .mul .i64 y1 AL)=qr GR AL rt ⟨y0,y1,y2,y3,y4,y5,y6,y7,y8⟩:=by rw [hT];simp only [bg hg,gk hg];rfl
  rw [xS]
  cases hl:qr GR AL rt ⟨y0,y1,y2,y3,y4,y5,y6,y7,y8⟩
  ·rw [hl]at hD
   simp only [Bool.false_eq_true,if_false]at hD
   cbv
   cases h2:g .q .geq y2 0
   ·have xb:v=0:=by
     rw [iO hg]at h2
     have:=of_decide_eq_false h2
     rw [hD,if_neg (by omega)]
    cbv
    obtain⟨E1,hU⟩:=nmE eO
    have ha:E1=vw aj ((d++[v])++List.replicate (FR.length-(d.length+1)) 0):=by
     rw [hU,i1,<-ht,xb]
     congr 1
     rw [xw,List.replicate_succ,xz]
     simp
    have ho:=pmV ha
    have hd:E1=vw aj ((d++[v])++List.replicate (FR.length-(d++[v]).length) 0):=by rw [ha];simp
    rw [<-hU]
    cbv
    refine goY hg z0 (by rw [ha,aO];simp only [zqe,List.length_replicate,zqm];omega) fun j1 hK hL=> ?_
    cbv
    refine⟨_,by rw [hK,ha];exact ba hA,?_⟩
    cbv
    cases hb:b
    ·cbv
     refine goY hg z0 (by rw [ha,aO];simp only [zqe,List.length_replicate,zqm];omega) fun j2 hh hk=> ?_
     cbv
     refine⟨_,by rw [hh,ha];exact ba hA,?_⟩
     cbv
     rw [e1,bj hg,aJ hg]
     exact hB ((⟨d++[v],wrap64 (s+v),(v !=0)⟩,E1)) _ _ ⟨(by rw [hb]at hgo;exact hgo),⟨hd,hC⟩⟩ (Wk.weak (wkG [some 0,some 1,some 2,some 3,some 4] zr9 ⟨⟨_,_,rfl,rfl,rfl,rfl,.inr ⟨zr7,trivial⟩⟩,wqE rfl pR,wqE rfl pZ,wqE rfl pW,wqE rfl ho,trivial⟩))
    ·cbv
     rw [e1,aJ hg]
     exact hB ((⟨d++[v],wrap64 (s+v),true⟩,E1)) _ _ ⟨(by rw [hb]at hgo;exact hgo),⟨hd,hC⟩⟩ (Wk.weak (wkG [some 0,some 1,some 2,some 3,some 4] zr9 ⟨⟨_,_,rfl,rfl,rfl,rfl,.inr ⟨zr7,trivial⟩⟩,wqE rfl pR,wqE rfl pZ,wqE rfl pW,wqE rfl ho,trivial⟩))
   ·cbv
    have xN:0<=y2:=by rw [iO hg]at h2;exact of_decide_eq_true h2
    (first|refine bm hg (er ⟨y0,y1,y2,y3,y4,y5,y6,y7,y8⟩) rfl (fun Q1 xD=> ?_)|refine aX hg (er ⟨y0,y1,y2,y3,y4,y5,y6,y7,y8⟩) rfl (fun Q1 xD=> ?_));cbv
    have xT:g .q .gtr (g .w .add .i64 (g .w .mul .i64 y0 AL) (g .w .mul .i64 rt w)) (g .w .mul .i64 Q1 AL)=decide (wrap64 (ww ⟨y0,y1,y2,y3,y4,y5,y6,y7,y8⟩*AL)<tgt GR AL rt ⟨y0,y1,y2,y3,y4,y5,y6,y7,y8⟩):=by rw [hT];simp only [cj hg,gk hg,xD]
    rw [xT]
    by_cases h3:wrap64 (ww ⟨y0,y1,y2,y3,y4,y5,y6,y7,y8⟩*AL)<tgt GR AL rt ⟨y0,y1,y2,y3,y4,y5,y6,y7,y8⟩
    ·rw [zqu h3]
     have xb:v=wrap64 (wrap64 (ww ⟨y0,y1,y2,y3,y4,y5,y6,y7,y8⟩*AL)-tgt GR AL rt ⟨y0,y1,y2,y3,y4,y5,y6,y7,y8⟩):=by rw [hD,if_pos ⟨xN,h3⟩]
     cbv
     (first|refine bm hg (er ⟨y0,y1,y2,y3,y4,y5,y6,y7,y8⟩) rfl (fun Q2 xE=> ?_)|refine aX hg (er ⟨y0,y1,y2,y3,y4,y5,y6,y7,y8⟩) rfl (fun Q2 xE=> ?_));cbv
     refine goY hg z0 hS fun j hj xa=> ?_
     cbv
     refine goN hg ⟨_,by rw [hj,i1];exact ba h7,rfl⟩ ?_
     cbv
     generalize hG1:g .st _ _ _=E1
     have ha:E1=vw aj ((d++[v])++List.replicate (FR.length-(d.length+1)) 0):=by
      rw [<-hG1,jr hg,hj,show g .w .sub .i64 (g .w .mul .i64 Q2 AL) (g .w .add .i64 (g .w .mul .i64 y0 AL) (g .w .mul .i64 rt w))=v by rw [hT,xb,xE];simp only [dp hg,gk hg]]
      have:=iT aj (d++List.replicate (FR.length-d.length) 0) z.toNat v
      rw [<-ht,this,i1]
      rfl
     have ho:=pmV ha
     have hd:E1=vw aj ((d++[v])++List.replicate (FR.length-(d++[v]).length) 0):=by rw [ha];simp
     refine goY hg z0 (by rw [ha,aO];simp only [zqe,List.length_replicate,zqm];omega) fun j1 hK hL=> ?_
     cbv
     refine⟨_,by rw [hK,ha];exact ba hA,?_⟩
     cbv
     cases hb:b
     ·cbv
      refine goY hg z0 (by rw [ha,aO];simp only [zqe,List.length_replicate,zqm];omega) fun j2 hh hk=> ?_
      cbv
      refine⟨_,by rw [hh,ha];exact ba hA,?_⟩
      cbv
      rw [e1,bj hg,aJ hg]
      exact hB ((⟨d++[v],wrap64 (s+v),(v !=0)⟩,E1)) _ _ ⟨(by rw [hb]at hgo;exact hgo),⟨hd,hC⟩⟩ (Wk.weak (wkG [some 0,some 1,some 2,some 3,some 4] zr9 ⟨⟨_,_,rfl,rfl,rfl,rfl,.inr ⟨zr7,trivial⟩⟩,wqE rfl pR,wqE rfl pZ,wqE rfl pW,wqE rfl ho,trivial⟩))
     ·cbv
      rw [e1,aJ hg]
      exact hB ((⟨d++[v],wrap64 (s+v),true⟩,E1)) _ _ ⟨(by rw [hb]at hgo;exact hgo),⟨hd,hC⟩⟩ (Wk.weak (wkG [some 0,some 1,some 2,some 3,some 4] zr9 ⟨⟨_,_,rfl,rfl,rfl,rfl,.inr ⟨zr7,trivial⟩⟩,wqE rfl pR,wqE rfl pZ,wqE rfl pW,wqE rfl ho,trivial⟩))
    ·rw [zqt h3]
     have xb:v=0:=by rw [hD,if_neg (fun h=>h3 h.2)]
     cbv
     obtain⟨E1,hU⟩:=nmE eO
     have ha:E1=vw aj ((d++[v])++List.replicate (FR.length-(d.length+1)) 0):=by
      rw [hU,i1,<-ht,xb]
      congr 1
      rw [xw,List.replicate_succ,xz]
      simp
     have ho:=pmV ha
     have hd:E1=vw aj ((d++[v])++List.replicate (FR.length-(d++[v]).length) 0):=by rw [ha];simp
     rw [<-hU]
     cbv
     refine goY hg z0 (by rw [ha,aO];simp only [zqe,List.length_replicate,zqm];omega) fun j1 hK hL=> ?_
     cbv
     refine⟨_,by rw [hK,ha];exact ba hA,?_⟩
     cbv
     cases hb:b
     ·cbv
      refine goY hg z0 (by rw [ha,aO];simp only [zqe,List.length_replicate,zqm];omega) fun j2 hh hk=> ?_
      cbv
      refine⟨_,by rw [hh,ha];exact ba hA,?_⟩
      cbv
      rw [e1,bj hg,aJ hg]
      exact hB ((⟨d++[v],wrap64 (s+v),(v !=0)⟩,E1)) _ _ ⟨(by rw [hb]at hgo;exact hgo),⟨hd,hC⟩⟩ (Wk.weak (wkG [some 0,some 1,some 2,some 3,some 4] zr9 ⟨⟨_,_,rfl,rfl,rfl,rfl,.inr ⟨zr7,trivial⟩⟩,wqE rfl pR,wqE rfl pZ,wqE rfl pW,wqE rfl ho,trivial⟩))
     ·cbv
      rw [e1,aJ hg]
      exact hB ((⟨d++[v],wrap64 (s+v),true⟩,E1)) _ _ ⟨(by rw [hb]at hgo;exact hgo),⟨hd,hC⟩⟩ (Wk.weak (wkG [some 0,some 1,some 2,some 3,some 4] zr9 ⟨⟨_,_,rfl,rfl,rfl,rfl,.inr ⟨zr7,trivial⟩⟩,wqE rfl pR,wqE rfl pZ,wqE rfl pW,wqE rfl ho,trivial⟩))
  ·rw [hl]at hD
   simp only [if_true]at hD
   cbv
   refine goY hg z0 hS fun j hj xa=> ?_
   cbv
   refine goN hg ⟨_,by rw [hj,i1];exact ba h7,rfl⟩ ?_
   cbv
   generalize hG1:g .st _ _ _=E1
   have ha:E1=vw aj ((d++[v])++List.replicate (FR.length-(d.length+1)) 0):=by
    rw [<-hG1,jr hg,hj,show g .w .sub .i64 (g .w .mul .i64 y1 AL) (g .w .add .i64 (g .w .mul .i64 y0 AL) (g .w .mul .i64 rt w))=v by rw [hT,hD];simp only [dp hg,gk hg]]
    have:=iT aj (d++List.replicate (FR.length-d.length) 0) z.toNat v
    rw [<-ht,this,i1]
    rfl
   have ho:=pmV ha
   have hd:E1=vw aj ((d++[v])++List.replicate (FR.length-(d++[v]).length) 0):=by rw [ha];simp
   refine goY hg z0 (by rw [ha,aO];simp only [zqe,List.length_replicate,zqm];omega) fun j1 hK hL=> ?_
   cbv
   refine⟨_,by rw [hK,ha];exact ba hA,?_⟩
   cbv
   cases hb:b
   ·cbv
    refine goY hg z0 (by rw [ha,aO];simp only [zqe,List.length_replicate,zqm];omega) fun j2 hh hk=> ?_
    cbv
    refine⟨_,by rw [hh,ha];exact ba hA,?_⟩
    cbv
    rw [e1,bj hg,aJ hg]
    exact hB ((⟨d++[v],wrap64 (s+v),(v !=0)⟩,E1)) _ _ ⟨(by rw [hb]at hgo;exact hgo),⟨hd,hC⟩⟩ (Wk.weak (wkG [some 0,some 1,some 2,some 3,some 4] zr9 ⟨⟨_,_,rfl,rfl,rfl,rfl,.inr ⟨zr7,trivial⟩⟩,wqE rfl pR,wqE rfl pZ,wqE rfl pW,wqE rfl ho,trivial⟩))
   ·cbv
    rw [e1,aJ hg]
    exact hB ((⟨d++[v],wrap64 (s+v),true⟩,E1)) _ _ ⟨(by rw [hb]at hgo;exact hgo),⟨hd,hC⟩⟩ (Wk.weak (wkG [some 0,some 1,some 2,some 3,some 4] zr9 ⟨⟨_,_,rfl,rfl,rfl,rfl,.inr ⟨zr7,trivial⟩⟩,wqE rfl pR,wqE rfl pZ,wqE rfl pW,wqE rfl ho,trivial⟩))
 obtain⟨⟨d,s,b⟩,eO⟩:=s
 obtain⟨i1,i2⟩:=hi
 dsimp only at i1 i2 h0
 rw [xG]at h0
 simp only [S5.go,S5.mk.injEq]at h0
 obtain⟨h2,h3,h4⟩:=h0
 obtain rfl:hu=d:=h2.symm
 obtain rfl:SM=s:=h3.symm
 obtain rfl:SB=b:=h4.symm
 have xk:eO=vw aj hu:=by rw [i1,xQ,Nat.sub_self];simp
 have pO:=pmV xk
 have x0:(shr rt WS).length=FR.length:=by rw [h6,hm];exact X.shr_len hX hf rt
 have cs:=no rt WS (by omega)
 obtain⟨SH,xl⟩:=nmE (shr rt WS)
 obtain⟨ES,xc⟩:=nmE (vw aj SH)
 have xA:=imV xc
 have hN:aB ES=true:=eU xA
 rw [<-xl,<-b1,<-xc]at cs
 rw [<-xl]at x0
 obtain⟨q3,xd⟩:=nmE (FR.zip (hu.zip SH))
 have xn:eP=q3.map fun t=>lc (aj t.1):=by
  rw [b2,xd,vw]
  conv=>lhs;rw [<-List.map_fst_zip (l₁:=FR) (l₂:=hu.zip SH) (by rw [zqB];omega)]
  rw [List.map_map];rfl
 have xx:q3.length<=1048576:=by rw [xd,zqB];omega
 obtain⟨R3,xH⟩:=nmE (S3.mk (pJ (X.setS fr rt) sz) (o4 ((X.setS fr rt).map (·.1)) fr))
 have xP:S3.go ⟨sz,fr⟩ (q3.filterMap (IX X SB SM))=R3:=by rw [xH,X.setS_eq,<-hm,<-hJ,<-h6,<-xl,<-xI,<-xJ,<-xd];rfl
 cbv;rw [he];cbv
 first|(refine bK hg cs (aq (aw rfl) (aq (bf (ab:=⟨_,_,eW⟩) rfl xL xB) (aC))) xA ?_;cbv)|(refine bW hg cs (aq (aw rfl) (aq (bf (ab:=⟨_,_,eW⟩) rfl xL xB) (aC))) xA ?_;cbv)
 refine aY hg ay (by kernel_rfl) eP (fun t=>lc (aj t.1)) q3 xn xx (fun z(s:S3×LLA×LLA)=>[(0,.p 0),(4,.v eP),(8,.o 3),(9,.i (SM)),(10,.t (abl (SB))),(14,.o 4),(15,.i (z))]) (fun z(s:S3×LLA×LLA)=>[.bx 253 7 [.view V,.J X.gap,.J X.inner,.B GR,.own 1,.own 2,.J p1],.rw ⟨4,1,s.2.2⟩,.rw ⟨3,1,s.2.1⟩,.rw ⟨3,1,eO⟩,.rw ⟨3,1,ES⟩]) (fun z(s:S3×LLA×LLA)=>s.2.1=vw aj s.1.s/\s.2.2=vw mc s.1.f/\s.1.s.length=X.xs.length/\s.1.f.length=X.xs.length) (fun(s:S3×LLA×LLA) rest=>S3.go s.1 (rest.filterMap (IX X SB SM))) (R3) (⟨sz,fr⟩,Z,R) xP ⟨hZ,hR,hs,hf⟩ (Wk.weak (wkG [some 0,some 1,some 2,some 4,some 5] zr7 ⟨⟨_,_,rfl,rfl,rfl,rfl,.inr ⟨zr7,trivial⟩⟩,wqE rfl pR,wqE rfl pZ,wqE rfl pO,wqE rfl hN,trivial⟩)) (fun z s B hz h0 hi he=> ?_) (fun z s x rest B z0 z1 z2 hx hy h0 hi hc e1 hB=> ?_)
 rotate_left
 ·obtain⟨⟨q,u⟩,eZ,eR⟩:=s
  obtain⟨k1,k2,k3,k4⟩:=hi
  dsimp only at k1 k2 k3 k4 h0
  obtain⟨x,o,sh⟩:=x
  have hG:=hx
  rw [xd,List.getElem?_zip_eq_some,List.getElem?_zip_eq_some]at hG
  obtain⟨q1,q2,q4⟩:=hG
  have x2:z.toNat<FR.length:=(List.getElem?_eq_some_iff.1 q1).1
  have hM:x∈fre 0 fr:=hm▸zqd q1
  have h8:=ig fr 0 (Int.le_refl 0) x hM
  have hr:=h8.1
  have hI:eP[z.toNat]? =some (lc (aj x)):=by rw [b2];exact ba q1
  have hH:eO[z.toNat]? =some (lc (aj o)):=by rw [xk];exact ba q2
  have xi:ES[z.toNat]? =some (lc (aj sh)):=by rw [xc];exact ba q4
  have hS:z<aN eO:=by rw [xk,aO];omega
  have x3:z<aN ES:=by rw [xc,aO];omega
  obtain⟨y,hQ⟩:=nmE (itA X.xs x)
  have h5:V[x.toNat]? =some (lc (af.c y)):=by rw [hY,hQ];exact ba (pb h8.1 (by rw [<-hf];omega))
  have h9:x<aN eR:=by rw [k2,aO,k4,<-hf];omega
  have xo:x<aN eZ:=by rw [k1,aO,k3,<-hf];omega
  have xq:x.toNat<u.length:=by rw [k4,<-hf];omega
  have xp:x.toNat<q.length:=by rw [k3,<-hf];omega
  have sR:eR.set x.toNat [.B true]=vw mc (u.set x.toNat true):=by rw [iT,k2];rfl
  have sZ:∀v:Int,eZ.set x.toNat [.J v]=vw aj (q.set x.toNat v):=fun v=>by rw [iT,k1];rfl
  have pq:=pmV k1
  have pu:=pmV k2
  have hE:IX X SB SM (x,o,sh)=if SB=false then some (x,cl (wrap64 (y.base+sh)))else if 0<o/\0<=SM then some (x,y.least)else if o<0/\SM<=0 then some (x,ww y)else none:=by rw [hQ];rfl
  obtain⟨y0,y1,y2,y3,y4,y5,y6,y7,y8⟩:=y
  dsimp only at hE
  cbv
  rw [hc]
  cbv
  refine goX hg _ z0 hI rfl ?_
  cbv
  cases hSBc:SB
  ·cbv
   refine goX hg _ hr h5 rfl ?_
   cbv
   refine goY hg z0 x3 fun j3 xr xu=> ?_
   cbv
   refine⟨_,by rw [xr];exact xi,?_⟩
   cbv
   (first|refine bm hg (aQ _) rfl (fun Q0 hP=> ?_)|refine aX hg (aQ _) rfl (fun Q0 hP=> ?_));cbv
   rw [aJ hg]at hP
   refine goY hg hr xo fun j2 hh hk=> ?_
   cbv
   refine goN hg ⟨_,by rw [hh,k1];exact ba (zqc xp),rfl⟩ ?_
   cbv
   refine goY hg hr h9 fun j hj xa=> ?_
   cbv
   refine goN hg ⟨_,by rw [hj,k2];exact ba (zqc xq),rfl⟩ ?_
   cbv
   rw [e1]
   simp only [jr hg]
   subst hj hh
   exact hB ((⟨q.set x.toNat (Q0),u.set x.toNat true⟩,_,_)) _ _ ⟨(by rw [List.filterMap_cons_some (b:=(x,Q0)) (by rw [hE,if_pos hSBc,hP])]at h0;exact h0),⟨sZ _,sR,by simpa using k3,by simpa using k4⟩⟩ (Wk.weak (wkG [some 0,some 1,some 2,some 3,some 4] ⟨rfl,rfl,rfl,rfl,(by rw [hSBc];exact rfl),rfl,rfl,trivial⟩ ⟨⟨_,_,rfl,rfl,rfl,rfl,.inr ⟨zr7,trivial⟩⟩,⟨_,_,rfl,rfl,rfl,rfl,.inl ⟨rfl,sR.symm▸aI _ _⟩⟩,⟨_,_,rfl,rfl,rfl,rfl,.inl ⟨rfl,(sZ _).symm▸aI _ _⟩⟩,wqE rfl pO,wqE rfl hN,trivial⟩))
  ·rw [if_neg (by rw [hSBc];simp)]at hE
   cbv
   refine goY hg z0 hS fun j3 xr xu=> ?_
   cbv
   refine⟨_,by rw [xr];exact hH,?_⟩
   cbv
   have tg:g .q .gtr o 0=decide (0<o):=by rw [cj hg]
   have tl:g .q .lss o 0=decide (o<0):=bg hg _ _
   have tm:g .q .geq SM 0=decide (0<=SM):=by rw [iO hg]
   have tn:g .q .leq SM 0=decide (SM<=0):=iR hg _ _
   by_cases c1:0<o
   ·rw [tg,zqu c1]
    cbv
    by_cases c2:0<=SM
    ·rw [tm,zqu c2]
     cbv
     refine goX hg _ hr h5 rfl ?_
     cbv
     refine goY hg hr xo fun j2 hh hk=> ?_
     cbv
     refine goN hg ⟨_,by rw [hh,k1];exact ba (zqc xp),rfl⟩ ?_
     cbv
     refine goY hg hr h9 fun j hj xa=> ?_
     cbv
     refine goN hg ⟨_,by rw [hj,k2];exact ba (zqc xq),rfl⟩ ?_
     cbv
     rw [e1]
     simp only [jr hg]
     subst hj hh
     exact hB ((⟨q.set x.toNat (y1),u.set x.toNat true⟩,_,_)) _ _ ⟨(by rw [List.filterMap_cons_some (b:=(x,y1)) (by rw [hE,if_pos ⟨c1,c2⟩])]at h0;exact h0),⟨sZ _,sR,by simpa using k3,by simpa using k4⟩⟩ (Wk.weak (wkG [some 0,some 1,some 2,some 3,some 4] ⟨rfl,rfl,rfl,rfl,(by rw [hSBc];exact rfl),rfl,rfl,trivial⟩ ⟨⟨_,_,rfl,rfl,rfl,rfl,.inr ⟨zr7,trivial⟩⟩,⟨_,_,rfl,rfl,rfl,rfl,.inl ⟨rfl,sR.symm▸aI _ _⟩⟩,⟨_,_,rfl,rfl,rfl,rfl,.inl ⟨rfl,(sZ _).symm▸aI _ _⟩⟩,wqE rfl pO,wqE rfl hN,trivial⟩))
    ·rw [tm,zqt c2]
     cbv
     refine goY hg z0 hS fun j4 xt xv=> ?_
     cbv
     refine⟨_,by rw [xt];exact hH,?_⟩
     cbv
     rw [tl,zqt (by omega)]
     cbv
     rw [e1]
     exact hB ((⟨q,u⟩,eZ,eR)) _ _ ⟨(by rw [List.filterMap_cons_none (by rw [hE,if_neg (fun h=>c2 h.2),if_neg (by omega)])]at h0;exact h0),⟨k1,k2,k3,k4⟩⟩ (Wk.weak (wkG [some 0,some 1,some 2,some 3,some 4] ⟨rfl,rfl,rfl,rfl,(by rw [hSBc];exact rfl),rfl,rfl,trivial⟩ ⟨⟨_,_,rfl,rfl,rfl,rfl,.inr ⟨zr7,trivial⟩⟩,wqE rfl pu,wqE rfl pq,wqE rfl pO,wqE rfl hN,trivial⟩))
   ·rw [tg,zqt c1]
    cbv
    refine goY hg z0 hS fun j4 xt xv=> ?_
    cbv
    refine⟨_,by rw [xt];exact hH,?_⟩
    cbv
    by_cases c3:o<0
    ·rw [tl,zqu c3]
     cbv
     by_cases c4:SM<=0
     ·rw [tn,zqu c4]
      cbv
      refine goX hg _ hr h5 rfl ?_
      cbv
      (first|refine bm hg (er ⟨y0,y1,y2,y3,y4,y5,y6,y7,y8⟩) rfl (fun Q0 hP=> ?_)|refine aX hg (er ⟨y0,y1,y2,y3,y4,y5,y6,y7,y8⟩) rfl (fun Q0 hP=> ?_));cbv
      refine goY hg hr xo fun j2 hh hk=> ?_
      cbv
      refine goN hg ⟨_,by rw [hh,k1];exact ba (zqc xp),rfl⟩ ?_
      cbv
      refine goY hg hr h9 fun j hj xa=> ?_
      cbv
      refine goN hg ⟨_,by rw [hj,k2];exact ba (zqc xq),rfl⟩ ?_
      cbv
      rw [e1]
      simp only [jr hg]
      subst hj hh
      exact hB ((⟨q.set x.toNat (Q0),u.set x.toNat true⟩,_,_)) _ _ ⟨(by rw [List.filterMap_cons_some (b:=(x,Q0)) (by rw [hE,if_neg (fun h=>c1 h.1),if_pos ⟨c3,c4⟩,hP])]at h0;exact h0),⟨sZ _,sR,by simpa using k3,by simpa using k4⟩⟩ (Wk.weak (wkG [some 0,some 1,some 2,some 3,some 4] ⟨rfl,rfl,rfl,rfl,(by rw [hSBc];exact rfl),rfl,rfl,trivial⟩ ⟨⟨_,_,rfl,rfl,rfl,rfl,.inr ⟨zr7,trivial⟩⟩,⟨_,_,rfl,rfl,rfl,rfl,.inl ⟨rfl,sR.symm▸aI _ _⟩⟩,⟨_,_,rfl,rfl,rfl,rfl,.inl ⟨rfl,(sZ _).symm▸aI _ _⟩⟩,wqE rfl pO,wqE rfl hN,trivial⟩))
     ·rw [tn,zqt c4]
      cbv
      rw [e1]
      exact hB ((⟨q,u⟩,eZ,eR)) _ _ ⟨(by rw [List.filterMap_cons_none (by rw [hE,if_neg (fun h=>c1 h.1),if_neg (fun h=>c4 h.2)])]at h0;exact h0),⟨k1,k2,k3,k4⟩⟩ (Wk.weak (wkG [some 0,some 1,some 2,some 3,some 4] ⟨rfl,rfl,rfl,rfl,(by rw [hSBc];exact rfl),rfl,rfl,trivial⟩ ⟨⟨_,_,rfl,rfl,rfl,rfl,.inr ⟨zr7,trivial⟩⟩,wqE rfl pu,wqE rfl pq,wqE rfl pO,wqE rfl hN,trivial⟩))
    ·rw [tl,zqt c3]
     cbv
     rw [e1]
     exact hB ((⟨q,u⟩,eZ,eR)) _ _ ⟨(by rw [List.filterMap_cons_none (by rw [hE,if_neg (fun h=>c1 h.1),if_neg (fun h=>c3 h.1)])]at h0;exact h0),⟨k1,k2,k3,k4⟩⟩ (Wk.weak (wkG [some 0,some 1,some 2,some 3,some 4] ⟨rfl,rfl,rfl,rfl,(by rw [hSBc];exact rfl),rfl,rfl,trivial⟩ ⟨⟨_,_,rfl,rfl,rfl,rfl,.inr ⟨zr7,trivial⟩⟩,wqE rfl pu,wqE rfl pq,wqE rfl pO,wqE rfl hN,trivial⟩))
 obtain⟨⟨q,u⟩,eZ,eR⟩:=s
 obtain⟨k1,k2,k3,k4⟩:=hi
 dsimp only at k1 k2 k3 k4 h0
 cbv;rw [he];cbv
 have hq:S3.mk q u=R3:=h0
 rw [xH]at hq
 simp only [S3.mk.injEq]at hq
 exact yt hF rfl rfl rfl zr7 (by rw [k2];exact aI _ _) (by rw [k1];exact aI _ _) rfl ⟨_,rfl,p1,q,u,by simp [hn],by rw [k1,k2],by rw [if_neg hn];exact hq.1,by rw [if_neg hn];exact hq.2⟩
end Go.Proofs.YtkicjdeddpihaaaGreat
