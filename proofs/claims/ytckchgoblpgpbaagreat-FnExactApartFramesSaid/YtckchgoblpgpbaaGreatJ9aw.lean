/- A box's copy; what is kept of a node, sought in turn. -/
import Derived.Test.YtckchgoblpgpbaaGreatJ9av
set_option linter.unusedVariables false
set_option linter.unusedSimpArgs false
set_option maxHeartbeats 3200000
namespace Go.Proofs.YtckchgoblpgpbaaGreat
open Go.ChangeShapes Go.WideShapes Go.ChangeAt Go.RowKit Am Go.Proofs.Tryz
set_option maxRecDepth 100000
abbrev mD:Bool->Array Value:=fun b=> #[.bool b]
def Fx.bx(X:Fx)(p:Int):List AC:=[.view (vw af.c X.xs),.J X.gap,.J X.inner,.B X.gr,.own 1,.own 2,.J p]
structure S1 where
 i:Int
 f:List Int
 m:List Int
 a:Int
def S1.go(gr:Bool):S1->List (af×Bool×Int)->S1
 |s,[]=>s
 |s,(x,f,_)::r=>S1.go gr (if f then⟨s.i+1,s.f,s.m,s.a⟩else⟨s.i+1,s.f++[s.i],s.m.set s.i.toNat x.base,wrap64 (s.a+wgt gr x)⟩) r
def BT(xs:List af)(fr:List Bool)(sz:List Int):List (af×Bool×Int):=xs.zip (fr.zip sz)
theorem iW{α:Type}(c:α->Array Value)(xs:List α)(j:Nat)(x:α):vw c (xs.set j x)=(vw c xs).set j (lc (c x)):=by simp [vw]
theorem S1.go_eq(X:Fx):∀(xs:List af)(fr:List Bool)(sz:List Int)(dn:List Int)(f:List Int)(a:Int),fr.length=xs.length->sz.length=xs.length->(∀j:Nat,j<xs.length->itA X.xs ((dn.length:Int)+(j:Int))=xs[j]?.getD ⟨0,0,0,0,0,0,0,false,false⟩)->
  S1.go X.gr ⟨dn.length,f,dn++sz,a⟩ (BT xs fr sz)=⟨(dn.length:Int)+xs.length,f++fre dn.length fr,dn++mix xs fr sz,pn a ((fre dn.length fr).map fun i=>wgt X.gr (itA X.xs i))⟩
 | [],[],[],dn,f,a,_,_,_=>by simp [BT,S1.go,fre,mix,pn]
 | [],_::_,_,_,_,_,h,_,_=>by simp at h
 | [],[],_::_,_,_,_,_,h,_=>by simp at h
 |_::_,[],_,_,_,_,h,_,_=>by simp at h
 |_::_,_::_,[],_,_,_,_,h,_=>by simp at h
 |x::xs,b::fr,s::sz,dn,f,a,h1,h2,h3=>by
  have hx:itA X.xs (dn.length:Int)=x:=by have:=h3 0 (by simp);simpa using this
  have h4:∀v:Int,∀j:Nat,j<xs.length->itA X.xs (((dn++[v]).length:Int)+(j:Int))=xs[j]?.getD ⟨0,0,0,0,0,0,0,false,false⟩:=fun v j hj=>by
   have:=h3 (j+1) (by simp;omega)
   simp only [List.getElem?_cons_succ]at this
   rw [<-this]
   congr 1
   simp only [zqe,zqm]
   omega
  have ih:=fun v f a=>S1.go_eq X xs fr sz (dn++[v]) f a (by simpa using h1) (by simpa using h2) (h4 v)
  have el:∀v:Int,((dn++[v]).length:Int)=dn.length+1:=fun v=>by simp
  have ed:∀(v:Int)(l:List Int),(dn++[v])++l=dn++v::l:=fun v l=>by simp
  have hz:BT (x::xs) (b::fr) (s::sz)=(x,b,s)::BT xs fr sz:=rfl
  rw [hz]
  cases b with
  |true=>
   simp only [S1.go,if_true,fre,mix]
   have:=ih s f a
   rw [el,ed,ed]at this
   rw [this,zqx]
   congr 1
   omega
  |false=>
   simp only [S1.go,Bool.false_eq_true,if_false,fre,mix]
   have:=ih x.base (f++[(dn.length:Int)]) (wrap64 (a+wgt X.gr x))
   rw [el,ed,ed]at this
   have e1:(dn++s::sz).set ((dn.length:Int)).toNat x.base=dn++x.base::sz:=by simp
   rw [e1,this,zqx,zqA,pn,hx,zqC]
   congr 1
   omega
variable {fr:List Bool}
theorem S1.all_(X:Fx){sz:List Int}(hf:fr.length=X.xs.length)(hs:sz.length=X.xs.length):S1.go X.gr ⟨0,[],sz,0⟩ (BT X.xs fr sz)=⟨X.xs.length,fre 0 fr,mix X.xs fr sz,X.all fr⟩:=by
 have:=S1.go_eq X X.xs fr sz [] [] 0 hf hs (fun j hj=>by simp [itA])
 simpa [Fx.all,Fx.ws]using this
structure S2 where
 l:List Int
 h:List Int
 v:Int
 w:List Int
def S2.go(X:Fx)(A r:Int):S2->List Int->S2
 |s,[]=>s
 |s,i::is=>S2.go X A r ⟨if qL X.gr A r (itA X.xs i)then s.l++[i]else s.l,if !qL X.gr A r (itA X.xs i)&&wn X.gr A r (itA X.xs i)then s.h++[i]else s.h,wL X.gr A r s.v (itA X.xs i),s.w++[wgt X.gr (itA X.xs i)]⟩ is
theorem S2.go_eq(X:Fx)(A r:Int):∀(is:List Int)(s:S2),S2.go X A r s is=⟨s.l++is.filter fun i=>qL X.gr A r (itA X.xs i),s.h++is.filter fun i=> !qL X.gr A r (itA X.xs i)&&wn X.gr A r (itA X.xs i),is.foldl (fun v i=>wL X.gr A r v (itA X.xs i)) s.v,s.w++is.map fun i=>wgt X.gr (itA X.xs i)⟩
 | [],s=>by simp [S2.go]
 |i::is,s=>by
  rw [S2.go,S2.go_eq X A r is]
  simp only [List.filter_cons,zqA,List.foldl_cons]
  congr 1
  ·split<;>simp_all
  ·split<;>simp_all
  ·simp
structure S3 where
 s:List Int
 f:List Bool
def S3.go(s:S3)(ps:List (Int×Int)):S3:=⟨qj ps s.s,px (ps.map (·.1)) s.f⟩
theorem S3.go_cons(s:S3)(p:Int×Int)(ps:List (Int×Int)):S3.go s (p::ps)=S3.go ⟨s.s.set p.1.toNat p.2,s.f.set p.1.toNat true⟩ ps:=rfl
theorem uS:∀(xs:List af)(fr:List Bool)(sz:List Int),fr.length=xs.length->sz.length=xs.length->(BT xs fr sz).map (·.1)=xs
 | [],_,_,_,_=>rfl
 |x::xs,b::fr,s::sz,h1,h2=>by
  show x::(BT xs fr sz).map (·.1)=_
  rw [uS xs fr sz (by simpa using h1) (by simpa using h2)]
 |_::_,[],_,h,_=>by simp at h
 |_::_,_::_,[],_,h=>by simp at h
theorem Gq(xs:List af)(fr:List Bool)(sz:List Int)(n:Nat)(x:af)(b:Bool)(s:Int)(h:(BT xs fr sz)[n]? =some (x,b,s)):xs[n]? =some x/\fr[n]? =some b/\sz[n]? =some s:=by
 unfold BT at h
 rw [List.getElem?_zip_eq_some,List.getElem?_zip_eq_some]at h
 exact h
variable {xs:List af}
theorem pJ{i:Int}(h0:0<=i)(h1:i<xs.length):xs[i.toNat]? =some (itA xs i):=by
 unfold itA
 rw [zqc (by omega)]
 rfl
theorem DZ(a b:List (Int×Int))(l:List Int):qj (a++b) l=qj b (qj a l):=List.foldl_append ..
theorem D0(a b:List Int)(l:List Bool):px (a++b) l=px b (px a l):=List.foldl_append ..
theorem Fx.setI_two(X:Fx)(fr:List Bool)(rt:Int)(sz:List Int)(h:¬(X.low fr rt=[]/\X.hig fr rt=[]))(A B:List (Int×Int))(hA:A=if 0<=X.vio fr rt then(X.low fr rt).map fun i=>(i,(itA X.xs i).least)else [])(hB:B=if X.vio fr rt<=0 then(X.hig fr rt).map fun i=>(i,qW (itA X.xs i))else []):
  S3.go (S3.go ⟨sz,fr⟩ A) B=⟨qj (X.setI fr rt) sz,px ((X.setI fr rt).map (·.1)) fr⟩:=by
 unfold Fx.setI
 rw [if_neg h,<-hA,<-hB,List.map_append,DZ,D0]
 rfl
theorem DU{a b:List Int}(ha:a.length<=1048576)(hb:b.length<=1048576):(wrap64 ((a.length:Int)+(b.length:Int))==0)=decide (a=[]/\b=[]):=by
 have e:wrap64 ((a.length:Int)+(b.length:Int))=(a.length:Int)+(b.length:Int):=by unfold wrap64;omega
 rw [e]
 by_cases hc:a=[]/\b=[]
 ·rw [hc.1,hc.2];rfl
 ·rw [zqt hc,zqr]
  intro hz
  exact hc ⟨zqv (by omega),zqv (by omega)⟩
theorem iO(ws:List Int)(hl:ws.length<=1048576):bX prog 287 [.c (.view (vw aj ws))] fun res ha=>res= .o 0/\ha=[⟨3,1,vw aj ws⟩]:=by
 obtain⟨V,hV⟩:=nmE (vw aj ws)
 have hb:=lmV hV
 have kV:=kmV (k:=1) hV fun _=>rfl
 have pV:=pmV hV
 rw [<-hV]
 refine aU func287 fun g F hg hF=> ?_
 cbv
 refine goN hg ⟨kV,by omega,by omega⟩ ?_
 cbv
 rw [gd hg]
 exact bH hF rfl pV
theorem mJ(X:Fx)(hX:eo X.xs=true)(sz:List Int)(fr:List Bool)(hs:sz.length=X.xs.length)(hf:fr.length=X.xs.length)(p:Int):
  Con prog 330 (toH [.bx 289 7 (X.bx p),.rw ⟨3,1,vw aj sz⟩,.rw ⟨4,1,vw mD fr⟩]) [.c (.ptr 0 0 0)] fun res h'=>∃eh,toH eh=h'/\∃p' sz' fr',
   res= .t (abl (decide (fre 0 fr≠[])))/\eh=[.bx 289 7 (X.bx p'),.rw ⟨3,1,vw aj sz'⟩,.rw ⟨4,1,vw mD fr'⟩]/\
   sz'=(if fre 0 fr=[]then sz else qj (X.setI fr (X.rI fr sz)) sz)/\fr'=(if fre 0 fr=[]then fr else px ((X.setI fr (X.rI fr sz)).map (·.1)) fr):=by
 have hw:=S1.all_ X hf hs
 obtain⟨x2,x1⟩:=fg hX
 obtain⟨zs,hY⟩:=nmE (BT X.xs fr sz)
 have hV:vw af.c X.xs=zs.map fun t=>lc (af.c t.1):=by
  rw [hY,vw,<-uS X.xs fr sz hf hs,List.map_map];simp [uS X.xs fr sz hf hs]
 have xT:zs.length<=1048576:=by rw [hY,BT];simp [hs,hf];omega
 rw [<-hY]at hw
 obtain⟨V,hD⟩:=nmE (vw af.c X.xs)
 obtain⟨Z,hZ⟩:=nmE (vw aj sz)
 have xZ:=lmV hZ
 have iZ:=imV hZ
 have kZ:=kmV (k:=1) hZ fun _=>rfl
 have dZ:=dmV hZ
 obtain⟨R,hR⟩:=nmE (vw mD fr)
 obtain⟨FR,hd⟩:=nmE (fre 0 fr)
 obtain⟨MX,h8⟩:=nmE (mix X.xs fr sz)
 obtain⟨AL,xe⟩:=nmE (X.all fr)
 obtain⟨rt,xo⟩:=nmE (X.rI fr sz)
 obtain⟨GR,hT⟩:=nmE X.gr
 have xY:MX.length=X.xs.length:=by rw [h8];exact CK _ _ _ hf hs
 have pZ:=pmV hZ
 have pR:=pmV hR
 have xG:aJ R=(X.xs.length:Int):=by rw [hR,aR,hf]
 have cc:=iO sz (by omega)
 have co:=fE X.xs MX X.gap (by omega) (by omega)
 obtain⟨OV,xg⟩:=nmE (wrap64 (iv X.xs MX X.gap))
 simp only [Fx.bx,<-hD,<-hZ,<-hR,<-xg,<-hT]at cc co⊢
 rw [<-hD]at hV
 rw [<-hd,<-h8,<-xe]at hw
 rw [<-hd,<-xo]
 have xj:aJ V=(X.xs.length:Int):=by rw [hD,aR]
 obtain⟨R1,xh⟩:=nmE (S1.mk (X.xs.length:Int) FR MX AL)
 rw [<-xh]at hw
 refine pe (c:=jx f330) bn func330 (by kernel_rfl) (by kernel_rfl) (bl (by rfl)) (by kernel_rfl) fun g F hg hF=> ?_
 replace hg:g=G0 prog 3 f330.ntmps:=hg
 replace hF:F=li 3 _:=hF
 cbv
 first|(refine bI hg cc (ah (aX (ab:=⟨_,_,Z⟩) rfl kZ dZ) (ay)) iZ ?_;cbv)|(refine bS hg cc (ah (aX (ab:=⟨_,_,Z⟩) rfl kZ dZ) (ay)) iZ ?_;cbv)
 refine aV hg bn (by kernel_rfl) V (fun t=>lc (af.c t.1)) zs hV xT (fun z(s:S1×LLA×LLA)=>[(0,.p 0),(3,.o 3),(4,.o 4),(5,.i (s.1.a)),(33,.v V),(34,.i (g .ln V)),(35,.i (z))]) (fun z(s:S1×LLA×LLA)=>[.bx 289 7 [.view V,.J X.gap,.J X.inner,.B GR,.own 1,.own 2,.J p],.rw ⟨3,1,Z⟩,.rw ⟨4,1,R⟩,.rw ⟨3,1,s.2.1⟩,.rw ⟨3,1,s.2.2⟩]) (fun z(s:S1×LLA×LLA)=>s.2.1=vw aj s.1.f/\s.2.2=vw aj s.1.m/\s.1.i=z/\s.1.m.length=X.xs.length/\(s.1.f.length:Int)<=z) (fun(s:S1×LLA×LLA) rest=>S1.go X.gr s.1 rest) (R1) (⟨0,[],sz,0⟩,[],Z) hw ⟨rfl,hZ,rfl,hs,by simp⟩ (Wk.weak (wkG [some 0,some 1,some 2,none,some 3] zr7 ⟨wqB rfl ⟨zr7,zpt⟩,wqE rfl pZ,wqE rfl pR,⟨_,rfl,rfl⟩,wqE rfl pZ,zpt⟩)) (fun z s B hz h0 hi he=> ?_) (fun z s x rest B z0 z1 z2 hx hy h0 hi hc e1 hB=> ?_)
 rotate_left
 ·obtain⟨⟨i,f,m,a⟩,eF,eM⟩:=s
  obtain⟨b1,b2,b3,b4,b5⟩:=hi
  dsimp only at b1 b2 b3 b4 b5 h0
  subst b3
  obtain⟨x,b,s⟩:=x
  obtain⟨q1,q2,q3⟩:=Gq X.xs fr sz i.toNat x b s (by rw [<-hY];exact hx)
  have pF:=pmV b1
  have pM:=pmV b2
  have xJ:aJ V=(X.xs.length:Int):=xj
  have xM:eF.length<=1048576:=by
   rw [b1,ar]
   omega
  have xN:i<aJ eM:=by rw [b2,aR,b4,<-xJ];exact z1
  have xO:i.toNat<m.length:=by rw [b4];omega
  cbv;rw [hc];cbv;refine goX hg _ z0 hy rfl ?_;cbv
  refine goY hg z0 (by rw [xG,<-xj];exact z1) fun j hj hQ=> ?_
  cbv
  refine⟨_,by rw [hj,hR];exact aY q2,?_⟩
  cases b<;>cbv
  ·refine dh hg rfl (by decide) xM ?_
   cbv
   refine goY hg z0 xN fun j hj hQ=> ?_
   cbv
   refine goN hg ⟨_,by rw [hj,b2];exact aY (zqc xO),rfl⟩ ?_
   cbv
   (refine aK hg (iK x GR) rfl (fun Q0 hk=> ?_));cbv
   rw [e1,gd hg,jv hg,aG hg]
   have xm:eM.set j [.J x.base]=vw aj (m.set i.toNat x.base):=by rw [iW,b2,hj];rfl
   have xl:eF++[[.J i]]=vw aj (f++[i]):=by rw [bi,b1];rfl
   exact hB ((⟨i+1,f++[i],m.set i.toNat x.base,wrap64 (a+Q0)⟩,_,_)) _ _ ⟨(by simpa [S1.go,hk,hT]using h0),⟨xl,xm,rfl,by simpa using b4,by simp;omega⟩⟩ (Wk.weak (wkG [some 0,some 1,some 2,some _,some _] zr7 ⟨wqB rfl ⟨zr7,zpt⟩,wqE rfl pZ,wqE rfl pR,wqE rfl (xl.symm▸aC _ _),wqE rfl (xm.symm▸aC _ _),zpt⟩))
  ·rw [e1]
   exact hB ((⟨i+1,f,m,a⟩,eF,eM)) _ _ ⟨(by simpa [S1.go]using h0),⟨b1,b2,rfl,b4,by dsimp only;omega⟩⟩ (Wk.weak (wkG [some 0,some 1,some 2,some 3,some 4] zr7 ⟨wqB rfl ⟨zr7,zpt⟩,wqE rfl pZ,wqE rfl pR,wqE rfl pF,wqE rfl pM,zpt⟩))
 obtain⟨⟨i,f,m,a⟩,eF,eM⟩:=s
 obtain⟨b1,b2,b3,b4,b5⟩:=hi
 dsimp only at b1 b2 h0
 rw [xh]at h0
 simp only [S1.go,S1.mk.injEq]at h0
 obtain⟨-,h2,h3,h4⟩:=h0
 obtain rfl:FR=f:=h2.symm
 obtain rfl:MX=m:=h3.symm
 obtain rfl:AL=a:=h4.symm
 have xV:=kmV (k:=1) b1 fun _=>rfl
 have xt:=kmV (k:=1) b2 fun _=>rfl
 have xw:=dmV b1
 have xc:=dmV b2
 rw [<-b2]at co
 cbv;rw [he];cbv
 by_cases hn:FR=[]
 ·have e:g .q .eql (g .ln eF) 0=true:=by rw [bg hg,bu hg,b1,hn];rfl
  rw [e]
  cbv
  exact yT hF rfl rfl rfl zr7 pZ pR rfl ⟨_,rfl,p,sz,fr,by simp [hn],by rw [hZ,hR],by simp [hn],by simp [hn]⟩
 have e:g .q .eql (g .ln eF) 0=false:=by
  rw [bg hg,bu hg,b1,aR]
  have:FR.length≠0:=fun h=>hn (zqv h)
  simp;omega
 rw [e]
 cbv
 first|(refine gz hg co (ah (aq rfl) (ah (aX (ab:=⟨_,_,eM⟩) rfl xt xc) (ah (aq rfl) (ay)))) rfl ?_;cbv)|(refine fj hg co (ah (aq rfl) (ah (aX (ab:=⟨_,_,eM⟩) rfl xt xc) (ah (aq rfl) (ay)))) rfl ?_;cbv)
 obtain⟨p1,xP⟩:∃p1,p1=g .w .add .i64 p 1:=⟨_,rfl⟩
 rw [<-xP]
 obtain⟨n,h9⟩:∃n,n=g .w .sub .i64 X.inner OV:=⟨_,rfl⟩
 rw [<-h9]
 rw [bZ hg]at h9
 have xn:rt=if(GR=true/\n<0)\/(GR=false/\0<n)then 0 else sg n:=by rw [hT,xo,Fx.rI,wM,h9,xg,h8]
 have t0:g .q .gtr n 0=decide (0<n):=by rw [di hg]
 have t1:g .q .lss n 0=decide (n<0):=ba hg _ _
 have s0:sg 0=0:=by decide
 have r0:∀q,g .q .gtr n 0=q->GR=false->rt=sg (if q then 0 else n):=fun q h1 h2=>by
  rw [t0]at h1
  rw [xn,h2]
  cases q
  ·have:=of_decide_eq_false h1
   rw [if_neg (by simp;omega)];rfl
  ·have:=of_decide_eq_true h1
   rw [if_pos (by simp;omega)];exact s0.symm
 have r1:∀q,g .q .lss n 0=q->GR=true->rt=sg (if q then 0 else n):=fun q h1 h2=>by
  rw [t1]at h1
  rw [xn,h2]
  cases q
  ·have:=of_decide_eq_false h1
   rw [if_neg (by simp;omega)];rfl
  ·have:=of_decide_eq_true h1
   rw [if_pos (by simp;omega)];exact s0.symm
 obtain⟨LO,hE⟩:=nmE (X.low fr rt)
 obtain⟨HI,hC⟩:=nmE (X.hig fr rt)
 obtain⟨VI,hH⟩:=nmE (X.vio fr rt)
 obtain⟨WS,hU⟩:=nmE (X.ws fr)
 obtain⟨R2,xi⟩:=nmE (S2.mk LO HI VI WS)
 have xz:S2.go X AL rt ⟨[],[],0,[]⟩ FR=R2:=by
  rw [S2.go_eq,xi,hE,hC,hH,hU,hd,xe]
  simp [Fx.low,Fx.hig,Fx.vio,Fx.ws]
 have xK:=b1
 have xX:FR.length<=12:=by have:=kr fr 0;rw [<-hd,hf]at this;omega
 have h6:FR.length<=1048576:=by omega
 cases hG:GR<;>cbv
 rotate_left
 cases hq:g .q .lss n 0
 rotate_left 2
 cases hq:g .q .gtr n 0
 all_goals
  cbv
  (refine aZ hg (cV _) rfl (fun R0 xF=> ?_));cbv
  obtain rfl:rt=R0:=by rw [xF];first|exact r0 _ hq hG|exact r1 _ hq hG
  refine aV hg bn (by kernel_rfl) eF (fun x=>lc (aj x)) FR xK h6 (fun z(s:S2×LLA×LLA×LLA)=>[(0,.p 0),(3,.v eF),(5,.i (AL)),(8,.i (rt)),(9,.o 3),(10,.o 4),(11,.i (s.1.v)),(12,.o 5),(112,.v eF),(113,.i (g .ln eF)),(114,.i (z))]) (fun z(s:S2×LLA×LLA×LLA)=>[.bx 289 7 [.view V,.J X.gap,.J X.inner,.B GR,.own 1,.own 2,.J p1],.rw ⟨3,1,Z⟩,.rw ⟨4,1,R⟩,.rw ⟨3,1,s.2.1⟩,.rw ⟨3,1,s.2.2.1⟩,.rw ⟨3,1,s.2.2.2⟩]) (fun z(s:S2×LLA×LLA×LLA)=>s.2.1=vw aj s.1.l/\s.2.2.1=vw aj s.1.h/\s.2.2.2=vw aj s.1.w/\(s.1.l.length:Int)<=z/\(s.1.h.length:Int)<=z/\(s.1.w.length:Int)<=z) (fun(s:S2×LLA×LLA×LLA) rest=>S2.go X AL rt s.1 rest) (R2) (⟨[],[],0,[]⟩,[],[],[]) xz ⟨rfl,rfl,rfl,by simp,by simp,by simp⟩ (bG (sl1 3 eF) (jE rfl xV xw) (Wk.weak (wkG [some 0,some 1,some 2,none,none,none] Gn ⟨wqB rfl ⟨⟨rfl,rfl,rfl,(by rw [hG];exact rfl),rfl,rfl,rfl,zpt⟩,zpt⟩,⟨_,_,rfl,rfl,rfl,rfl,.inl (bD pZ)⟩,⟨_,_,rfl,rfl,rfl,rfl,.inl (bD pR)⟩,⟨_,rfl,rfl⟩,⟨_,rfl,rfl⟩,⟨_,rfl,rfl⟩,zpt⟩))) (fun z s B hz h0 hi he=> ?_) (fun z s x rest B z0 z1 z2 hx hy h0 hi hc e1 hB=> ?_)
  rotate_left
  ·obtain⟨⟨lo,hA,v,ws⟩,eL,eH,eW⟩:=s
   obtain⟨c1,c2,c3,c4,c5,c6⟩:=hi
   dsimp only at c1 c2 c3 c4 c5 c6 h0
   have hb:x∈fre 0 fr:=hd▸zqd hx
   have ho:=ic fr 0 (zpc 0) x hb
   obtain⟨y,hp⟩:=nmE (itA X.xs x)
   have hu:V[x.toNat]? =some (lc (af.c y)):=by rw [hD,hp];exact aY (pJ ho.1 (by rw [<-hf];omega))
   have xS:=ho.1
   have lL:eL.length<=1048576:=by rw [c1,ar];omega
   have lH:eH.length<=1048576:=by rw [c2,ar];omega
   have lW:eW.length<=1048576:=by rw [c3,ar];omega
   obtain⟨y0,y1,y2,y3,y4,y5,y6,y7,y8⟩:=y
   have aL:eL++[[.J x]]=vw aj (lo++[x]):=by rw [bi,c1];rfl
   have aH:eH++[[.J x]]=vw aj (hA++[x]):=by rw [bi,c2];rfl
   have aW:eW++[[.J (wgt GR ⟨y0,y1,y2,y3,y4,y5,y6,y7,y8⟩)]]=vw aj (ws++[wgt GR ⟨y0,y1,y2,y3,y4,y5,y6,y7,y8⟩]):=by rw [bi,c3];rfl
   have pL:=pmV c1
   have pH:=pmV c2
   cbv;rw [hc];cbv;refine goX hg _ z0 hy rfl ?_;cbv
   refine goX hg _ xS hu rfl ?_
   cbv
   (refine aK hg (iK ⟨y0,y1,y2,y3,y4,y5,y6,y7,y8⟩ GR) rfl (fun Q0 hk=> ?_));cbv
   refine dh hg rfl (by decide) lW ?_
   cbv
   have xH:g .q .lss (g .w .add .i64 (g .w .mul .i64 y0 AL) (g .w .mul .i64 rt Q0)) (g .w .mul .i64 y1 AL)=qL GR AL rt ⟨y0,y1,y2,y3,y4,y5,y6,y7,y8⟩:=by simp only [ba hg,aG hg,gx hg,hk];rfl
   rw [xH]
   have hgo:S2.go X AL rt ⟨if qL GR AL rt ⟨y0,y1,y2,y3,y4,y5,y6,y7,y8⟩then lo++[x]else lo,if !qL GR AL rt ⟨y0,y1,y2,y3,y4,y5,y6,y7,y8⟩&&wn GR AL rt ⟨y0,y1,y2,y3,y4,y5,y6,y7,y8⟩then hA++[x]else hA,wL GR AL rt v ⟨y0,y1,y2,y3,y4,y5,y6,y7,y8⟩,ws++[wgt GR ⟨y0,y1,y2,y3,y4,y5,y6,y7,y8⟩]⟩ rest=R2:=by rw [hp,hT];exact h0
   cases hl:qL GR AL rt ⟨y0,y1,y2,y3,y4,y5,y6,y7,y8⟩
   ·cbv
    cases h2:g .q .geq y2 0
    ·have hh:wn GR AL rt ⟨y0,y1,y2,y3,y4,y5,y6,y7,y8⟩=false:=by
      rw [iP hg]at h2
      have:=of_decide_eq_false h2
      simp [wn];omega
     have hv:wL GR AL rt v ⟨y0,y1,y2,y3,y4,y5,y6,y7,y8⟩=v:=by unfold wL;rw [hl,hh];rfl
     rw [hl,hh,hv]at hgo
     cbv
     rw [e1,gd hg,hk,aW]
     exact hB ((⟨lo,hA,v,ws++[wgt GR ⟨y0,y1,y2,y3,y4,y5,y6,y7,y8⟩]⟩,eL,eH,_)) _ _ ⟨hgo,⟨c1,c2,rfl,by dsimp only;omega,by dsimp only;omega,by simp;omega⟩⟩ (Wk.weak (wkG [some 0,some 1,some 2,some 3,some 4,some _] Gn ⟨wqB rfl ⟨zr7,zpt⟩,wqE rfl pZ,wqE rfl pR,wqE rfl pL,wqE rfl pH,wqE rfl (aC _ _),zpt⟩))
    ·cbv
     (refine aZ hg (i9 ⟨y0,y1,y2,y3,y4,y5,y6,y7,y8⟩) rfl (fun Q1 xD=> ?_));cbv
     have xy:(decide (0<=y2))=true:=by rw [iP hg]at h2;exact h2
     have xI:g .q .gtr (g .w .add .i64 (g .w .mul .i64 y0 AL) (g .w .mul .i64 rt Q0)) (g .w .mul .i64 Q1 AL)=wn GR AL rt ⟨y0,y1,y2,y3,y4,y5,y6,y7,y8⟩:=by simp only [di hg,aG hg,gx hg,hk,xD];unfold wn;rw [show(decide (0<=af.most ⟨y0,y1,y2,y3,y4,y5,y6,y7,y8⟩))=true from xy,Bool.true_and];rfl
     rw [xI]
     cases hh:wn GR AL rt ⟨y0,y1,y2,y3,y4,y5,y6,y7,y8⟩
     ·have hv:wL GR AL rt v ⟨y0,y1,y2,y3,y4,y5,y6,y7,y8⟩=v:=by unfold wL;rw [hl,hh];rfl
      rw [hl,hh,hv]at hgo
      cbv
      rw [e1,gd hg,hk,aW]
      exact hB ((⟨lo,hA,v,ws++[wgt GR ⟨y0,y1,y2,y3,y4,y5,y6,y7,y8⟩]⟩,eL,eH,_)) _ _ ⟨hgo,⟨c1,c2,rfl,by dsimp only;omega,by dsimp only;omega,by simp;omega⟩⟩ (Wk.weak (wkG [some 0,some 1,some 2,some 3,some 4,some _] Gn ⟨wqB rfl ⟨zr7,zpt⟩,wqE rfl pZ,wqE rfl pR,wqE rfl pL,wqE rfl pH,wqE rfl (aC _ _),zpt⟩))
     ·cbv
      refine dh hg rfl (by decide) lH ?_
      cbv
      (refine aZ hg (i9 ⟨y0,y1,y2,y3,y4,y5,y6,y7,y8⟩) rfl (fun Q2 xE=> ?_));cbv
      have hv:g .w .sub .i64 v (g .w .sub .i64 (g .w .add .i64 (g .w .mul .i64 y0 AL) (g .w .mul .i64 rt Q0)) (g .w .mul .i64 Q2 AL))=wL GR AL rt v ⟨y0,y1,y2,y3,y4,y5,y6,y7,y8⟩:=by unfold wL;rw [hl,hh];simp only [bZ hg,aG hg,gx hg,hk,xE];rfl
      rw [hl,hh]at hgo
      rw [e1,hv]
      simp only [gd hg,hk,aW,aH]
      exact hB ((⟨lo,hA++[x],wL GR AL rt v ⟨y0,y1,y2,y3,y4,y5,y6,y7,y8⟩,ws++[wgt GR ⟨y0,y1,y2,y3,y4,y5,y6,y7,y8⟩]⟩,eL,_,_)) _ _ ⟨hgo,⟨c1,rfl,rfl,by dsimp only;omega,by simp;omega,by simp;omega⟩⟩ (Wk.weak (wkG [some 0,some 1,some 2,some 3,some _,some _] Gn ⟨wqB rfl ⟨zr7,zpt⟩,wqE rfl pZ,wqE rfl pR,wqE rfl pL,wqE rfl (aC _ _),wqE rfl (aC _ _),zpt⟩))
   ·cbv
    refine dh hg rfl (by decide) lL ?_
    cbv
    have hv:g .w .add .i64 v (g .w .sub .i64 (g .w .mul .i64 y1 AL) (g .w .add .i64 (g .w .mul .i64 y0 AL) (g .w .mul .i64 rt Q0)))=wL GR AL rt v ⟨y0,y1,y2,y3,y4,y5,y6,y7,y8⟩:=by unfold wL;rw [hl];simp only [bZ hg,aG hg,gx hg,hk];rfl
    rw [hl]at hgo
    rw [e1,hv]
    simp only [gd hg,hk,aW,aL]
    exact hB ((⟨lo++[x],hA,wL GR AL rt v ⟨y0,y1,y2,y3,y4,y5,y6,y7,y8⟩,ws++[wgt GR ⟨y0,y1,y2,y3,y4,y5,y6,y7,y8⟩]⟩,_,eH,_)) _ _ ⟨hgo,⟨rfl,c2,rfl,by simp;omega,by dsimp only;omega,by simp;omega⟩⟩ (Wk.weak (wkG [some 0,some 1,some 2,some _,some 4,some _] Gn ⟨wqB rfl ⟨zr7,zpt⟩,wqE rfl pZ,wqE rfl pR,wqE rfl (aC _ _),wqE rfl pH,wqE rfl (aC _ _),zpt⟩))
  ·obtain⟨⟨lo,hA,v,ws⟩,eL,eH,eW⟩:=s
   obtain⟨c1,c2,c3,-,-,-⟩:=hi
   dsimp only at c1 c2 c3 h0
   rw [xi]at h0
   simp only [S2.go,S2.mk.injEq]at h0
   obtain⟨g1,g2,g3,g4⟩:=h0
   obtain rfl:LO=lo:=g1.symm
   obtain rfl:HI=hA:=g2.symm
   obtain rfl:VI=v:=g3.symm
   obtain rfl:WS=ws:=g4.symm
   have xL:=c1
   have xk:=c2
   have pH:=pmV c2
   have xW:=kmV (k:=1) c1 fun _=>rfl
   have xr:=kmV (k:=1) c2 fun _=>rfl
   have xu:=kmV (k:=1) c3 fun _=>rfl
   have xx:=dmV c1
   have xb:=dmV c2
   have xd:=dmV c3
   have xf:LO.length<=1048576:=by have:=List.length_filter_le (fun i=>qL X.gr (X.all fr) rt (itA X.xs i)) FR;rw [hE,Fx.low,<-hd];omega
   have h7:HI.length<=1048576:=by have:=List.length_filter_le (fun i=> !qL X.gr (X.all fr) rt (itA X.xs i)&&wn X.gr (X.all fr) rt (itA X.xs i)) FR;rw [hC,Fx.hig,<-hd];omega
   have xR:g .q .eql (g .w .add .i64 (g .ln eL) (g .ln eH)) 0=decide (LO=[]/\HI=[]):=by
    rw [bg hg,aG hg,bu hg,bu hg,c1,c2,aR,aR]
    exact DU xf h7
   cbv;rw [he];cbv
   rw [xR]
   by_cases hlh:LO=[]/\HI=[]
   ·rw [zqu hlh]
    cbv
    have x0:(shr rt WS).length=FR.length:=by rw [hU,hd];exact X.shr_len hX hf rt
    have cs:=ot rt WS (by rw [hU,Fx.ws,zql,<-hd];omega)
    obtain⟨ES,hr⟩:=nmE (vw aj (shr rt WS))
    obtain⟨qs,hW⟩:=nmE (FR.zip (shr rt WS))
    have xB:ES=qs.map fun p=>lc (aj p.2):=by
     rw [hr,hW,vw]
     conv=>lhs;rw [<-List.map_snd_zip (l₁:=FR) (l₂:=shr rt WS) (by omega)]
     rw [List.map_map];rfl
    have xQ:qs.length<=1048576:=by rw [hW,zqB];omega
    have xq:=imV hr
    have xU:=kmV (k:=1) hr fun _=>rfl
    have xv:=dmV hr
    rw [<-c3,<-hr]at cs
    obtain⟨R3,hO⟩:=nmE (S3.go ⟨sz,fr⟩ (X.shs fr rt))
    have xA:S3.go ⟨sz,fr⟩ (qs.map fun p=>(p.1,cl (wrap64 ((itA X.xs p.1).base+p.2))))=R3:=by rw [hO,Fx.shs,hW,<-hd,<-hU]
    have xa:X.setI fr rt=X.shs fr rt:=by unfold Fx.setI;rw [<-hE,<-hC,if_pos hlh]
    first|(refine bI hg cs (ah (aq rfl) (ah (aX (ab:=⟨_,_,eW⟩) rfl xu xd) (ay))) xq ?_;cbv)|(refine bS hg cs (ah (aq rfl) (ah (aX (ab:=⟨_,_,eW⟩) rfl xu xd) (ay))) xq ?_;cbv)
    refine aV hg bn (by kernel_rfl) ES (fun p=>lc (aj p.2)) qs xB xQ (fun z(s:S3×LLA×LLA)=>[(0,.p 0),(3,.v eF),(195,.v ES),(196,.i (g .ln ES)),(197,.i (z))]) (fun z(s:S3×LLA×LLA)=>[.bx 289 7 [.view V,.J X.gap,.J X.inner,.B GR,.own 1,.own 2,.J p1],.rw ⟨3,1,s.2.1⟩,.rw ⟨4,1,s.2.2⟩]) (fun z(s:S3×LLA×LLA)=>s.2.1=vw aj s.1.s/\s.2.2=vw mD s.1.f/\s.1.s.length=X.xs.length/\s.1.f.length=X.xs.length) (fun(s:S3×LLA×LLA) rest=>S3.go s.1 (rest.map fun p=>(p.1,cl (wrap64 ((itA X.xs p.1).base+p.2))))) (R3) (⟨sz,fr⟩,Z,R) xA ⟨hZ,hR,hs,hf⟩ (bG (sl1 6 ES) (jE rfl xU xv) (Wk.weak (wkG [some 0,some 1,some 2] zr5 ⟨wqB rfl ⟨zr7,zpt⟩,⟨_,_,rfl,rfl,rfl,rfl,.inl (bD pZ)⟩,⟨_,_,rfl,rfl,rfl,rfl,.inl (bD pR)⟩,zpt⟩))) (fun z s B hz h0 hi he=> ?_) (fun z s x rest B z0 z1 z2 hx hy h0 hi hc e1 hB=> ?_)
    ·obtain⟨⟨q,w⟩,eZ,eR⟩:=s
     obtain⟨k1,k2,k3,k4⟩:=hi
     dsimp only at k1 k2 k3 k4 h0
     cbv;rw [he];cbv
     have ha:S3.mk q w=R3:=h0
     rw [hO]at ha
     simp only [S3.go,S3.mk.injEq,<-xa]at ha
     exact yT hF rfl rfl rfl zr7 (by rw [k1];exact aC _ _) (by rw [k2];exact aC _ _) rfl ⟨_,rfl,p1,q,w,by simp [hn],by rw [k1,k2],by rw [if_neg hn];exact ha.1.symm▸rfl,by rw [if_neg hn];exact ha.2.symm▸rfl⟩
    ·obtain⟨i,sh⟩:=x
     have xp:FR[z.toNat]? =some i:=by
      rw [hW,List.getElem?_zip_eq_some]at hx
      exact hx.1
     have hb:i∈fre 0 fr:=hd▸zqd xp
     have xC:eF[z.toNat]? =some (lc (aj i)):=by rw [b1];exact aY xp
     obtain⟨⟨q,w⟩,eZ,eR⟩:=s
     obtain⟨k1,k2,k3,k4⟩:=hi
     dsimp only at k1 k2 k3 k4 h0
     have ho:=ic fr 0 (zpc 0) i hb
     have hm:=ho.1
     obtain⟨y,hp⟩:=nmE (itA X.xs i)
     have hu:V[i.toNat]? =some (lc (af.c y)):=by rw [hD,hp];exact aY (pJ ho.1 (by rw [<-hf];omega))
     have hI:i<aJ eR:=by rw [k2,aR,k4,<-hf];omega
     have hJ:i<aJ eZ:=by rw [k1,aR,k3,<-hf];omega
     have hL:i.toNat<w.length:=by rw [k4,<-hf];omega
     have hK:i.toNat<q.length:=by rw [k3,<-hf];omega
     have sR:eR.set i.toNat [.B true]=vw mD (w.set i.toNat true):=by rw [iW,k2];rfl
     have sZ:∀u:Int,eZ.set i.toNat [.J u]=vw aj (q.set i.toNat u):=fun u=>by rw [iW,k1];rfl
     obtain⟨y0,y1,y2,y3,y4,y5,y6,y7,y8⟩:=y
     cbv;rw [hc];cbv;refine goX hg _ z0 hy rfl ?_;cbv
     refine goX hg _ z0 xC rfl ?_
     cbv
     refine goY hg hm hI fun j hj hQ=> ?_
     cbv
     refine goN hg ⟨_,by rw [hj,k2];exact aY (zqc hL),rfl⟩ ?_
     cbv
     refine goX hg _ hm hu rfl ?_
     cbv
     (refine aK hg (aN _) rfl (fun Q0 hk=> ?_));cbv
     refine goY hg hm hJ fun j2 ht hM=> ?_
     cbv
     refine goN hg ⟨_,by rw [ht,k1];exact aY (zqc hK),rfl⟩ ?_
     cbv
     rw [e1]
     simp only [jv hg]
     subst hj ht
     exact hB ((⟨q.set i.toNat Q0,w.set i.toNat true⟩,_,_)) _ _ ⟨(by rw [hk,aG hg];rw [<-h0,zqA,S3.go_cons,<-hp]),⟨sZ _,sR,by simpa using k3,by simpa using k4⟩⟩ (Wk.weak (wkG [some 0,some 1,some 2] zr5 ⟨wqB rfl ⟨zr7,zpt⟩,wqE rfl ((sZ _).symm▸aC _ _),wqE rfl (sR.symm▸aC _ _),zpt⟩))
   ·rw [zqt hlh]
    cbv
    have tv:g .q .geq VI 0=decide (0<=VI):=iP hg _ _
    have tw:g .q .leq VI 0=decide (VI<=0):=iU hg _ _
    have hN:¬(X.low fr rt=[]/\X.hig fr rt=[]):=by rw [<-hE,<-hC];exact hlh
    obtain⟨R4,hP⟩:=nmE (S3.mk (qj (X.setI fr rt) sz) (px ((X.setI fr rt).map (·.1)) fr))
    by_cases v0:0<=VI
    ·rw [tv,zqu v0]
     cbv
     obtain⟨R3,hO⟩:=nmE (S3.go ⟨sz,fr⟩ (LO.map fun i=>(i,(itA X.xs i).least)))
     refine aV hg bn (by kernel_rfl) eL (fun x=>lc (aj x)) LO xL xf (fun z(s:S3×LLA×LLA)=>[(0,.p 0),(10,.o 3),(11,.i (VI)),(232,.v eL),(233,.i (g .ln eL)),(234,.i (z))]) (fun z(s:S3×LLA×LLA)=>[.bx 289 7 [.view V,.J X.gap,.J X.inner,.B GR,.own 1,.own 2,.J p1],.rw ⟨3,1,s.2.1⟩,.rw ⟨4,1,s.2.2⟩,.rw ⟨3,1,eH⟩]) (fun z(s:S3×LLA×LLA)=>s.2.1=vw aj s.1.s/\s.2.2=vw mD s.1.f/\s.1.s.length=X.xs.length/\s.1.f.length=X.xs.length) (fun(s:S3×LLA×LLA) rest=>S3.go s.1 (rest.map fun i=>(i,(itA X.xs i).least))) (R3) (⟨sz,fr⟩,Z,R) hO.symm ⟨hZ,hR,hs,hf⟩ (bG (sl1 3 eL) (jE rfl xW xx) (Wk.weak (wkG [some 0,some 1,some 2,some 4] zr6 ⟨wqB rfl ⟨zr7,zpt⟩,⟨_,_,rfl,rfl,rfl,rfl,.inl (bD pZ)⟩,⟨_,_,rfl,rfl,rfl,rfl,.inl (bD pR)⟩,⟨_,_,rfl,rfl,rfl,rfl,.inl (bD pH)⟩,zpt⟩))) (fun z s B hz h0 hi he=> ?_) (fun z s x rest B z0 z1 z2 hx hy h0 hi hc e1 hB=> ?_)
     rotate_left
     ·have hb:x∈fre 0 fr:=by
       have:=zqd hx
       rw [hE,Fx.low,<-hd]at this
       exact hd▸(List.mem_filter.1 this).1
      obtain⟨⟨q,w⟩,eZ,eR⟩:=s
      obtain⟨k1,k2,k3,k4⟩:=hi
      dsimp only at k1 k2 k3 k4 h0
      have ho:=ic fr 0 (zpc 0) x hb
      have hm:=ho.1
      obtain⟨y,hp⟩:=nmE (itA X.xs x)
      have hu:V[x.toNat]? =some (lc (af.c y)):=by rw [hD,hp];exact aY (pJ ho.1 (by rw [<-hf];omega))
      have hI:x<aJ eR:=by rw [k2,aR,k4,<-hf];omega
      have hJ:x<aJ eZ:=by rw [k1,aR,k3,<-hf];omega
      have hL:x.toNat<w.length:=by rw [k4,<-hf];omega
      have hK:x.toNat<q.length:=by rw [k3,<-hf];omega
      have sR:eR.set x.toNat [.B true]=vw mD (w.set x.toNat true):=by rw [iW,k2];rfl
      have sZ:∀u:Int,eZ.set x.toNat [.J u]=vw aj (q.set x.toNat u):=fun u=>by rw [iW,k1];rfl
      obtain⟨y0,y1,y2,y3,y4,y5,y6,y7,y8⟩:=y
      cbv;rw [hc];cbv;refine goX hg _ z0 hy rfl ?_;cbv
      refine goY hg hm hI fun j hj hQ=> ?_
      cbv
      refine goN hg ⟨_,by rw [hj,k2];exact aY (zqc hL),rfl⟩ ?_
      cbv
      refine goX hg _ hm hu rfl ?_
      cbv
      refine goY hg hm hJ fun j2 ht hM=> ?_
      cbv
      refine goN hg ⟨_,by rw [ht,k1];exact aY (zqc hK),rfl⟩ ?_
      cbv
      rw [e1]
      simp only [jv hg]
      subst hj ht
      exact hB ((⟨q.set x.toNat y1,w.set x.toNat true⟩,_,_)) _ _ ⟨(by rw [show y1=(itA X.xs x).least by rw [<-hp]];exact h0),⟨sZ _,sR,by simpa using k3,by simpa using k4⟩⟩ (Wk.weak (wkG [some 0,some 1,some 2,some 3] zr6 ⟨wqB rfl ⟨zr7,zpt⟩,wqE rfl ((sZ _).symm▸aC _ _),wqE rfl (sR.symm▸aC _ _),wqE rfl pH,zpt⟩))
     ·obtain⟨⟨q,w⟩,eZ,eR⟩:=s
      obtain⟨k1,k2,k3,k4⟩:=hi
      dsimp only at k1 k2 k3 k4 h0
      have pq:=pmV k1
      have pw:=pmV k2
      have hS:S3.mk q w=R3:=h0
      cbv;rw [he];cbv
      by_cases v1:VI<=0
      ·rw [tw,zqu v1]
       cbv
       have h5:S3.go ⟨q,w⟩ (HI.map fun i=>(i,qW (itA X.xs i)))=R4:=by
        rw [hS,hO,hP]
        exact X.setI_two fr rt sz hN _ _ (by rw [<-hH,if_pos v0,hE]) (by rw [<-hH,if_pos v1,hC])
       refine aV hg bn (by kernel_rfl) eH (fun x=>lc (aj x)) HI xk h7 (fun z(s:S3×LLA×LLA)=>[(0,.p 0),(261,.v eH),(262,.i (g .ln eH)),(263,.i (z))]) (fun z(s:S3×LLA×LLA)=>[.bx 289 7 [.view V,.J X.gap,.J X.inner,.B GR,.own 1,.own 2,.J p1],.rw ⟨3,1,s.2.1⟩,.rw ⟨4,1,s.2.2⟩]) (fun z(s:S3×LLA×LLA)=>s.2.1=vw aj s.1.s/\s.2.2=vw mD s.1.f/\s.1.s.length=X.xs.length/\s.1.f.length=X.xs.length) (fun(s:S3×LLA×LLA) rest=>S3.go s.1 (rest.map fun i=>(i,qW (itA X.xs i)))) (R4) (⟨q,w⟩,eZ,eR) h5 ⟨k1,k2,k3,k4⟩ (bG (sl1 3 eH) (jE rfl xr xb) (Wk.weak (wkG [some 0,some 1,some 2] zr4 ⟨wqB rfl ⟨zr7,zpt⟩,⟨_,_,rfl,rfl,rfl,rfl,.inl (bD pq)⟩,⟨_,_,rfl,rfl,rfl,rfl,.inl (bD pw)⟩,zpt⟩))) (fun z s B hz h0 hi he=> ?_) (fun z s x rest B z0 z1 z2 hx hy h0 hi hc e1 hB=> ?_)
       rotate_left
       ·have hb:x∈fre 0 fr:=by
         have:=zqd hx
         rw [hC,Fx.hig,<-hd]at this
         exact hd▸(List.mem_filter.1 this).1
        obtain⟨⟨q,w⟩,eZ,eR⟩:=s
        obtain⟨k1,k2,k3,k4⟩:=hi
        dsimp only at k1 k2 k3 k4 h0
        have ho:=ic fr 0 (zpc 0) x hb
        have hm:=ho.1
        obtain⟨y,hp⟩:=nmE (itA X.xs x)
        have hu:V[x.toNat]? =some (lc (af.c y)):=by rw [hD,hp];exact aY (pJ ho.1 (by rw [<-hf];omega))
        have hI:x<aJ eR:=by rw [k2,aR,k4,<-hf];omega
        have hJ:x<aJ eZ:=by rw [k1,aR,k3,<-hf];omega
        have hL:x.toNat<w.length:=by rw [k4,<-hf];omega
        have hK:x.toNat<q.length:=by rw [k3,<-hf];omega
        have sR:eR.set x.toNat [.B true]=vw mD (w.set x.toNat true):=by rw [iW,k2];rfl
        have sZ:∀u:Int,eZ.set x.toNat [.J u]=vw aj (q.set x.toNat u):=fun u=>by rw [iW,k1];rfl
        obtain⟨y0,y1,y2,y3,y4,y5,y6,y7,y8⟩:=y
        cbv;rw [hc];cbv;refine goX hg _ z0 hy rfl ?_;cbv
        refine goY hg hm hI fun j hj hQ=> ?_
        cbv
        refine goN hg ⟨_,by rw [hj,k2];exact aY (zqc hL),rfl⟩ ?_
        cbv
        refine goX hg _ hm hu rfl ?_
        cbv
        (refine aK hg (i9 ⟨y0,y1,y2,y3,y4,y5,y6,y7,y8⟩) rfl (fun Q0 hk=> ?_));cbv
        refine goY hg hm hJ fun j2 ht hM=> ?_
        cbv
        refine goN hg ⟨_,by rw [ht,k1];exact aY (zqc hK),rfl⟩ ?_
        cbv
        rw [e1]
        simp only [jv hg]
        subst hj ht
        exact hB ((⟨q.set x.toNat Q0,w.set x.toNat true⟩,_,_)) _ _ ⟨(by rw [hk,hp];exact h0),⟨sZ _,sR,by simpa using k3,by simpa using k4⟩⟩ (Wk.weak (wkG [some 0,some 1,some 2] zr4 ⟨wqB rfl ⟨zr7,zpt⟩,wqE rfl ((sZ _).symm▸aC _ _),wqE rfl (sR.symm▸aC _ _),zpt⟩))
       ·obtain⟨⟨q,w⟩,eZ,eR⟩:=s
        obtain⟨k1,k2,k3,k4⟩:=hi
        dsimp only at k1 k2 k3 k4 h0
        cbv;rw [he];cbv
        have ha:S3.mk q w=R4:=h0
        rw [hP]at ha
        simp only [S3.mk.injEq]at ha
        exact yT hF rfl rfl rfl zr7 (by rw [k1];exact aC _ _) (by rw [k2];exact aC _ _) rfl ⟨_,rfl,p1,q,w,by simp [hn],by rw [k1,k2],by rw [if_neg hn];exact ha.1,by rw [if_neg hn];exact ha.2⟩
      ·rw [tw,zqt v1]
       cbv
       have ha:S3.mk q w=R4:=by
        rw [hS,hO,hP]
        exact X.setI_two fr rt sz hN _ [] (by rw [<-hH,if_pos v0,hE]) (by rw [<-hH,if_neg v1])
       rw [hP]at ha
       simp only [S3.mk.injEq]at ha
       exact yT hF rfl rfl rfl zr7 (by rw [k1];exact aC _ _) (by rw [k2];exact aC _ _) rfl ⟨_,rfl,p1,q,w,by simp [hn],by rw [k1,k2],by rw [if_neg hn];exact ha.1,by rw [if_neg hn];exact ha.2⟩
    ·rw [tv,zqt v0]
     cbv
     rw [tw,zqu (by omega)]
     cbv
     have h5:S3.go ⟨sz,fr⟩ (HI.map fun i=>(i,qW (itA X.xs i)))=R4:=by
      rw [hP]
      exact X.setI_two fr rt sz hN [] _ (by rw [<-hH,if_neg v0]) (by rw [<-hH,if_pos (by omega),hC])
     refine aV hg bn (by kernel_rfl) eH (fun x=>lc (aj x)) HI xk h7 (fun z(s:S3×LLA×LLA)=>[(0,.p 0),(261,.v eH),(262,.i (g .ln eH)),(263,.i (z))]) (fun z(s:S3×LLA×LLA)=>[.bx 289 7 [.view V,.J X.gap,.J X.inner,.B GR,.own 1,.own 2,.J p1],.rw ⟨3,1,s.2.1⟩,.rw ⟨4,1,s.2.2⟩]) (fun z(s:S3×LLA×LLA)=>s.2.1=vw aj s.1.s/\s.2.2=vw mD s.1.f/\s.1.s.length=X.xs.length/\s.1.f.length=X.xs.length) (fun(s:S3×LLA×LLA) rest=>S3.go s.1 (rest.map fun i=>(i,qW (itA X.xs i)))) (R4) (⟨sz,fr⟩,Z,R) h5 ⟨hZ,hR,hs,hf⟩ (bG (sl1 4 eH) (jE rfl xr xb) (Wk.weak (wkG [some 0,some 1,some 2] zr4 ⟨wqB rfl ⟨zr7,zpt⟩,⟨_,_,rfl,rfl,rfl,rfl,.inl (bD pZ)⟩,⟨_,_,rfl,rfl,rfl,rfl,.inl (bD pR)⟩,zpt⟩))) (fun z s B hz h0 hi he=> ?_) (fun z s x rest B z0 z1 z2 hx hy h0 hi hc e1 hB=> ?_)
     rotate_left
     ·have hb:x∈fre 0 fr:=by
       have:=zqd hx
       rw [hC,Fx.hig,<-hd]at this
       exact hd▸(List.mem_filter.1 this).1
      obtain⟨⟨q,w⟩,eZ,eR⟩:=s
      obtain⟨k1,k2,k3,k4⟩:=hi
      dsimp only at k1 k2 k3 k4 h0
      have ho:=ic fr 0 (zpc 0) x hb
      have hm:=ho.1
      obtain⟨y,hp⟩:=nmE (itA X.xs x)
      have hu:V[x.toNat]? =some (lc (af.c y)):=by rw [hD,hp];exact aY (pJ ho.1 (by rw [<-hf];omega))
      have hI:x<aJ eR:=by rw [k2,aR,k4,<-hf];omega
      have hJ:x<aJ eZ:=by rw [k1,aR,k3,<-hf];omega
      have hL:x.toNat<w.length:=by rw [k4,<-hf];omega
      have hK:x.toNat<q.length:=by rw [k3,<-hf];omega
      have sR:eR.set x.toNat [.B true]=vw mD (w.set x.toNat true):=by rw [iW,k2];rfl
      have sZ:∀u:Int,eZ.set x.toNat [.J u]=vw aj (q.set x.toNat u):=fun u=>by rw [iW,k1];rfl
      obtain⟨y0,y1,y2,y3,y4,y5,y6,y7,y8⟩:=y
      cbv;rw [hc];cbv;refine goX hg _ z0 hy rfl ?_;cbv
      refine goY hg hm hI fun j hj hQ=> ?_
      cbv
      refine goN hg ⟨_,by rw [hj,k2];exact aY (zqc hL),rfl⟩ ?_
      cbv
      refine goX hg _ hm hu rfl ?_
      cbv
      (refine aK hg (i9 ⟨y0,y1,y2,y3,y4,y5,y6,y7,y8⟩) rfl (fun Q0 hk=> ?_));cbv
      refine goY hg hm hJ fun j2 ht hM=> ?_
      cbv
      refine goN hg ⟨_,by rw [ht,k1];exact aY (zqc hK),rfl⟩ ?_
      cbv
      rw [e1]
      simp only [jv hg]
      subst hj ht
      exact hB ((⟨q.set x.toNat Q0,w.set x.toNat true⟩,_,_)) _ _ ⟨(by rw [hk,hp];exact h0),⟨sZ _,sR,by simpa using k3,by simpa using k4⟩⟩ (Wk.weak (wkG [some 0,some 1,some 2] zr4 ⟨wqB rfl ⟨zr7,zpt⟩,wqE rfl ((sZ _).symm▸aC _ _),wqE rfl (sR.symm▸aC _ _),zpt⟩))
     ·obtain⟨⟨q,w⟩,eZ,eR⟩:=s
      obtain⟨k1,k2,k3,k4⟩:=hi
      dsimp only at k1 k2 k3 k4 h0
      cbv;rw [he];cbv
      have ha:S3.mk q w=R4:=h0
      rw [hP]at ha
      simp only [S3.mk.injEq]at ha
      exact yT hF rfl rfl rfl zr7 (by rw [k1];exact aC _ _) (by rw [k2];exact aC _ _) rfl ⟨_,rfl,p1,q,w,by simp [hn],by rw [k1,k2],by rw [if_neg hn];exact ha.1,by rw [if_neg hn];exact ha.2⟩
def nx(gr:Bool)(x:af):Bool:=if wgt gr x=0 then true else if gr then decide (hyp x<x.base)else decide (x.base<hyp x)
def inL(n:Int):Bool:=decide (0<=n)&&decide (n<=1048576)
def Fx.of(xs:List af)(gap inner:Int):Fx:=⟨xs,gap,inner,C6 xs gap inner⟩
def flx(xs:List af)(gap inner:Int):List Int:=
 if(eo xs&&inL gap&&inL inner)=true then((Fx.of xs gap inner).runI 13 (xs.map hyp) (xs.map (nx (C6 xs gap inner)))).getD []else xs.map hyp
def hgo(gr:Bool):Int->List Bool->List af->List Bool
 |_,m,[]=>m
 |i,m,x::r=>hgo gr (i+1) (m.set i.toNat (nx gr x)) r
theorem FY(gr:Bool):∀(xs:List af)(dn tl:List Bool),tl.length=xs.length->hgo gr dn.length (dn++tl) xs=dn++xs.map (nx gr)
 | [],dn,[],_=>by simp [hgo]
 | [],_,_::_,h=>by simp at h
 |_::_,_,[],h=>by simp at h
 |x::xs,dn,b::tl,h=>by
  have ih:=FY gr xs (dn++[nx gr x]) tl (by simpa using h)
  rw [hgo]
  have e1:(dn++b::tl).set ((dn.length:Int)).toNat (nx gr x)=(dn++[nx gr x])++tl:=by simp
  have e2:(dn.length:Int)+1=((dn++[nx gr x]).length:Int):=by simp
  rw [e1,e2,ih]
  simp
theorem Hc(gr:Bool)(xs:List af):hgo gr 0 (List.replicate xs.length false) xs=xs.map (nx gr):=by
 have:=FY gr xs [] (List.replicate xs.length false) (by simp)
 simpa using this
theorem Fr{α:Type}(c:α->Array Value)(n:Nat)(x:α):vw c (List.replicate n x)=List.replicate n (lc (c x)):=by simp [vw]
theorem vA{es:LLA}(h:az es=true)(t k:Nat)(s:Nat->Nat):AB.mv s ⟨t,k,es⟩=⟨t,k,es⟩:=by
 refine congrArg (AB.mk t k) ?_
 refine(zpl fun x hx=> ?_).trans (List.map_id es)
 refine(zpl fun c hc=> ?_).trans (List.map_id x)
 have hp:=zqf.1 (zqf.1 h x hx) c hc
 cases c<;>first|rfl|cases hp
variable {F:List AT->EH->Prop}{D:List Int}
theorem EM{eh:EH}{V z r:LLA}{gap inner p:Int}{gr:Bool}{t1 t2:Nat}
  (hF:F=li 0 (fun res h'=>∃rows,h'=rows.map .live/\∃(p:Int)(gr:Bool)(fr:List Bool),res= .t (.agg [.view V,.J gap,.J inner,.B gr,.own 0,.own 1,.J p])/\rows=[⟨t1,1,vw aj D⟩,⟨t2,1,vw mD fr⟩]))
  (h1:nth eh 1=some (.rw ⟨t1,1,z⟩)) (h2:nth eh 2=some (.rw ⟨t2,1,r⟩)) (hz:z=vw aj D) (hr:r=vw mD fr):F [.agg [.view V,.J gap,.J inner,.B gr,.own 1,.own 2,.J p]] eh:=by
 subst hF hz hr
 exact .inl ⟨.t (.agg [.view V,.J gap,.J inner,.B gr,.own 0,.own 1,.J p]),toH [.rw ⟨t1,1,vw aj D⟩,.rw ⟨t2,1,vw mD fr⟩],[some 1,some 2],
  wkG [some 1,some 2] ⟨.inr zr7,zpt⟩ ⟨⟨_,_,fY h1,rfl,rfl,rfl,.inl ⟨rfl,aC _ _⟩⟩,⟨_,_,fY h2,rfl,rfl,rfl,.inl ⟨rfl,aC _ _⟩⟩,zpt⟩ (by decide) aB,_,rfl,p,gr,fr,rfl,rfl⟩
theorem xD(xs:List af)(gap inner:Int)(hl:xs.length<=1048576):PC0 328 [.c (.view (vw af.c xs)),ai gap,ai inner] (.t (abl (C6 xs gap inner))):=by
 obtain⟨V,hV⟩:=nmE (vw af.c xs)
 have ha:=lmV hV
 have c1:=ix xs hl
 have c2:=fE xs (xs.map hyp) gap hl (by simpa using hl)
 obtain⟨H,hH⟩:=nmE (vw aj (xs.map hyp))
 have iH:=imV hH
 have kH:=kmV (k:=1) hH fun _=>rfl
 have dH:=dmV hH
 obtain⟨O,hO⟩:=nmE (wrap64 (iv xs (xs.map hyp) gap))
 rw [<-hV,<-hH]at c1 c2
 rw [<-hO]at c2
 rw [<-hV]
 refine aU func328 fun g F hg hF=> ?_
 cbv
 first|(refine bI hg c1 (bv rfl) iH ?_;cbv)|(refine bS hg c1 (bv rfl) iH ?_;cbv)
 first|(refine gz hg c2 (ah (aq rfl) (ah (aX (ab:=⟨_,_,H⟩) rfl kH dH) (ah (aq rfl) (ay)))) rfl ?_;cbv)|(refine fj hg c2 (ah (aq rfl) (ah (aX (ab:=⟨_,_,H⟩) rfl kH dH) (ah (aq rfl) (ay)))) rfl ?_;cbv)
 exact bk hF (by rw [ba hg,C6,hO])
theorem wi(xs:List af)(gap inner:Int)(hl:xs.length<=1048576):bX prog 311 [.c (.view (vw af.c xs)),ai gap,ai inner] fun res hw=>∃(p:Int)(gr:Bool)(fr:List Bool),
  res= .t (.agg [.view (vw af.c xs),.J gap,.J inner,.B gr,.own 0,.own 1,.J p])/\hw=[⟨3,1,vw aj (flx xs gap inner)⟩,⟨4,1,vw mD fr⟩]:=by
 have c1:=ix xs hl
 have c2:=ju xs hl
 have c3:=xD xs gap inner hl
 obtain⟨V,hV⟩:=nmE (vw af.c xs)
 have hW:=lmV hV
 obtain⟨Z,hZ⟩:=nmE (vw aj (xs.map hyp))
 have iZ:=imV hZ
 have pZ:az Z=true:=fu iZ
 obtain⟨D,hD⟩:=nmE (flx xs gap inner)
 obtain⟨IO,ho⟩:=nmE (eo xs)
 obtain⟨G,hG⟩:=nmE (C6 xs gap inner)
 rw [<-hV]at c1 c2 c3
 rw [<-hZ]at c1
 rw [<-ho]at c2
 rw [<-hG]at c3
 rw [<-hV,<-hD]
 refine aU func311 fun g F hg hF=> ?_
 cbv
 first|(refine bI hg c1 (bv rfl) iZ ?_;cbv)|(refine bS hg c1 (bv rfl) iZ ?_;cbv)
 refine F6 hg (by decide) (by omega) ?_
 cbv
 generalize hM:g .rp (g .ln V) _=M0
 replace hM:M0=vw mD (List.replicate xs.length false):=by
  rw [<-hM,yP hg,bu hg,hV,aR,Fr]
  rfl
 have pM:=pmV hM
 have hI:=Hc G xs
 obtain⟨HL,hC⟩:=nmE (xs.map (nx G))
 rw [<-hC]at hI
 repeat'(first|(refine bz hg c2 rfl (fun R0 hp=> ?_);cases R0<;>cbv))
 ·exact EM hF rfl rfl (by rw [hZ,hD,flx,if_neg (by rw [<-ho,<-hp];simp)]) hM
 (refine bz hg (ep _ _ _) rfl (fun I1 hm=> ?_));cbv
 cases I1<;>cbv
 ·exact EM hF rfl rfl (by rw [hZ,hD,flx,if_neg (by rw [inL,<-hm];simp)]) hM
 (refine bz hg (ep _ _ _) rfl (fun I2 hH=> ?_));cbv
 cases I2<;>cbv
 ·exact EM hF rfl rfl (by rw [hZ,hD,flx,if_neg (by rw [inL,inL,<-hm,<-hH];simp)]) hM
 have hu:(eo xs&&inL gap&&inL inner)=true:=by rw [inL,inL,<-hm,<-hH,<-ho,<-hp];rfl
 first|(refine bz hg c3 rfl (fun R hR=> ?_);cbv)|(refine bd hg c3 rfl (fun R hR=> ?_);cbv)
 obtain rfl:G=R:=hR.symm
 refine aV hg bn (by kernel_rfl) V (fun x=>lc (af.c x)) xs hV hl (fun z(s:Int×List Bool×LLA)=>[(6,.p 0),(7,.p 3),(39,.v V),(40,.i (g .ln V)),(41,.i (z))]) (fun z(s:Int×List Bool×LLA)=>[.bx 289 7 [.N,.J 0,.J 0,.B false,.N,.N,.J 0],.rw ⟨3,1,Z⟩,.rw ⟨4,1,s.2.2⟩,.bx 289 7 [.view V,.J gap,.J inner,.B G,.own 1,.own 2,.J 0]]) (fun z(s:Int×List Bool×LLA)=>s.1=z/\s.2.2=vw mD s.2.1/\s.2.1.length=xs.length) (fun(s:Int×List Bool×LLA) rest=>hgo G s.1 s.2.1 rest) (HL) (0,_,M0) hI ⟨rfl,hM,by simp⟩ (Wk.weak (wkG [some 0,some 1,some 2,some 3] zr5 ⟨wqB rfl ⟨zr7,zpt⟩,wqE rfl pZ,wqE rfl pM,wqB rfl ⟨zr7,zpt⟩,zpt⟩ (by decide) aB)) (fun z s B hz h0 hi he=> ?_) (fun z s x rest B z0 z1 z2 hx hy h0 hi hc e1 hB=> ?_)
 rotate_left
 ·obtain⟨i,w,eR⟩:=s
  obtain⟨k1,k2,k3⟩:=hi
  dsimp only at k1 k2 k3 h0
  subst k1
  have hQ:aJ V=(xs.length:Int):=by rw [hV,aR]
  have hh:i<aJ eR:=by rw [k2,aR,k3,<-hQ];exact z1
  have hk:i.toNat<w.length:=by rw [k3];omega
  have sR:∀b b':Bool,b=b'->eR.set i.toNat [.B b]=vw mD (w.set i.toNat b'):=fun b b' h=>by rw [iW,k2,h];rfl
  rw [hgo]at h0
  obtain⟨y0,y1,y2,y3,y4,y5,y6,y7,y8⟩:=x
  obtain⟨HV,hE⟩:=nmE (nx G ⟨y0,y1,y2,y3,y4,y5,y6,y7,y8⟩)
  have ha:HV=if wgt G ⟨y0,y1,y2,y3,y4,y5,y6,y7,y8⟩=0 then true else if G then decide (hyp ⟨y0,y1,y2,y3,y4,y5,y6,y7,y8⟩<y0)else decide (y0<hyp ⟨y0,y1,y2,y3,y4,y5,y6,y7,y8⟩):=hE
  rw [<-hE]at h0
  cbv;rw [hc];cbv;refine goX hg _ z0 hy rfl ?_;cbv
  (refine aZ hg (pK ⟨y0,y1,y2,y3,y4,y5,y6,y7,y8⟩) rfl (fun HY hO=> ?_));cbv
  (refine aK hg (iK ⟨y0,y1,y2,y3,y4,y5,y6,y7,y8⟩ G) rfl (fun Q0 hP=> ?_));cbv
  rw [<-hO,<-hP]at ha
  have t0:g .q .eql Q0 0=decide (Q0=0):=by rw [bg hg];rfl
  by_cases hq:Q0=0
  ·rw [t0,zqu hq]
   rw [if_pos hq]at ha
   cbv
   have s1:=sR (true) HV (ha.symm)
   refine goY hg z0 hh fun j hj ht=> ?_
   cbv
   refine goN hg ⟨_,by rw [hj,k2];exact aY (zqc hk),rfl⟩ ?_
   cbv
   rw [e1]
   simp only [jv hg]
   subst hj
   exact hB ((i+1,w.set i.toNat HV,_)) _ _ ⟨h0,⟨rfl,s1,by simpa using k3⟩⟩ (Wk.weak (wkG [some 0,some 1,some 2,some 3] zr5 ⟨wqB rfl ⟨zr7,zpt⟩,wqE rfl pZ,wqE rfl (s1.symm▸aC _ _),wqB rfl ⟨zr7,zpt⟩,zpt⟩ (by decide) aB))
  ·rw [t0,zqt hq]
   rw [if_neg hq]at ha
   cases hGc:G
   ·rw [hGc]at ha
    cbv
    have s1:=sR (g .q .lss y0 HY) HV (by rw [ba hg];exact ha.symm)
    refine goY hg z0 hh fun j hj ht=> ?_
    cbv
    refine goN hg ⟨_,by rw [hj,k2];exact aY (zqc hk),rfl⟩ ?_
    cbv
    rw [e1]
    simp only [jv hg]
    subst hj
    exact hB ((i+1,w.set i.toNat HV,_)) _ _ ⟨h0,⟨rfl,s1,by simpa using k3⟩⟩ (Wk.weak (wkG [some 0,some 1,some 2,some 3] zr5 ⟨wqB rfl ⟨zr7,zpt⟩,wqE rfl pZ,wqE rfl (s1.symm▸aC _ _),wqB rfl ⟨⟨rfl,rfl,rfl,(by rw [hGc];exact rfl),rfl,rfl,rfl,zpt⟩,zpt⟩,zpt⟩ (by decide) aB))
   ·rw [hGc]at ha
    cbv
    cases hqq:g .q .gtr y0 HY
    ·cbv
     have s1:=sR (false) HV (by rw [ha];rw [di hg]at hqq;exact hqq.symm)
     refine goY hg z0 hh fun j hj ht=> ?_
     cbv
     refine goN hg ⟨_,by rw [hj,k2];exact aY (zqc hk),rfl⟩ ?_
     cbv
     rw [e1]
     simp only [jv hg]
     subst hj
     exact hB ((i+1,w.set i.toNat HV,_)) _ _ ⟨h0,⟨rfl,s1,by simpa using k3⟩⟩ (Wk.weak (wkG [some 0,some 1,some 2,some 3] zr5 ⟨wqB rfl ⟨zr7,zpt⟩,wqE rfl pZ,wqE rfl (s1.symm▸aC _ _),wqB rfl ⟨⟨rfl,rfl,rfl,(by rw [hGc];exact rfl),rfl,rfl,rfl,zpt⟩,zpt⟩,zpt⟩ (by decide) aB))
    ·cbv
     have s1:=sR (true) HV (by rw [ha];rw [di hg]at hqq;exact hqq.symm)
     refine goY hg z0 hh fun j hj ht=> ?_
     cbv
     refine goN hg ⟨_,by rw [hj,k2];exact aY (zqc hk),rfl⟩ ?_
     cbv
     rw [e1]
     simp only [jv hg]
     subst hj
     exact hB ((i+1,w.set i.toNat HV,_)) _ _ ⟨h0,⟨rfl,s1,by simpa using k3⟩⟩ (Wk.weak (wkG [some 0,some 1,some 2,some 3] zr5 ⟨wqB rfl ⟨zr7,zpt⟩,wqE rfl pZ,wqE rfl (s1.symm▸aC _ _),wqB rfl ⟨⟨rfl,rfl,rfl,(by rw [hGc];exact rfl),rfl,rfl,rfl,zpt⟩,zpt⟩,zpt⟩ (by decide) aB))
 ·obtain⟨i,w,eR⟩:=s
  obtain⟨k1,k2,k3⟩:=hi
  dsimp only at k1 k2 k3 h0
  rw [hgo]at h0
  obtain rfl:HL=w:=h0.symm
  have pR:=pmV k2
  obtain⟨X,hX⟩:=nmE (Fx.of xs gap inner)
  have hs:eo X.xs=true:=by
   rw [hX]
   simp only [zqs]at hu
   exact hu.1.1
  have hv:=(fg hs).2
  have hb:X.xs=xs:=by rw [hX];rfl
  obtain⟨r,hr1,hY⟩:=Fx.run_some hs 13 (xs.map hyp) HL (by rw [hb];exact k3) (by have:=kr HL 0;rw [hb]at hv;omega)
  have hN:D=r:=by rw [hD,flx,if_pos hu,<-hG,<-hC,<-hX,hr1];rfl
  cbv;rw [he];cbv
  refine CO hg bn (by kernel_rfl) (fun s:(List Int×List Bool×Int)×LLA×LLA=>[(6,.p 0),(7,.p 3)]) (fun s=>[.bx 289 7 [.N,.J 0,.J 0,.B false,.N,.N,.J 0],.rw ⟨3,1,s.2.1⟩,.rw ⟨4,1,s.2.2⟩,.bx 289 7 [.view V,.J gap,.J inner,.B G,.own 1,.own 2,.J s.1.2.2]])
   (fun s=>s.2.1=vw aj s.1.1/\s.2.2=vw mD s.1.2.1/\s.1.1.length=xs.length/\s.1.2.1.length=xs.length) (fun k s=>X.runI k s.1.1 s.1.2.1) r 13 ((xs.map hyp,HL,0),Z,eR) hr1 ⟨hZ,k2,by simp,k3⟩ (Wk.weak (wkG [some 0,some 1,some 2,some 3] zr2 ⟨wqB rfl ⟨zr7,zpt⟩,wqE rfl pZ,wqE rfl pR,wqB rfl ⟨zr7,zpt⟩,zpt⟩ (by decide) aB)) (fun s k B h0 hi hB=> ?_)
  obtain⟨⟨sz,fr,p⟩,eZ,eR⟩:=s
  obtain⟨k1,k2,k3,k4⟩:=hi
  dsimp only at k1 k2 k3 k4 h0
  cases k with
  |zero=>cases h0
  |succ k=>
   rw [Fx.runI]at h0
   have cp:=mJ X hs sz fr (by rw [hb];exact k3) (by rw [hb];exact k4) p
   have qZ:=pmV k1
   have qR:=pmV k2
   have hS:X.gap=gap:=by rw [hX];rfl
   have hT:X.inner=inner:=by rw [hX];rfl
   have hU:X.gr=G:=by rw [hX,hG];rfl
   simp only [Fx.bx,hb,hS,hT,hU,<-hV,<-k1,<-k2]at cp
   cbv
   refine Du hg [3,1,2] cp (by decide) (fun r hr=>by simp only [zph,List.not_mem_nil,or_false]at hr;simp only [zqx,List.length_nil];omega) ⟨⟨_,_,rfl,rfl,rfl,rfl,.inr ⟨zr7,zpt⟩⟩,⟨_,_,rfl,rfl,rfl,rfl,.inl ⟨rfl,qZ⟩⟩,⟨_,_,rfl,rfl,rfl,rfl,.inl ⟨rfl,qR⟩⟩,zpt⟩ zr1 fun res eh hq=> ?_
   obtain⟨p',hL,hA,rfl,rfl,h1,h2⟩:=hq
   obtain⟨Z',hf⟩:=nmE (vw aj hL)
   obtain⟨R',hd⟩:=nmE (vw mD hA)
   have hK:=pmV hf
   have hJ:=pmV hd
   rw [<-hf,<-hd]
   simp only [dl,EE.mv,vA hK,vA hJ]
   by_cases hn:fre 0 fr=[]
   ·rw [if_pos hn]at h0 h1 h2
    rw [show decide (fre 0 fr≠[])=false by simp [hn]]
    cbv
    subst h1 h2
    exact EM hF rfl rfl (by rw [hf,hN];cases h0;rfl) hd
   ·rw [if_neg hn]at h0 h1 h2
    rw [show decide (fre 0 fr≠[])=true by simp [hn]]
    cbv
    refine hB k ((hL,hA,p'),Z',R') _ _ (Nat.lt_succ_self k) (by rw [h1,h2];exact h0) ⟨hf,hd,by rw [h1,nP];exact k3,by rw [h2,nQ];exact k4⟩ (Wk.weak (wkG [some 0,some 1,some 2,some 3] zr2 ⟨wqB rfl ⟨zr7,zpt⟩,wqE rfl (hK),wqE rfl (hJ),wqB rfl ⟨zr7,zpt⟩,zpt⟩ (by decide) aB))
theorem sq(xs:List af)(gap inner:Int)(hl:xs.length<=1048576):bX prog 288 [.c (.view (vw af.c xs)),ai gap,ai inner] fun res ha=>res= .o 0/\ha=[⟨3,1,vw aj (flx xs gap inner)⟩]:=by
 have cf:=wi xs gap inner hl
 obtain⟨V,hV⟩:=nmE (vw af.c xs)
 obtain⟨D,hD⟩:=nmE (vw aj (flx xs gap inner))
 have pD:=pmV hD
 rw [<-hV,<-hD]at cf
 rw [<-hV,<-hD]
 refine aU func288 fun g F hg hF=> ?_
 cbv
 refine sE hg (fM cf rfl fun res ha hq=> ?_)
 obtain⟨p,gr,fr,rfl,rfl⟩:=hq
 obtain⟨R,hR⟩:=nmE (vw mD fr)
 have pR:=pmV hR
 rw [<-hR]
 refine⟨[.rw ⟨3,1,D⟩,.rw ⟨4,1,R⟩],by simp only [zqA,List.map_nil,fX (ab:=⟨3,1,D⟩) pD,fX (ab:=⟨4,1,R⟩) pR];rfl,?_⟩
 cbv
 exact bH hF rfl pD
theorem Hf(xs:List af)(gap inner:Int):(flx xs gap inner).length=xs.length:=by
 unfold flx
 split
 ·rename_i h
  simp only [zqs]at h
  have hX:eo (Fx.of xs gap inner).xs=true:=h.1.1
  have hb:=(fg hX).2
  obtain⟨r,hr1,ha⟩:=Fx.run_some hX 13 (xs.map hyp) (xs.map (nx (C6 xs gap inner))) (by simp;rfl) (by have:=kr (xs.map (nx (C6 xs gap inner))) 0;rw [zql]at this;have e:(Fx.of xs gap inner).xs.length=xs.length:=rfl;omega)
  rw [hr1]
  simpa using ha
 ·simp
def AZ(h:AH):List AC->List AC->Prop
 | [],[]=>True
 |c::cs,d::ds=>p7 h c d/\AZ h cs ds
 |_,_=>False
variable {h:AH}
theorem AZ.at_:∀(cs ds:List AC),AZ h cs ds->cs.length=ds.length/\∀(j:Nat)(c d:AC),cs[j]? =some c->ds[j]? =some d->p7 h c d
 | [],[],_=>⟨rfl,fun j c d hc=>by simp at hc⟩
 |c::cs,d::ds,hr=>by
  obtain⟨h1,h2⟩:=AZ.at_ cs ds hr.2
  refine⟨by simp [h1],fun j x y hx hy=> ?_⟩
  cases j with
  |zero=>simp only [zqw,zqy]at hx hy;subst hx hy;exact hr.1
  |succ j=>exact h2 j x y (by simpa using hx) (by simpa using hy)
 | [],_::_,hr=>hr.elim
 |_::_,[],hr=>hr.elim
theorem zW{r off:Nat}{t k:Nat}{cs ds:List AC}(hr:h[r]? =some (.live ⟨t,k,[cs]⟩))(hl:AZ h cs ds):DE h (.ptr r 0 off) (.eptr ds off):=
 .ptr r 0 off ⟨t,k,[cs]⟩ cs ds hr rfl (AZ.at_ cs ds hl).1 (AZ.at_ cs ds hl).2
structure S4 where
 i:Int
 p:List Int
 w:List Int
 a:Int
def S4.go(gr:Bool):S4->List (af×Bool)->S4
 |s,[]=>s
 |s,(x,f)::r=>S4.go gr (if f then⟨s.i+1,s.p,s.w,s.a⟩else⟨s.i+1,s.p++[s.i],s.w++[wgt gr x],wrap64 (s.a+wgt gr x)⟩) r
theorem S4.go_eq(X:Fx):∀(xs:List af)(fr:List Bool)(n:Nat)(p w:List Int)(a:Int),fr.length=xs.length->(∀j:Nat,j<xs.length->itA X.xs ((n:Int)+(j:Int))=xs[j]?.getD ⟨0,0,0,0,0,0,0,false,false⟩)->
  S4.go X.gr ⟨n,p,w,a⟩ (xs.zip fr)=⟨(n:Int)+xs.length,p++fre n fr,w++(fre n fr).map fun i=>wgt X.gr (itA X.xs i),pn a ((fre n fr).map fun i=>wgt X.gr (itA X.xs i))⟩
 | [],[],n,p,w,a,_,_=>by simp [S4.go,fre,pn]
 | [],_::_,_,_,_,_,h,_=>by simp at h
 |_::_,[],_,_,_,_,h,_=>by simp at h
 |x::xs,b::fr,n,p,w,a,h1,h3=>by
  have hx:itA X.xs (n:Int)=x:=by have:=h3 0 (by simp);simpa using this
  have h4:∀j:Nat,j<xs.length->itA X.xs (((n+1:Nat):Int)+(j:Int))=xs[j]?.getD ⟨0,0,0,0,0,0,0,false,false⟩:=fun j hj=>by
   have:=h3 (j+1) (by simp;omega)
   simp only [List.getElem?_cons_succ]at this
   rw [<-this]
   congr 1
   omega
  have ih:=fun p w a=>S4.go_eq X xs fr (n+1) p w a (by simpa using h1) h4
  have en:((n+1:Nat):Int)=(n:Int)+1:=by omega
  rw [List.zip_cons_cons]
  cases b with
  |true=>
   simp only [S4.go,if_true,fre]
   have:=ih p w a
   rw [en]at this
   rw [this,zqx]
   congr 1
   omega
  |false=>
   simp only [S4.go,Bool.false_eq_true,if_false,fre]
   have:=ih (p++[(n:Int)]) (w++[wgt X.gr x]) (wrap64 (a+wgt X.gr x))
   rw [en]at this
   rw [this,zqx,zqA,pn,hx,zqC,zqC]
   congr 1
   omega
theorem S4.all_(X:Fx)(hf:fr.length=X.xs.length):S4.go X.gr ⟨0,[],[],0⟩ (X.xs.zip fr)=⟨X.xs.length,fre 0 fr,X.ws fr,X.all fr⟩:=by
 have:=S4.go_eq X X.xs fr 0 [] [] 0 hf (fun j hj=>by simp [itA])
 simpa [Fx.all,Fx.ws]using this
theorem kI(xs:List af)(gr:Bool)(i:Int)(h0:0<=i)(h1:i<xs.length)(c1 c2 c4 c5 c6:AC):PC0 333 [.c (.eptr [.view (vw af.c xs),c1,c2,.B gr,c4,c5,c6] 0),ai i] (.i (wgt gr (itA xs i))):=by
 obtain⟨y,hb⟩:=nmE (itA xs i)
 obtain⟨V,hV⟩:=nmE (vw af.c xs)
 have ha:V[i.toNat]? =some (lc (af.c y)):=by rw [hV,hb];exact aY (pJ h0 h1)
 rw [<-hV,<-hb]
 obtain⟨y0,y1,y2,y3,y4,y5,y6,y7,y8⟩:=y
 cases gr
 ·refine aU func333 fun g F hg hF=> ?_
  cbv
  refine goX hg _ h0 ha rfl ?_
  cbv
  refine goX hg _ h0 ha rfl ?_
  cbv
  exact aO hF (by rw [gx hg];rfl)
 ·refine aU func333 fun g F hg hF=> ?_
  cbv
  refine goX hg _ h0 ha rfl ?_
  cbv
  exact aO hF rfl
theorem s7(xs:List af)(sz:List Int)(gap inner:Int)(gr:Bool)(hx:xs.length<=1048576)(hs:sz.length<=1048576)(c4 c6:AC):PC0 338 [.c (.eptr [.view (vw af.c xs),.J gap,.J inner,.B gr,c4,.view (vw aj sz),c6] 0)] (.i (wM xs sz gap inner gr)):=by
 have co:=gD xs sz gap hx hs
 obtain⟨V,hV⟩:=nmE (vw af.c xs)
 obtain⟨Z,hZ⟩:=nmE (vw aj sz)
 obtain⟨r,hr⟩:=nmE (wM xs sz gap inner gr)
 rw [<-hV,<-hZ]at co⊢
 rw [<-hr]
 rw [wM]at hr
 cases gr
 ·refine aU func338 fun g F hg hF=> ?_
  cbv
  (refine aK hg (co) rfl (fun OV ha=> ?_));cbv
  obtain⟨n,hn⟩:∃n,n=g .w .sub .i64 inner OV:=⟨_,rfl⟩
  rw [<-hn]
  rw [bZ hg,ha]at hn
  cases hq:g .q .gtr n 0<;>cbv
  all_goals rw [di hg]at hq
  ·(refine aZ hg (cj _) rfl (fun Q hQ=> ?_));cbv
   exact aO hF (by rw [hQ,hr,<-hn,if_neg (by simpa using hq)])
  ·exact aO hF (by rw [hr,<-hn,if_pos (by simpa using hq)])
 ·refine aU func338 fun g F hg hF=> ?_
  cbv
  (refine aK hg (co) rfl (fun OV ha=> ?_));cbv
  obtain⟨n,hn⟩:∃n,n=g .w .sub .i64 inner OV:=⟨_,rfl⟩
  rw [<-hn]
  rw [bZ hg,ha]at hn
  cases hq:g .q .lss n 0<;>cbv
  all_goals rw [ba hg]at hq
  ·(refine aZ hg (cj _) rfl (fun Q hQ=> ?_));cbv
   exact aO hF (by rw [hQ,hr,<-hn,if_neg (by simpa using hq)])
  ·exact aO hF (by rw [hr,<-hn,if_pos (by simpa using hq)])
structure S5 where
 d:List Int
 s:Int
 b:Bool
def S5.go(X:Fx)(A r:Int):S5->List (Int×Int)->S5
 |s,[]=>s
 |s,(i,_)::is=>S5.go X A r ⟨s.d++[ovr X.gr A r (itA X.xs i)],wrap64 (s.s+ovr X.gr A r (itA X.xs i)),s.b||(ovr X.gr A r (itA X.xs i) !=0)⟩ is
theorem S5.go_eq(X:Fx)(A r:Int):∀(is:List Int)(ws:List Int)(s:S5),ws.length=is.length->S5.go X A r s (is.zip ws)=⟨s.d++is.map (fun i=>ovr X.gr A r (itA X.xs i)),pn s.s (is.map fun i=>ovr X.gr A r (itA X.xs i)),s.b||(is.map fun i=>ovr X.gr A r (itA X.xs i)).any fun o=>o !=0⟩
 | [],_,s,_=>by simp [S5.go,pn]
 |i::is,w::ws,s,h=>by
  rw [List.zip_cons_cons,S5.go,S5.go_eq X A r is ws _ (by simpa using h)]
  simp only [zqA,pn,List.any_cons,zqC,List.singleton_append,Bool.or_assoc]
 |_::_,[],_,h=>by simp at h
theorem GQ(d:List Int)(m k:Nat)(v:Int)(hk:k=d.length):(d++List.replicate (m+1) 0).set k v=(d++[v])++List.replicate m 0:=by
 subst hk
 simp [List.replicate_succ]
def Ju(X:Fx)(so:Bool)(sum:Int)(p:Int×Int×Int):Option (Int×Int):=
 if so=false then some (p.1,cl (wrap64 ((itA X.xs p.1).base+p.2.2)))
 else if 0<p.2.1/\0<=sum then some (p.1,(itA X.xs p.1).least)
 else if p.2.1<0/\sum<=0 then some (p.1,wW (itA X.xs p.1))else none
theorem Fx.setS_eq(X:Fx)(fr:List Bool)(rest:Int):X.setS fr rest=((fre 0 fr).zip ((X.ovs fr rest).zip (shr rest (X.ws fr)))).filterMap (Ju X ((X.ovs fr rest).any fun o=>o !=0) (pn 0 (X.ovs fr rest))):=rfl
theorem s5(X:Fx)(hX:eo X.xs=true)(sz:List Int)(fr:List Bool)(hs:sz.length=X.xs.length)(hf:fr.length=X.xs.length)(p:Int):
  Con prog 334 (toH [.bx 304 7 (X.bx p),.rw ⟨4,1,vw mD fr⟩,.rw ⟨3,1,vw aj sz⟩]) [.c (.ptr 0 0 0)] fun res h'=>∃eh,toH eh=h'/\∃p' sz' fr',
   res= .t (abl (decide (fre 0 fr≠[])))/\eh=[.bx 304 7 (X.bx p'),.rw ⟨4,1,vw mD fr'⟩,.rw ⟨3,1,vw aj sz'⟩]/\
   sz'=(if fre 0 fr=[]then sz else qj (X.setS fr (wM X.xs sz X.gap X.inner X.gr)) sz)/\fr'=(if fre 0 fr=[]then fr else px ((X.setS fr (wM X.xs sz X.gap X.inner X.gr)).map (·.1)) fr):=by
 have hk:=S4.all_ X hf
 obtain⟨yb,ya⟩:=fg hX
 obtain⟨zs,xa⟩:=nmE (X.xs.zip fr)
 have hV:vw af.c X.xs=zs.map fun t=>lc (af.c t.1):=by
  rw [xa,vw]
  conv=>lhs;rw [<-List.map_fst_zip (l₁:=X.xs) (l₂:=fr) (by omega)]
  rw [List.map_map];rfl
 have x5:zs.length<=1048576:=by rw [xa,zqB];omega
 rw [<-xa]at hk
 obtain⟨rt,xZ⟩:=nmE (wM X.xs sz X.gap X.inner X.gr)
 have cw:=fun(i:Int)(h0:0<=i)(h1:i<X.xs.length)(c1 c2 c4 c5 c6:AC)=>kI X.xs X.gr i h0 h1 c1 c2 c4 c5 c6
 have xb:=fun(c4 c6:AC)=>s7 X.xs sz X.gap X.inner X.gr (by omega) (by omega) c4 c6
 obtain⟨V,hN⟩:=nmE (vw af.c X.xs)
 obtain⟨Z,hZ⟩:=nmE (vw aj sz)
 have x9:=lmV hZ
 have kZ:=kmV (k:=1) hZ fun _=>rfl
 have dZ:=dmV hZ
 obtain⟨R,hR⟩:=nmE (vw mD fr)
 obtain⟨FR,ha⟩:=nmE (fre 0 fr)
 obtain⟨WS,hQ⟩:=nmE (X.ws fr)
 obtain⟨AL,xx⟩:=nmE (X.all fr)
 obtain⟨GR,hM⟩:=nmE X.gr
 have pZ:=pmV hZ
 have pR:=pmV hR
 have kR:=kmV (k:=1) hR fun _=>rfl
 have dR:=dmV hR
 have xP:aJ R=(X.xs.length:Int):=by rw [hR,aR,hf]
 simp only [<-xZ]at xb⊢
 simp only [Fx.bx,<-hN,<-hZ,<-hR,<-hM]at cw xb⊢
 rw [<-hN]at hV
 rw [<-ha,<-hQ,<-xx]at hk
 rw [<-ha]
 have xh:aJ V=(X.xs.length:Int):=by rw [hN,aR]
 obtain⟨R1,xA⟩:=nmE (S4.mk (X.xs.length:Int) FR WS AL)
 rw [<-xA]at hk
 refine pe (c:=jx f334) bn func334 (by kernel_rfl) (by kernel_rfl) (bl (by rfl)) (by kernel_rfl) fun g F hg hF=> ?_
 replace hg:g=G0 prog 3 f334.ntmps:=hg
 replace hF:F=li 3 _:=hF
 cbv
 refine aV hg bn (by kernel_rfl) V (fun t=>lc (af.c t.1)) zs hV x5 (fun z(s:S4×LLA×LLA)=>[(0,.p 0),(3,.o 3),(4,.o 4),(5,.i (s.1.a)),(6,.i (z))]) (fun z(s:S4×LLA×LLA)=>[.bx 304 7 [.view V,.J X.gap,.J X.inner,.B GR,.own 1,.own 2,.J p],.rw ⟨4,1,R⟩,.rw ⟨3,1,Z⟩,.rw ⟨3,1,s.2.1⟩,.rw ⟨3,1,s.2.2⟩]) (fun z(s:S4×LLA×LLA)=>s.2.1=vw aj s.1.w/\s.2.2=vw aj s.1.p/\s.1.i=z/\(s.1.w.length:Int)<=z/\(s.1.p.length:Int)<=z) (fun(s:S4×LLA×LLA) rest=>S4.go X.gr s.1 rest) (R1) (⟨0,[],[],0⟩,[],[]) hk ⟨rfl,rfl,rfl,by simp,by simp⟩ (Wk.weak (wkG [some 0,some 1,some 2,some 3,some 4] zr5 ⟨wqB rfl ⟨zr7,zpt⟩,wqE rfl pR,wqE rfl pZ,wqE rfl rfl,wqE rfl rfl,zpt⟩)) (fun z s B hz h0 hi he=> ?_) (fun z s x rest B z0 z1 z2 hx hy h0 hi hc e1 hB=> ?_)
 rotate_left
 ·obtain⟨⟨i,pl,w,a⟩,eW,eP⟩:=s
  obtain⟨b1,b2,b3,b4,b5⟩:=hi
  dsimp only at b1 b2 b3 b4 b5 h0
  subst b3
  obtain⟨x,b⟩:=x
  have hu:=hx
  rw [xa,List.getElem?_zip_eq_some]at hu
  obtain⟨q1,q2⟩:=hu
  have x8:aJ V=(X.xs.length:Int):=xh
  have lW:eW.length<=1048576:=by rw [b1,ar];omega
  have lP:eP.length<=1048576:=by rw [b2,ar];omega
  have pW:=pmV b1
  have pP:=pmV b2
  have xc:=fun c1 c2 c4 c5 c6=>cw i z0 (xh▸z1) c1 c2 c4 c5 c6
  have xS:itA X.xs i=x:=by unfold itA;rw [q1];rfl
  obtain⟨w0,xt⟩:=nmE (wgt GR (itA X.xs i))
  simp only [<-xt]at xc
  rw [xS,hM]at xt
  have aP:eP++[[.J i]]=vw aj (pl++[i]):=by rw [bi,b2];rfl
  have aW:eW++[[.J w0]]=vw aj (w++[w0]):=by rw [bi,b1];rfl
  have hW:i<aJ R:=by rw [xP,<-xh];exact z1
  cbv
  rw [hc]
  cbv
  refine goY hg z0 hW fun j hj h5=> ?_
  cbv
  refine⟨_,by rw [hj,hR];exact aY q2,?_⟩
  cases b<;>cbv
  ·refine dh hg rfl (by decide) lP ?_
   cbv
   refine gz hg (xc _ _ (.view R) (.view Z) _) (dx (zW rfl ⟨aq rfl,aq rfl,aq rfl,aq rfl,aX (ab:=⟨_,_,R⟩) rfl kR dR,aX (ab:=⟨_,_,Z⟩) rfl kZ dZ,aq rfl,zpt⟩) (ah (aq rfl) ay)) rfl ?_
   cbv
   refine dh hg rfl (by decide) lW ?_
   cbv
   refine gz hg (xc _ _ (.view R) (.view Z) _) (dx (zW rfl ⟨aq rfl,aq rfl,aq rfl,aq rfl,aX (ab:=⟨_,_,R⟩) rfl kR dR,aX (ab:=⟨_,_,Z⟩) rfl kZ dZ,aq rfl,zpt⟩) (ah (aq rfl) ay)) rfl ?_
   cbv
   rw [e1]
   simp only [gd hg,aG hg]
   exact hB ((⟨i+1,pl++[i],w++[w0],wrap64 (a+w0)⟩,_,_)) _ _ ⟨(by simpa [S4.go,xt,hM]using h0),⟨aW,aP,rfl,by simp;omega,by simp;omega⟩⟩ (Wk.weak (wkG [some 0,some 1,some 2,some _,some _] zr5 ⟨wqB rfl ⟨zr7,zpt⟩,wqE rfl pR,wqE rfl pZ,wqE rfl (aW.symm▸aC _ _),wqE rfl (aP.symm▸aC _ _),zpt⟩))
  ·rw [e1]
   exact hB ((⟨i+1,pl,w,a⟩,eW,eP)) _ _ ⟨(by simpa [S4.go]using h0),⟨b1,b2,rfl,by dsimp only;omega,by dsimp only;omega⟩⟩ (Wk.weak (wkG [some 0,some 1,some 2,some 3,some 4] zr5 ⟨wqB rfl ⟨zr7,zpt⟩,wqE rfl pR,wqE rfl pZ,wqE rfl pW,wqE rfl pP,zpt⟩))
 obtain⟨⟨i,pl,w,a⟩,eW,eP⟩:=s
 obtain⟨b1,b2,b3,b4,b5⟩:=hi
 dsimp only at b1 b2 h0
 rw [xA]at h0
 simp only [S4.go,S4.mk.injEq]at h0
 obtain⟨-,h2,h3,h4⟩:=h0
 obtain rfl:FR=pl:=h2.symm
 obtain rfl:WS=w:=h3.symm
 obtain rfl:AL=a:=h4.symm
 have pW:=pmV b1
 have x6:=kmV (k:=1) b2 fun _=>rfl
 have xK:=dmV b2
 have xI:=kmV (k:=1) b1 fun _=>rfl
 have xw:=dmV b1
 have x7:FR.length<=12:=by have:=kr fr 0;rw [<-ha,hf]at this;omega
 have xF:WS.length=FR.length:=by rw [hQ,ha,Fx.ws,zql]
 cbv;rw [he];cbv
 by_cases hn:FR=[]
 ·have e:g .q .eql (g .ln eP) 0=true:=by rw [bg hg,bu hg,b2,hn];rfl
  rw [e]
  cbv
  exact yT hF rfl rfl rfl zr7 pR pZ rfl ⟨_,rfl,p,sz,fr,by simp [hn],by rw [hZ,hR],by simp [hn],by simp [hn]⟩
 have e:g .q .eql (g .ln eP) 0=false:=by
  rw [bg hg,bu hg,b2,aR]
  have:FR.length≠0:=fun h=>hn (zqv h)
  simp;omega
 rw [e]
 cbv
 obtain⟨p1,xX⟩:∃p1,p1=g .w .add .i64 p 1:=⟨_,rfl⟩
 rw [<-xX]
 refine gz hg (xb (.view R) _) (dx (zW rfl ⟨aq rfl,aq rfl,aq rfl,aq rfl,aX (ab:=⟨_,_,R⟩) rfl kR dR,aX (ab:=⟨_,_,Z⟩) rfl kZ dZ,aq rfl,zpt⟩) ay) rfl ?_
 cbv
 refine F6 hg (by decide) (by rw [b2,ar];omega) ?_
 cbv
 generalize hO:g .rp (g .ln eP) _=O0
 replace hO:O0=vw aj (List.replicate FR.length 0):=by
  rw [<-hO,yP hg,bu hg,b2,aR,Fr]
  rfl
 have pO:=pmV hO
 obtain⟨qs,h9⟩:=nmE (FR.zip WS)
 have xi:eP=qs.map fun t=>lc (aj t.1):=by
  rw [b2,h9,vw]
  conv=>lhs;rw [<-List.map_fst_zip (l₁:=FR) (l₂:=WS) (by omega)]
  rw [List.map_map];rfl
 have xY:qs.length<=1048576:=by rw [h9,zqB];omega
 obtain⟨hq,hD⟩:=nmE (X.ovs fr rt)
 obtain⟨SM,xE⟩:=nmE (pn 0 hq)
 obtain⟨SB,xD⟩:=nmE (hq.any fun o=>o !=0)
 obtain⟨R2,xB⟩:=nmE (S5.mk hq SM SB)
 have xM:S5.go X AL rt ⟨[],0,false⟩ qs=R2:=by
  rw [h9,S5.go_eq X AL rt FR WS _ xF,xB,xE,xD,hD,Fx.ovs,<-ha,<-xx]
  simp
 have xO:hq.length=FR.length:=by rw [hD,Fx.ovs,<-ha,zql]
 refine aV hg bn (by kernel_rfl) eP (fun t=>lc (aj t.1)) qs xi xY (fun z(s:S5×LLA)=>[(0,.p 0),(3,.o 3),(4,.v eP),(5,.i (AL)),(7,.i (rt)),(8,.o 4),(9,.i (s.1.s)),(10,.t (abl (s.1.b))),(11,.i (z))]) (fun z(s:S5×LLA)=>[.bx 304 7 [.view V,.J X.gap,.J X.inner,.B GR,.own 1,.own 2,.J p1],.rw ⟨4,1,R⟩,.rw ⟨3,1,Z⟩,.rw ⟨3,1,eW⟩,.rw ⟨3,1,s.2⟩]) (fun z(s:S5×LLA)=>s.2=vw aj (s.1.d++List.replicate (FR.length-s.1.d.length) 0)/\(s.1.d.length:Int)=z) (fun(s:S5×LLA) rest=>S5.go X AL rt s.1 rest) (R2) (⟨[],0,false⟩,O0) xM ⟨by simpa using hO,rfl⟩ (bG (sl1 4 eP) (jE rfl x6 xK) (Wk.weak (wkG [some 0,some 1,some 2,some 3,some 5] zr9 ⟨wqB rfl ⟨zr7,zpt⟩,⟨_,_,rfl,rfl,rfl,rfl,.inl (bD pR)⟩,⟨_,_,rfl,rfl,rfl,rfl,.inl (bD pZ)⟩,⟨_,_,rfl,rfl,rfl,rfl,.inl (bD pW)⟩,⟨_,_,rfl,rfl,rfl,rfl,.inl (bD pO)⟩,zpt⟩))) (fun z s B hz h0 hi he=> ?_) (fun z s x rest B z0 z1 z2 hx hy h0 hi hc e1 hB=> ?_)
 rotate_left
 ·obtain⟨⟨d,s,b⟩,eO⟩:=s
  obtain⟨i1,i2⟩:=hi
  dsimp only at i1 i2 h0
  obtain⟨x,w⟩:=x
  have hu:=hx
  rw [h9,List.getElem?_zip_eq_some]at hu
  obtain⟨q1,q2⟩:=hu
  have x2:z.toNat<FR.length:=(zqb.1 q1).1
  have hG:x∈fre 0 fr:=ha▸zqd q1
  have hU:=ic fr 0 (zpc 0) x hG
  have x1:=hU.1
  have hC:eP[z.toNat]? =some (lc (aj x)):=by rw [b2];exact aY q1
  have xe:eW[z.toNat]? =some (lc (aj w)):=by rw [b1];exact aY q2
  have x4:z<aJ eW:=by rw [b1,aR,xF];omega
  have hK:z<aJ eO:=by rw [i1,aR];simp only [zqe,zpw];omega
  obtain⟨y,hJ⟩:=nmE (itA X.xs x)
  have hP:V[x.toNat]? =some (lc (af.c y)):=by rw [hN,hJ];exact aY (pJ hU.1 (by rw [<-hf];omega))
  have hw:w=wgt GR y:=by
   rw [hQ,Fx.ws,<-ha,zqi,q1,Option.map_some,zqy,<-hM,<-hJ]at q2
   exact q2.symm
  obtain⟨v,hv⟩:=nmE (ovr GR AL rt y)
  have hgo:S5.go X AL rt ⟨d++[v],wrap64 (s+v),b||(v !=0)⟩ rest=R2:=by rw [hv,hJ,hM];exact h0
  have xq:FR.length-d.length=FR.length-(d.length+1)+1:=by omega
  have xu:z.toNat=d.length:=by omega
  have hp:(d++List.replicate (FR.length-d.length) 0).set z.toNat v=(d++[v])++List.replicate (FR.length-(d.length+1)) 0:=by
   rw [show FR.length-d.length=FR.length-(d.length+1)+1 by omega]
   exact GQ d _ _ v (by omega)
  have hS:(d++List.replicate (FR.length-d.length) 0)[z.toNat]? =some 0:=by
   rw [xq,List.replicate_succ,xu]
   simp
  have xG:((d++[v])++List.replicate (FR.length-(d.length+1)) 0)[z.toNat]? =some v:=by
   rw [show z.toNat=d.length by omega]
   simp
  have xH:((d++[v]).length:Int)=z+1:=by simp;omega
  obtain⟨y0,y1,y2,y3,y4,y5,y6,y7,y8⟩:=y
  have hr:v=if qL GR AL rt ⟨y0,y1,y2,y3,y4,y5,y6,y7,y8⟩then wrap64 (wrap64 (y1*AL)-tgt GR AL rt ⟨y0,y1,y2,y3,y4,y5,y6,y7,y8⟩)else if 0<=y2/\wrap64 (wW ⟨y0,y1,y2,y3,y4,y5,y6,y7,y8⟩*AL)<tgt GR AL rt ⟨y0,y1,y2,y3,y4,y5,y6,y7,y8⟩then wrap64 (wrap64 (wW ⟨y0,y1,y2,y3,y4,y5,y6,y7,y8⟩*AL)-tgt GR AL rt ⟨y0,y1,y2,y3,y4,y5,y6,y7,y8⟩)else 0:=hv
  cbv
  rw [hc]
  cbv
  refine goX hg _ z0 hC rfl ?_
  cbv
  refine goX hg _ x1 hP rfl ?_
  cbv
  refine goY hg z0 x4 fun jw xW xV=> ?_
  cbv
  refine⟨_,by rw [xW];exact xe,?_⟩
  cbv
  have hT:g .w .add .i64 (g .w .mul .i64 y0 AL) (g .w .mul .i64 rt w)=tgt GR AL rt ⟨y0,y1,y2,y3,y4,y5,y6,y7,y8⟩:=by simp only [aG hg,gx hg,hw];rfl
  have xQ:g .q .lss (g .w .add .i64 (g .w .mul .i64 y0 AL) (g .w .mul .i64 rt w)) (g .w .mul .i64 y1 AL)=qL GR AL rt ⟨y0,y1,y2,y3,y4,y5,y6,y7,y8⟩:=by rw [hT];simp only [ba hg,gx hg];rfl
  rw [xQ]
  cases hl:qL GR AL rt ⟨y0,y1,y2,y3,y4,y5,y6,y7,y8⟩
  case' false=>
   rw [hl]at hr
   simp only [Bool.false_eq_true,if_false]at hr
   cbv
   cases h2:g .q .geq y2 0
   case' false=>
    have h6:v=0:=by
     rw [iP hg]at h2
     have:=of_decide_eq_false h2
     rw [hr,if_neg (by omega)]
    cbv
    obtain⟨E1,hL⟩:=nmE eO
    have hh:E1=vw aj ((d++[v])++List.replicate (FR.length-(d.length+1)) 0):=by
     rw [hL,i1,<-hp,h6]
     congr 1
     rw [xq,List.replicate_succ,xu]
     simp
    rw [<-hL]
    cbv
   case' true=>
    cbv
    have xL:0<=y2:=by rw [iP hg]at h2;exact of_decide_eq_true h2
    (first|refine aZ hg (er ⟨y0,y1,y2,y3,y4,y5,y6,y7,y8⟩) rfl (fun Q1 xy=> ?_)|refine aK hg (er ⟨y0,y1,y2,y3,y4,y5,y6,y7,y8⟩) rfl (fun Q1 xy=> ?_));cbv
    have xR:g .q .gtr (g .w .add .i64 (g .w .mul .i64 y0 AL) (g .w .mul .i64 rt w)) (g .w .mul .i64 Q1 AL)=decide (wrap64 (wW ⟨y0,y1,y2,y3,y4,y5,y6,y7,y8⟩*AL)<tgt GR AL rt ⟨y0,y1,y2,y3,y4,y5,y6,y7,y8⟩):=by rw [hT];simp only [di hg,gx hg,xy]
    rw [xR]
    by_cases h3:wrap64 (wW ⟨y0,y1,y2,y3,y4,y5,y6,y7,y8⟩*AL)<tgt GR AL rt ⟨y0,y1,y2,y3,y4,y5,y6,y7,y8⟩
    case' pos=>
     rw [zqu h3]
     have h6:v=wrap64 (wrap64 (wW ⟨y0,y1,y2,y3,y4,y5,y6,y7,y8⟩*AL)-tgt GR AL rt ⟨y0,y1,y2,y3,y4,y5,y6,y7,y8⟩):=by rw [hr,if_pos ⟨xL,h3⟩]
     cbv
     (first|refine aZ hg (er ⟨y0,y1,y2,y3,y4,y5,y6,y7,y8⟩) rfl (fun Q2 xz=> ?_)|refine aK hg (er ⟨y0,y1,y2,y3,y4,y5,y6,y7,y8⟩) rfl (fun Q2 xz=> ?_));cbv
     refine goY hg z0 hK fun j hj h5=> ?_
     cbv
     refine goN hg ⟨_,by rw [hj,i1];exact aY hS,rfl⟩ ?_
     cbv
     generalize hG1:g .st _ _ _=E1
     have hh:E1=vw aj ((d++[v])++List.replicate (FR.length-(d.length+1)) 0):=by
      rw [<-hG1,jv hg,hj,show g .w .sub .i64 (g .w .mul .i64 Q2 AL) (g .w .add .i64 (g .w .mul .i64 y0 AL) (g .w .mul .i64 rt w))=v by rw [hT,h6,xz];simp only [bZ hg,gx hg]]
      have:=iW aj (d++List.replicate (FR.length-d.length) 0) z.toNat v
      rw [<-hp,this,i1]
      rfl
    case' neg=>
     rw [zqt h3]
     have h6:v=0:=by rw [hr,if_neg (fun h=>h3 h.2)]
     cbv
     obtain⟨E1,hL⟩:=nmE eO
     have hh:E1=vw aj ((d++[v])++List.replicate (FR.length-(d.length+1)) 0):=by
      rw [hL,i1,<-hp,h6]
      congr 1
      rw [xq,List.replicate_succ,xu]
      simp
     rw [<-hL]
     cbv
  case' true=>
   rw [hl]at hr
   simp only [if_true]at hr
   cbv
   refine goY hg z0 hK fun j hj h5=> ?_
   cbv
   refine goN hg ⟨_,by rw [hj,i1];exact aY hS,rfl⟩ ?_
   cbv
   generalize hG1:g .st _ _ _=E1
   have hh:E1=vw aj ((d++[v])++List.replicate (FR.length-(d.length+1)) 0):=by
    rw [<-hG1,jv hg,hj,show g .w .sub .i64 (g .w .mul .i64 y1 AL) (g .w .add .i64 (g .w .mul .i64 y0 AL) (g .w .mul .i64 rt w))=v by rw [hT,hr];simp only [bZ hg,gx hg]]
    have:=iW aj (d++List.replicate (FR.length-d.length) 0) z.toNat v
    rw [<-hp,this,i1]
    rfl
  all_goals
   have xJ:=pmV hh
   have hY:E1=vw aj ((d++[v])++List.replicate (FR.length-(d++[v]).length) 0):=by rw [hh];simp
   refine goY hg z0 (by rw [hh,aR];simp only [zqe,zpw,zqm];omega) fun j1 xT xU=> ?_
   cbv
   refine⟨_,by rw [xT,hh];exact aY xG,?_⟩
   cbv
   cases hb:b
   ·cbv
    refine goY hg z0 (by rw [hh,aR];simp only [zqe,zpw,zqm];omega) fun j2 hd hE=> ?_
    cbv
    refine⟨_,by rw [hd,hh];exact aY xG,?_⟩
    cbv
    rw [e1,bB hg,aG hg]
    exact hB ((⟨d++[v],wrap64 (s+v),(v !=0)⟩,E1)) _ _ ⟨(by rw [hb]at hgo;exact hgo),⟨hY,xH⟩⟩ (Wk.weak (wkG [some 0,some 1,some 2,some 3,some 4] zr9 ⟨wqB rfl ⟨zr7,zpt⟩,wqE rfl pR,wqE rfl pZ,wqE rfl pW,wqE rfl xJ,zpt⟩))
   ·cbv
    rw [e1,aG hg]
    exact hB ((⟨d++[v],wrap64 (s+v),true⟩,E1)) _ _ ⟨(by rw [hb]at hgo;exact hgo),⟨hY,xH⟩⟩ (Wk.weak (wkG [some 0,some 1,some 2,some 3,some 4] zr9 ⟨wqB rfl ⟨zr7,zpt⟩,wqE rfl pR,wqE rfl pZ,wqE rfl pW,wqE rfl xJ,zpt⟩))
 obtain⟨⟨d,s,b⟩,eO⟩:=s
 obtain⟨i1,i2⟩:=hi
 dsimp only at i1 i2 h0
 rw [xB]at h0
 simp only [S5.go,S5.mk.injEq]at h0
 obtain⟨h2,h3,h4⟩:=h0
 obtain rfl:hq=d:=h2.symm
 obtain rfl:SM=s:=h3.symm
 obtain rfl:SB=b:=h4.symm
 have xf:eO=vw aj hq:=by rw [i1,xO,Nat.sub_self];simp
 have pO:=pmV xf
 have x0:(shr rt WS).length=FR.length:=by rw [hQ,ha];exact X.shr_len hX hf rt
 have cs:=nF rt WS (by omega)
 obtain⟨SH,xg⟩:=nmE (shr rt WS)
 obtain⟨ES,h7⟩:=nmE (vw aj SH)
 have xv:=imV h7
 have hH:az ES=true:=fu xv
 rw [<-xg,<-b1,<-h7]at cs
 rw [<-xg]at x0
 obtain⟨q3,h8⟩:=nmE (FR.zip (hq.zip SH))
 have xi:eP=q3.map fun t=>lc (aj t.1):=by
  rw [b2,h8,vw]
  conv=>lhs;rw [<-List.map_fst_zip (l₁:=FR) (l₂:=hq.zip SH) (by rw [zqB];omega)]
  rw [List.map_map];rfl
 have xr:q3.length<=1048576:=by rw [h8,zqB];omega
 obtain⟨R3,xC⟩:=nmE (S3.mk (qj (X.setS fr rt) sz) (px ((X.setS fr rt).map (·.1)) fr))
 have xN:S3.go ⟨sz,fr⟩ (q3.filterMap (Ju X SB SM))=R3:=by rw [xC,X.setS_eq,<-ha,<-hD,<-hQ,<-xg,<-xD,<-xE,<-h8];rfl
 cbv;rw [he];cbv
 first|(refine bI hg cs (ah (aq rfl) (ah (aX (ab:=⟨_,_,eW⟩) rfl xI xw) (ay))) xv ?_;cbv)|(refine bS hg cs (ah (aq rfl) (ah (aX (ab:=⟨_,_,eW⟩) rfl xI xw) (ay))) xv ?_;cbv)
 refine aV hg bn (by kernel_rfl) eP (fun t=>lc (aj t.1)) q3 xi xr (fun z(s:S3×LLA×LLA)=>[(0,.p 0),(4,.v eP),(8,.o 3),(9,.i (SM)),(10,.t (abl (SB))),(14,.o 4),(15,.i (z))]) (fun z(s:S3×LLA×LLA)=>[.bx 304 7 [.view V,.J X.gap,.J X.inner,.B GR,.own 1,.own 2,.J p1],.rw ⟨4,1,s.2.2⟩,.rw ⟨3,1,s.2.1⟩,.rw ⟨3,1,eO⟩,.rw ⟨3,1,ES⟩]) (fun z(s:S3×LLA×LLA)=>s.2.1=vw aj s.1.s/\s.2.2=vw mD s.1.f/\s.1.s.length=X.xs.length/\s.1.f.length=X.xs.length) (fun(s:S3×LLA×LLA) rest=>S3.go s.1 (rest.filterMap (Ju X SB SM))) (R3) (⟨sz,fr⟩,Z,R) xN ⟨hZ,hR,hs,hf⟩ (Wk.weak (wkG [some 0,some 1,some 2,some 4,some 5] zr7 ⟨wqB rfl ⟨zr7,zpt⟩,wqE rfl pR,wqE rfl pZ,wqE rfl pO,wqE rfl hH,zpt⟩)) (fun z s B hz h0 hi he=> ?_) (fun z s x rest B z0 z1 z2 hx hy h0 hi hc e1 hB=> ?_)
 rotate_left
 ·obtain⟨⟨q,u⟩,eZ,eR⟩:=s
  obtain⟨k1,k2,k3,k4⟩:=hi
  dsimp only at k1 k2 k3 k4 h0
  obtain⟨x,o,sh⟩:=x
  have hu:=hx
  rw [h8,List.getElem?_zip_eq_some,List.getElem?_zip_eq_some]at hu
  obtain⟨q1,q2,q4⟩:=hu
  have x2:z.toNat<FR.length:=(zqb.1 q1).1
  have hG:x∈fre 0 fr:=ha▸zqd q1
  have hU:=ic fr 0 (zpc 0) x hG
  have ho:=hU.1
  have hC:eP[z.toNat]? =some (lc (aj x)):=by rw [b2];exact aY q1
  have hA:eO[z.toNat]? =some (lc (aj o)):=by rw [xf];exact aY q2
  have xd:ES[z.toNat]? =some (lc (aj sh)):=by rw [h7];exact aY q4
  have hK:z<aJ eO:=by rw [xf,aR];omega
  have x3:z<aJ ES:=by rw [h7,aR];omega
  obtain⟨y,hJ⟩:=nmE (itA X.xs x)
  have hP:V[x.toNat]? =some (lc (af.c y)):=by rw [hN,hJ];exact aY (pJ hU.1 (by rw [<-hf];omega))
  have hW:x<aJ eR:=by rw [k2,aR,k4,<-hf];omega
  have xj:x<aJ eZ:=by rw [k1,aR,k3,<-hf];omega
  have xl:x.toNat<u.length:=by rw [k4,<-hf];omega
  have xk:x.toNat<q.length:=by rw [k3,<-hf];omega
  have sR:eR.set x.toNat [.B true]=vw mD (u.set x.toNat true):=by rw [iW,k2];rfl
  have sZ:∀v:Int,eZ.set x.toNat [.J v]=vw aj (q.set x.toNat v):=fun v=>by rw [iW,k1];rfl
  have pq:=pmV k1
  have pu:=pmV k2
  have ht:Ju X SB SM (x,o,sh)=if SB=false then some (x,cl (wrap64 (y.base+sh)))else if 0<o/\0<=SM then some (x,y.least)else if o<0/\SM<=0 then some (x,wW y)else none:=by rw [hJ];rfl
  obtain⟨y0,y1,y2,y3,y4,y5,y6,y7,y8⟩:=y
  dsimp only at ht
  cbv
  rw [hc]
  cbv
  refine goX hg _ z0 hC rfl ?_
  cbv
  cases hSBc:SB
  ·cbv
   refine goX hg _ ho hP rfl ?_
   cbv
   refine goY hg z0 x3 fun j3 xm xo=> ?_
   cbv
   refine⟨_,by rw [xm];exact xd,?_⟩
   cbv
   (first|refine aZ hg (aI _) rfl (fun Q0 hI=> ?_)|refine aK hg (aI _) rfl (fun Q0 hI=> ?_));cbv
   rw [aG hg]at hI
   refine goY hg ho xj fun j2 hd hE=> ?_
   cbv
   refine goN hg ⟨_,by rw [hd,k1];exact aY (zqc xk),rfl⟩ ?_
   cbv
   refine goY hg ho hW fun j hj h5=> ?_
   cbv
   refine goN hg ⟨_,by rw [hj,k2];exact aY (zqc xl),rfl⟩ ?_
   cbv
   rw [e1]
   simp only [jv hg]
   subst hj hd
   exact hB ((⟨q.set x.toNat (Q0),u.set x.toNat true⟩,_,_)) _ _ ⟨(by rw [List.filterMap_cons_some (b:=(x,Q0)) (by rw [ht,if_pos hSBc,hI])]at h0;exact h0),⟨sZ _,sR,by simpa using k3,by simpa using k4⟩⟩ (Wk.weak (wkG [some 0,some 1,some 2,some 3,some 4] ⟨rfl,rfl,rfl,rfl,(by rw [hSBc];exact rfl),rfl,rfl,zpt⟩ ⟨wqB rfl ⟨zr7,zpt⟩,wqE rfl (sR.symm▸aC _ _),wqE rfl ((sZ _).symm▸aC _ _),wqE rfl pO,wqE rfl hH,zpt⟩))
  ·rw [if_neg (by rw [hSBc];simp)]at ht
   cbv
   refine goY hg z0 hK fun j3 xm xo=> ?_
   cbv
   refine⟨_,by rw [xm];exact hA,?_⟩
   cbv
   have tg:g .q .gtr o 0=decide (0<o):=by rw [di hg]
   have tl:g .q .lss o 0=decide (o<0):=ba hg _ _
   have tm:g .q .geq SM 0=decide (0<=SM):=by rw [iP hg]
   have tn:g .q .leq SM 0=decide (SM<=0):=iU hg _ _
   by_cases c1:0<o
   ·rw [tg,zqu c1]
    cbv
    by_cases c2:0<=SM
    ·rw [tm,zqu c2]
     cbv
     refine goX hg _ ho hP rfl ?_
     cbv
     refine goY hg ho xj fun j2 hd hE=> ?_
     cbv
     refine goN hg ⟨_,by rw [hd,k1];exact aY (zqc xk),rfl⟩ ?_
     cbv
     refine goY hg ho hW fun j hj h5=> ?_
     cbv
     refine goN hg ⟨_,by rw [hj,k2];exact aY (zqc xl),rfl⟩ ?_
     cbv
     rw [e1]
     simp only [jv hg]
     subst hj hd
     exact hB ((⟨q.set x.toNat (y1),u.set x.toNat true⟩,_,_)) _ _ ⟨(by rw [List.filterMap_cons_some (b:=(x,y1)) (by rw [ht,if_pos ⟨c1,c2⟩])]at h0;exact h0),⟨sZ _,sR,by simpa using k3,by simpa using k4⟩⟩ (Wk.weak (wkG [some 0,some 1,some 2,some 3,some 4] ⟨rfl,rfl,rfl,rfl,(by rw [hSBc];exact rfl),rfl,rfl,zpt⟩ ⟨wqB rfl ⟨zr7,zpt⟩,wqE rfl (sR.symm▸aC _ _),wqE rfl ((sZ _).symm▸aC _ _),wqE rfl pO,wqE rfl hH,zpt⟩))
    ·rw [tm,zqt c2]
     cbv
     refine goY hg z0 hK fun j4 xn xp=> ?_
     cbv
     refine⟨_,by rw [xn];exact hA,?_⟩
     cbv
     rw [tl,zqt (by omega)]
     cbv
     rw [e1]
     exact hB ((⟨q,u⟩,eZ,eR)) _ _ ⟨(by rw [List.filterMap_cons_none (by rw [ht,if_neg (fun h=>c2 h.2),if_neg (by omega)])]at h0;exact h0),⟨k1,k2,k3,k4⟩⟩ (Wk.weak (wkG [some 0,some 1,some 2,some 3,some 4] ⟨rfl,rfl,rfl,rfl,(by rw [hSBc];exact rfl),rfl,rfl,zpt⟩ ⟨wqB rfl ⟨zr7,zpt⟩,wqE rfl pu,wqE rfl pq,wqE rfl pO,wqE rfl hH,zpt⟩))
   ·rw [tg,zqt c1]
    cbv
    refine goY hg z0 hK fun j4 xn xp=> ?_
    cbv
    refine⟨_,by rw [xn];exact hA,?_⟩
    cbv
    by_cases c3:o<0
    ·rw [tl,zqu c3]
     cbv
     by_cases c4:SM<=0
     ·rw [tn,zqu c4]
      cbv
      refine goX hg _ ho hP rfl ?_
      cbv
      (first|refine aZ hg (er ⟨y0,y1,y2,y3,y4,y5,y6,y7,y8⟩) rfl (fun Q0 hI=> ?_)|refine aK hg (er ⟨y0,y1,y2,y3,y4,y5,y6,y7,y8⟩) rfl (fun Q0 hI=> ?_));cbv
      refine goY hg ho xj fun j2 hd hE=> ?_
      cbv
      refine goN hg ⟨_,by rw [hd,k1];exact aY (zqc xk),rfl⟩ ?_
      cbv
      refine goY hg ho hW fun j hj h5=> ?_
      cbv
      refine goN hg ⟨_,by rw [hj,k2];exact aY (zqc xl),rfl⟩ ?_
      cbv
      rw [e1]
      simp only [jv hg]
      subst hj hd
      exact hB ((⟨q.set x.toNat (Q0),u.set x.toNat true⟩,_,_)) _ _ ⟨(by rw [List.filterMap_cons_some (b:=(x,Q0)) (by rw [ht,if_neg (fun h=>c1 h.1),if_pos ⟨c3,c4⟩,hI])]at h0;exact h0),⟨sZ _,sR,by simpa using k3,by simpa using k4⟩⟩ (Wk.weak (wkG [some 0,some 1,some 2,some 3,some 4] ⟨rfl,rfl,rfl,rfl,(by rw [hSBc];exact rfl),rfl,rfl,zpt⟩ ⟨wqB rfl ⟨zr7,zpt⟩,wqE rfl (sR.symm▸aC _ _),wqE rfl ((sZ _).symm▸aC _ _),wqE rfl pO,wqE rfl hH,zpt⟩))
     ·rw [tn,zqt c4]
      cbv
      rw [e1]
      exact hB ((⟨q,u⟩,eZ,eR)) _ _ ⟨(by rw [List.filterMap_cons_none (by rw [ht,if_neg (fun h=>c1 h.1),if_neg (fun h=>c4 h.2)])]at h0;exact h0),⟨k1,k2,k3,k4⟩⟩ (Wk.weak (wkG [some 0,some 1,some 2,some 3,some 4] ⟨rfl,rfl,rfl,rfl,(by rw [hSBc];exact rfl),rfl,rfl,zpt⟩ ⟨wqB rfl ⟨zr7,zpt⟩,wqE rfl pu,wqE rfl pq,wqE rfl pO,wqE rfl hH,zpt⟩))
    ·rw [tl,zqt c3]
     cbv
     rw [e1]
     exact hB ((⟨q,u⟩,eZ,eR)) _ _ ⟨(by rw [List.filterMap_cons_none (by rw [ht,if_neg (fun h=>c1 h.1),if_neg (fun h=>c3 h.1)])]at h0;exact h0),⟨k1,k2,k3,k4⟩⟩ (Wk.weak (wkG [some 0,some 1,some 2,some 3,some 4] ⟨rfl,rfl,rfl,rfl,(by rw [hSBc];exact rfl),rfl,rfl,zpt⟩ ⟨wqB rfl ⟨zr7,zpt⟩,wqE rfl pu,wqE rfl pq,wqE rfl pO,wqE rfl hH,zpt⟩))
 obtain⟨⟨q,u⟩,eZ,eR⟩:=s
 obtain⟨k1,k2,k3,k4⟩:=hi
 dsimp only at k1 k2 k3 k4 h0
 cbv;rw [he];cbv
 have hm:S3.mk q u=R3:=h0
 rw [xC]at hm
 simp only [S3.mk.injEq]at hm
 exact yT hF rfl rfl rfl zr7 (by rw [k2];exact aC _ _) (by rw [k1];exact aC _ _) rfl ⟨_,rfl,p1,q,u,by simp [hn],by rw [k1,k2],by rw [if_neg hn];exact hm.1,by rw [if_neg hn];exact hm.2⟩
def szo(G:Bool)(x:af):Int:=if nx G x then hyp x else x.base
theorem B5(G:Bool):∀(xs:List af),mix xs (xs.map (nx G)) (xs.map hyp)=xs.map (szo G)
 | []=>rfl
 |x::xs=>by simp only [zqA,mix,B5 G xs];rfl
theorem Au{eh:EH}{z:LLA}{p:Int}{t r:Nat}
  (hF:F=li 0 (fun res h'=>∃rows,h'=rows.map .live/\∃(p:Int),res= .tup [.c (.own 0),.c (.J p)]/\rows=[⟨t,1,vw aj D⟩]))
  (h1:nth eh r=some (.rw ⟨t,1,z⟩)) (hz:z=vw aj D):F [.c (.own r),.c (.J p)] eh:=by
 subst hF hz
 exact .inl ⟨.tup [.c (.own 0),.c (.J p)],toH [.rw ⟨t,1,vw aj D⟩],[some r],
  wkG [some r] ⟨zr2,zpt⟩ ⟨⟨_,_,fY h1,rfl,rfl,rfl,.inl ⟨rfl,aC _ _⟩⟩,zpt⟩ (by simp) aB,_,rfl,p,rfl,rfl⟩
theorem w9(xs:List af)(gap inner:Int)(hl:xs.length<=1048576):PC0 332 [.c (.view (vw af.c xs)),ai gap,ai inner] (.t (abl (C6 xs gap inner))):=by
 obtain⟨V,hV⟩:=nmE (vw af.c xs)
 have ha:=lmV hV
 have c1:=jh xs hl
 have c2:=gD xs (xs.map hyp) gap hl (by simpa using hl)
 obtain⟨H,hH⟩:=nmE (vw aj (xs.map hyp))
 have iH:=imV hH
 have kH:=kmV (k:=1) hH fun _=>rfl
 have dH:=dmV hH
 obtain⟨O,hO⟩:=nmE (wrap64 (iv xs (xs.map hyp) gap))
 rw [<-hV,<-hH]at c1 c2
 rw [<-hO]at c2
 rw [<-hV]
 refine aU func332 fun g F hg hF=> ?_
 cbv
 first|(refine bI hg c1 (bv rfl) iH ?_;cbv)|(refine bS hg c1 (bv rfl) iH ?_;cbv)
 first|(refine gz hg c2 (ah (aq rfl) (ah (aX (ab:=⟨_,_,H⟩) rfl kH dH) (ah (aq rfl) (ay)))) rfl ?_;cbv)|(refine fj hg c2 (ah (aq rfl) (ah (aX (ab:=⟨_,_,H⟩) rfl kH dH) (ah (aq rfl) (ay)))) rfl ?_;cbv)
 exact bk hF (by rw [ba hg,C6,hO])
theorem s8(xs:List af)(gap inner:Int)(hl:xs.length<=1048576):bX prog 314 [.c (.view (vw af.c xs)),ai gap,ai inner] fun res hI=>∃(p:Int),res= .tup [.c (.own 0),.c (.J p)]/\hI=[⟨3,1,vw aj (flx xs gap inner)⟩]:=by
 have c1:=jh xs hl
 have c2:=jk xs hl
 have c3:=w9 xs gap inner hl
 have cw:=fun(gr:Bool)(i:Int)(h0:0<=i)(h1:i<xs.length)(c1 c2 c4 c5 c6:AC)=>kI xs gr i h0 h1 c1 c2 c4 c5 c6
 obtain⟨V,hV⟩:=nmE (vw af.c xs)
 have h6:=lmV hV
 obtain⟨Z,hZ⟩:=nmE (vw aj (xs.map hyp))
 have iZ:=imV hZ
 obtain⟨D,hD⟩:=nmE (flx xs gap inner)
 obtain⟨IO,ht⟩:=nmE (eo xs)
 obtain⟨G,hG⟩:=nmE (C6 xs gap inner)
 simp only [<-hV]at c1 c2 c3 cw
 rw [<-hZ]at c1
 rw [<-ht]at c2
 rw [<-hG]at c3
 rw [<-hV,<-hD]
 obtain⟨HL,hk⟩:=nmE (xs.map (nx G))
 obtain⟨SL,hA⟩:=nmE (xs.map (szo G))
 refine aU func314 fun g F hg hF=> ?_
 cbv
 repeat'(first|(refine bz hg c2 rfl (fun R0 hw=> ?_);cases R0<;>cbv))
 ·first|(refine bI hg c1 (bv rfl) iZ ?_;cbv)|(refine bS hg c1 (bv rfl) iZ ?_;cbv)
  exact Au hF rfl (by rw [hZ,hD,flx,if_neg (by rw [<-ht,<-hw];simp)])
 (refine bz hg (cY _ _ _) rfl (fun I1 hs=> ?_));cbv
 cases I1<;>cbv
 ·first|(refine bI hg c1 (bv rfl) iZ ?_;cbv)|(refine bS hg c1 (bv rfl) iZ ?_;cbv)
  exact Au hF rfl (by rw [hZ,hD,flx,if_neg (by rw [inL,<-hs];simp)])
 (refine bz hg (cY _ _ _) rfl (fun I2 hM=> ?_));cbv
 cases I2<;>cbv
 ·first|(refine bI hg c1 (bv rfl) iZ ?_;cbv)|(refine bS hg c1 (bv rfl) iZ ?_;cbv)
  exact Au hF rfl (by rw [hZ,hD,flx,if_neg (by rw [inL,inL,<-hs,<-hM];simp)])
 have hC:(eo xs&&inL gap&&inL inner)=true:=by rw [inL,inL,<-hs,<-hM,<-ht,<-hw];rfl
 first|(refine bz hg c3 rfl (fun R hR=> ?_);cbv)|(refine bd hg c3 rfl (fun R hR=> ?_);cbv)
 obtain rfl:G=R:=hR.symm
 refine aV hg bn (by kernel_rfl) V (fun x=>lc (af.c x)) xs hV hl (fun z(s:Int×(List Bool×List Int)×LLA×LLA)=>[(0,.v V),(8,.p 0),(9,.i (z))]) (fun z(s:Int×(List Bool×List Int)×LLA×LLA)=>[.bx 304 7 [.view V,.J gap,.J inner,.B G,.own 1,.own 2,.J 0],.rw ⟨4,1,s.2.2.1⟩,.rw ⟨3,1,s.2.2.2⟩]) (fun z(s:Int×(List Bool×List Int)×LLA×LLA)=>s.1=z/\s.2.2.1=vw mD s.2.1.1/\s.2.2.2=vw aj s.2.1.2/\(s.2.1.1.length:Int)=z/\(s.2.1.2.length:Int)=z) (fun(s:Int×(List Bool×List Int)×LLA×LLA) rest=>(s.2.1.1++rest.map (nx G),s.2.1.2++rest.map (szo G))) ((HL,SL)) (0,([],[]),[],[]) (by rw [hk,hA];rfl) ⟨rfl,rfl,rfl,rfl,rfl⟩ (Wk.weak (wkG [some 0,none,none] zr3 ⟨wqB rfl ⟨zr7,zpt⟩,⟨_,rfl,rfl⟩,⟨_,rfl,rfl⟩,zpt⟩ (by decide) aB)) (fun z s B hz h0 hi he=> ?_) (fun z s x rest B z0 z1 z2 hx hy h0 hi hc e1 hB=> ?_)
 rotate_left
 ·obtain⟨i,⟨H,S⟩,eH,eS⟩:=s
  obtain⟨k1,k2,k3,k4,k5⟩:=hi
  dsimp only at k1 k2 k3 k4 k5 h0
  subst k1
  have hT:aJ V=(xs.length:Int):=by rw [hV,aR]
  have hH:i<(xs.length:Int):=hT▸z1
  have pH:=pmV k2
  have pS:=pmV k3
  have lH:eH.length<=1048576:=by rw [k2,ar];omega
  have lS:eS.length<=1048576:=by rw [k3,ar];omega
  have kH:=kmV (k:=1) k2 fun _=>rfl
  have dH:=dmV k2
  have kS:=kmV (k:=1) k3 fun _=>rfl
  have dS:=dmV k3
  have hJ:=fun c1 c2 c4 c5 c6=>cw G i z0 hH c1 c2 c4 c5 c6
  have h3:itA xs i=x:=by unfold itA;rw [hx];rfl
  obtain⟨Q0,hu⟩:=nmE (wgt G (itA xs i))
  simp only [<-hu]at hJ
  rw [h3]at hu
  obtain⟨y0,y1,y2,y3,y4,y5,y6,y7,y8⟩:=x
  obtain⟨HV,hh⟩:=nmE (nx G ⟨y0,y1,y2,y3,y4,y5,y6,y7,y8⟩)
  obtain⟨SV,hj⟩:=nmE (szo G ⟨y0,y1,y2,y3,y4,y5,y6,y7,y8⟩)
  have hb:HV=if wgt G ⟨y0,y1,y2,y3,y4,y5,y6,y7,y8⟩=0 then true else if G then decide (hyp ⟨y0,y1,y2,y3,y4,y5,y6,y7,y8⟩<y0)else decide (y0<hyp ⟨y0,y1,y2,y3,y4,y5,y6,y7,y8⟩):=hh
  have hd:SV=if HV then hyp ⟨y0,y1,y2,y3,y4,y5,y6,y7,y8⟩else y0:=by rw [hj,szo,<-hh]
  cbv
  rw [hc]
  cbv
  refine goX hg _ z0 hy rfl ?_
  cbv
  (refine aZ hg (pt ⟨y0,y1,y2,y3,y4,y5,y6,y7,y8⟩) rfl (fun HY hL=> ?_));cbv
  refine goX hg _ z0 hy rfl ?_
  cbv
  refine gz hg (hJ _ _ (.view eH) (.view eS) _) (dx (zW rfl ⟨aq rfl,aq rfl,aq rfl,aq rfl,aX (ab:=⟨_,_,eH⟩) rfl kH dH,aX (ab:=⟨_,_,eS⟩) rfl kS dS,aq rfl,zpt⟩) (ah (aq rfl) ay)) rfl ?_
  cbv
  rw [<-hL,<-hu]at hb
  rw [<-hL]at hd
  have t0:g .q .eql Q0 0=decide (Q0=0):=by rw [bg hg];rfl
  by_cases hq:Q0=0
  ·rw [t0,zqu hq]
   rw [if_pos hq]at hb
   rw [hb,if_pos rfl]at hd
   cbv
   have s1:eH++[[.B (true)]]=vw mD (H++[HV]):=by rw [bi,k2,hb];rfl
   have s2:eS++[[.J HY]]=vw aj (S++[SV]):=by rw [bi,k3,hd];rfl
   refine dh hg rfl (by decide) lH ?_
   cbv
   refine dh hg rfl (by decide) lS ?_
   cbv
   rw [e1]
   simp only [gd hg]
   exact hB ((i+1,(H++[HV],S++[SV]),_,_)) _ _ ⟨(by simpa [hh,hj]using h0),⟨rfl,s1,s2,by simp;omega,by simp;omega⟩⟩ (Wk.weak (wkG [some _,some _,some _] zr3 ⟨wqB rfl ⟨zr7,zpt⟩,wqE rfl (s1.symm▸aC _ _),wqE rfl (s2.symm▸aC _ _),zpt⟩ (by decide) aB))
  ·rw [t0,zqt hq]
   rw [if_neg hq]at hb
   cases hGc:G
   ·rw [hGc]at hb
    cbv
    cases hqq:g .q .lss y0 HY
    ·have ha:HV=false:=by rw [hb];rw [ba hg]at hqq;exact hqq
     rw [ha]at hd
     cbv
     have s1:eH++[[.B (false)]]=vw mD (H++[HV]):=by rw [bi,k2,ha];rfl
     have s2:eS++[[.J y0]]=vw aj (S++[SV]):=by rw [bi,k3,hd];rfl
     refine dh hg rfl (by decide) lH ?_
     cbv
     refine dh hg rfl (by decide) lS ?_
     cbv
     rw [e1]
     simp only [gd hg]
     exact hB ((i+1,(H++[HV],S++[SV]),_,_)) _ _ ⟨(by simpa [hh,hj]using h0),⟨rfl,s1,s2,by simp;omega,by simp;omega⟩⟩ (Wk.weak (wkG [some _,some _,some _] zr3 ⟨wqB rfl ⟨⟨rfl,rfl,rfl,(by rw [hGc];exact rfl),rfl,rfl,rfl,zpt⟩,zpt⟩,wqE rfl (s1.symm▸aC _ _),wqE rfl (s2.symm▸aC _ _),zpt⟩ (by decide) aB))
    ·have ha:HV=true:=by rw [hb];rw [ba hg]at hqq;exact hqq
     rw [ha]at hd
     cbv
     have s1:eH++[[.B (true)]]=vw mD (H++[HV]):=by rw [bi,k2,ha];rfl
     have s2:eS++[[.J HY]]=vw aj (S++[SV]):=by rw [bi,k3,hd];rfl
     refine dh hg rfl (by decide) lH ?_
     cbv
     refine dh hg rfl (by decide) lS ?_
     cbv
     rw [e1]
     simp only [gd hg]
     exact hB ((i+1,(H++[HV],S++[SV]),_,_)) _ _ ⟨(by simpa [hh,hj]using h0),⟨rfl,s1,s2,by simp;omega,by simp;omega⟩⟩ (Wk.weak (wkG [some _,some _,some _] zr3 ⟨wqB rfl ⟨⟨rfl,rfl,rfl,(by rw [hGc];exact rfl),rfl,rfl,rfl,zpt⟩,zpt⟩,wqE rfl (s1.symm▸aC _ _),wqE rfl (s2.symm▸aC _ _),zpt⟩ (by decide) aB))
   ·rw [hGc]at hb
    cbv
    cases hqq:g .q .gtr y0 HY
    ·have ha:HV=false:=by rw [hb];rw [di hg]at hqq;exact hqq
     rw [ha]at hd
     cbv
     have s1:eH++[[.B (false)]]=vw mD (H++[HV]):=by rw [bi,k2,ha];rfl
     have s2:eS++[[.J y0]]=vw aj (S++[SV]):=by rw [bi,k3,hd];rfl
     refine dh hg rfl (by decide) lH ?_
     cbv
     refine dh hg rfl (by decide) lS ?_
     cbv
     rw [e1]
     simp only [gd hg]
     exact hB ((i+1,(H++[HV],S++[SV]),_,_)) _ _ ⟨(by simpa [hh,hj]using h0),⟨rfl,s1,s2,by simp;omega,by simp;omega⟩⟩ (Wk.weak (wkG [some _,some _,some _] zr3 ⟨wqB rfl ⟨⟨rfl,rfl,rfl,(by rw [hGc];exact rfl),rfl,rfl,rfl,zpt⟩,zpt⟩,wqE rfl (s1.symm▸aC _ _),wqE rfl (s2.symm▸aC _ _),zpt⟩ (by decide) aB))
    ·have ha:HV=true:=by rw [hb];rw [di hg]at hqq;exact hqq
     rw [ha]at hd
     cbv
     have s1:eH++[[.B (true)]]=vw mD (H++[HV]):=by rw [bi,k2,ha];rfl
     have s2:eS++[[.J HY]]=vw aj (S++[SV]):=by rw [bi,k3,hd];rfl
     refine dh hg rfl (by decide) lH ?_
     cbv
     refine dh hg rfl (by decide) lS ?_
     cbv
     rw [e1]
     simp only [gd hg]
     exact hB ((i+1,(H++[HV],S++[SV]),_,_)) _ _ ⟨(by simpa [hh,hj]using h0),⟨rfl,s1,s2,by simp;omega,by simp;omega⟩⟩ (Wk.weak (wkG [some _,some _,some _] zr3 ⟨wqB rfl ⟨⟨rfl,rfl,rfl,(by rw [hGc];exact rfl),rfl,rfl,rfl,zpt⟩,zpt⟩,wqE rfl (s1.symm▸aC _ _),wqE rfl (s2.symm▸aC _ _),zpt⟩ (by decide) aB))
 ·obtain⟨i,⟨H,S⟩,eH,eS⟩:=s
  obtain⟨k1,k2,k3,k4,k5⟩:=hi
  dsimp only at k1 k2 k3 k4 k5 h0
  simp only [List.map_nil,zpr,Prod.mk.injEq]at h0
  obtain rfl:HL=H:=h0.1.symm
  obtain rfl:SL=S:=h0.2.symm
  have pH:=pmV k2
  have pS:=pmV k3
  have hp:HL.length=xs.length:=by rw [hk,zql]
  have hS:SL.length=xs.length:=by rw [hA,zql]
  obtain⟨X,hX⟩:=nmE (Fx.of xs gap inner)
  have hm:eo X.xs=true:=by
   rw [hX]
   simp only [zqs]at hC
   exact hC.1.1
  have hE:=(fg hm).2
  have hf:X.xs=xs:=by rw [hX];rfl
  obtain⟨r,hr1,h7⟩:=Fx.run_some hm 13 (xs.map hyp) HL (by rw [hf];exact hp) (by have:=kr HL 0;rw [hf]at hE;omega)
  have hQ:D=r:=by rw [hD,flx,if_pos hC,<-hG,<-hk,<-hX,hr1];rfl
  have h4:X.runS 13 SL HL=some r:=by
   have:=Fx.run_eq hm 13 (xs.map hyp) HL (by rw [hf];exact hp) (by rw [hf,zql])
   rw [hr1,hf,hk,B5,<-hA,<-hk]at this
   exact this
  cbv;rw [he];cbv
  refine CO hg bn (by kernel_rfl) (fun s:(List Int×List Bool×Int)×LLA×LLA=>[(8,.p 0)]) (fun s=>[.bx 304 7 [.view V,.J gap,.J inner,.B G,.own 1,.own 2,.J s.1.2.2],.rw ⟨4,1,s.2.2⟩,.rw ⟨3,1,s.2.1⟩])
   (fun s=>s.2.1=vw aj s.1.1/\s.2.2=vw mD s.1.2.1/\s.1.1.length=xs.length/\s.1.2.1.length=xs.length) (fun k s=>X.runS k s.1.1 s.1.2.1) r 13 ((SL,HL,0),eS,eH) h4 ⟨k3,k2,hS,hp⟩ (Wk.weak (wkG [some 0,some 1,some 2] zr1 ⟨wqB rfl ⟨zr7,zpt⟩,wqE rfl pH,wqE rfl pS,zpt⟩ (by decide) aB)) (fun s k B h0 hi hB=> ?_)
  obtain⟨⟨sz,fr,p⟩,eZ,eR⟩:=s
  obtain⟨k1,k2,k3,k4⟩:=hi
  dsimp only at k1 k2 k3 k4 h0
  cases k with
  |zero=>cases h0
  |succ k=>
   rw [Fx.runS]at h0
   have cp:=s5 X hm sz fr (by rw [hf];exact k3) (by rw [hf];exact k4) p
   have qZ:=pmV k1
   have qR:=pmV k2
   obtain⟨rt,h5⟩:=nmE (wM X.xs sz X.gap X.inner X.gr)
   have hU:X.gap=gap:=by rw [hX];rfl
   have hW:X.inner=inner:=by rw [hX];rfl
   have hY:X.gr=G:=by rw [hX,hG];rfl
   rw [<-h5]at cp h0
   simp only [Fx.bx,hf,hU,hW,hY,<-hV,<-k1,<-k2]at cp
   cbv
   refine Du hg [0,1,2] cp (by decide) (fun r hr=>by simp only [zph,List.not_mem_nil,or_false]at hr;simp only [zqx,List.length_nil];omega) ⟨⟨_,_,rfl,rfl,rfl,rfl,.inr ⟨zr7,zpt⟩⟩,⟨_,_,rfl,rfl,rfl,rfl,.inl ⟨rfl,qR⟩⟩,⟨_,_,rfl,rfl,rfl,rfl,.inl ⟨rfl,qZ⟩⟩,zpt⟩ zr1 fun res eh hq=> ?_
   obtain⟨p',hP,hK,rfl,rfl,h1,h2⟩:=hq
   obtain⟨Z',ho⟩:=nmE (vw aj hP)
   obtain⟨R',hv⟩:=nmE (vw mD hK)
   have hO:=pmV ho
   have hN:=pmV hv
   rw [<-ho,<-hv]
   simp only [dl,EE.mv,vA hO,vA hN]
   by_cases hn:fre 0 fr=[]
   ·rw [if_pos hn]at h0 h1 h2
    rw [show decide (fre 0 fr≠[])=false by simp [hn]]
    cbv
    subst h1 h2
    exact Au hF rfl (by rw [ho,hQ];cases h0;rfl)
   ·rw [if_neg hn]at h0 h1 h2
    rw [show decide (fre 0 fr≠[])=true by simp [hn]]
    cbv
    refine hB k ((hP,hK,p'),Z',R') _ _ (Nat.lt_succ_self k) (by rw [h1,h2];exact h0) ⟨ho,hv,by rw [h1,nP];exact k3,by rw [h2,nQ];exact k4⟩ (Wk.weak (wkG [some 0,some 1,some 2] zr1 ⟨wqB rfl ⟨zr7,zpt⟩,wqE rfl (hN),wqE rfl (hO),zpt⟩ (by decide) aB))
theorem ri(xs:List af)(gap inner:Int)(hl:xs.length<=1048576):bX prog 296 [.c (.view (vw af.c xs)),ai gap,ai inner] fun res ha=>res= .o 0/\ha=[⟨3,1,vw aj (flx xs gap inner)⟩]:=by
 have cf:=s8 xs gap inner hl
 obtain⟨V,hV⟩:=nmE (vw af.c xs)
 obtain⟨D,hD⟩:=nmE (vw aj (flx xs gap inner))
 have pD:=pmV hD
 rw [<-hV,<-hD]at cf
 rw [<-hV,<-hD]
 refine aU func296 fun g F hg hF=> ?_
 cbv
 refine sE hg (fM cf rfl fun res ha hq=> ?_)
 obtain⟨p,rfl,rfl⟩:=hq
 refine⟨[.rw ⟨3,1,D⟩],by simp only [zqA,List.map_nil,fX (ab:=⟨3,1,D⟩) pD];rfl,?_⟩
 cbv
 exact bH hF rfl pD
theorem wT(a:Int):wrap64 (wrap64 a)=wrap64 a:=by unfold wrap64;omega
theorem dN(a b:Int):(a !=b)=decide (¬a=b):=by by_cases h:a=b<;>simp [h]
def elZ(l:List Int)(i:Int):Int:=if 0<=i then l[i.toNat]?.getD 0 else 0
def evm(many:Int):Nat:=if many<=64 then many.toNat else 0
def evn(n many:Int):List Int:=shr n (List.replicate (evm many) 1)
theorem CI(m:Nat)(h:m<=64):BU (List.replicate m 1)=true:=by
 simp only [BU,zqs,zqp,zqf,zpw]
 exact⟨fun w hw=>by rw [List.eq_of_mem_replicate hw];decide,by omega⟩
theorem pU(many:Int):evm many<=64:=by unfold evm;split<;>omega
theorem oD{many:Int}(h0:0<=many)(h1:many<=64):(evm many:Int)=many:=by unfold evm;rw [if_pos h1];omega
theorem ig(n many:Int):(evn n many).length=evm many:=by rw [evn,shr,if_pos (CI _ (pU many)),yp,zpw]
variable {l:List Int}
theorem oG{i:Nat}{x:Int}(h:l[i]? =some x):elZ l (i:Int)=x:=by
 unfold elZ;rw [if_pos (by omega),Int.toNat_natCast,h];rfl
theorem Di{i:Int}(h:i<0\/(l.length:Int)<=i):elZ l i=0:=by
 unfold elZ
 split
 ·rw [zqz (by omega)];rfl
 ·rfl
theorem ld{i:Int}(h0:0<=i)(h1:i<(l.length:Int)):l[i.toNat]? =some (elZ l i):=by
 unfold elZ
 rw [if_pos h0,zqc (by omega)];rfl
theorem Dj(i:Int):elZ [] i=0:=by unfold elZ;split<;>rfl
def led(free many js:Int):Int:=
 if rng many 1 12=false then 0 else if js=2 then free else if js=3 then fdv free 2
 else if js=5 then(if free<0 then fdv free 2 else elZ (evn free (2*many)) 0)
 else if js=6 then(if free<0 then fdv free 2 else elZ (evn free (many+1)) 0)else 0
def btw(free many js i:Int):Int:=
 if free<0 then 0 else if js=4 then elZ (evn free (many-1)) i
 else if js=5 then wrap64 (elZ (evn free (2*many)) (2*i+1)+elZ (evn free (2*many)) (2*i+2))
 else if js=6 then elZ (evn free (many+1)) (i+1)else 0
def auN:List af->Int
 | []=>0
 |x::r=>((if x.autoBefore then 1 else 0)+(if x.autoBehind then 1 else 0))+auN r
theorem AP:∀xs:List af,0<=auN xs/\auN xs<=2*xs.length
 | []=>by simp [auN]
 |x::r=>by
  obtain⟨h1,h2⟩:=AP r
  simp only [auN,zqx]
  split<;>split<;>omega
def auT(ex:List Int)(k:Int)(b:Bool):Int:=if b then elZ ex k else 0
def auK(k:Int)(b:Bool):Int:=if b then k+1 else k
def JM(ex:List Int)(a k:Int)(x:af):Int:=wrap64 (a+wrap64 (x.before+auT ex k x.autoBefore))
def Kc(ex:List Int)(sp:Int->Int)(gap many i a k:Int)(x:af)(s:Int):Int:=
 let q:=wrap64 (JM ex a k x+wrap64 (wrap64 (s+x.behind)+auT ex (auK k x.autoBefore) x.autoBehind))
 if i+1<many then wrap64 (wrap64 (q+gap)+sp i)else q
def ye(ex:List Int)(sp:Int->Int)(gap many:Int):Int->Int->Int->List (af×Int)->List Int
 |_,_,_,[]=>[]
 |i,a,k,(x,s)::r=>JM ex a k x::ye ex sp gap many (i+1) (Kc ex sp gap many i a k x s) (auK (auK k x.autoBefore) x.autoBehind) r
def al5(xs:List af)(ss:List Int)(gap inner:Int):Bool:=ss.all (fun s=>rng s 0 1048576)&&(eo xs&&(decide (ss.length=xs.length)&&(rng gap 0 1048576&&rng inner 0 1048576)))
def alF(xs:List af)(ss:List Int)(gap inner:Int):Int:=sg (wrap64 (inner-wrap64 (iv xs ss gap)))
def alE(xs:List af)(ss:List Int)(gap inner:Int):List Int:=if 0<auN xs/\0<alF xs ss gap inner then evn (alF xs ss gap inner) (auN xs)else []
def alS(xs:List af)(free js i:Int):Int:=if auN xs=0 then btw free (xs.length:Int) js i else 0
def al0(xs:List af)(free js:Int):Int:=if auN xs=0 then led free (xs.length:Int) js else 0
def alg(xs:List af)(ss:List Int)(gap inner js:Int):List Int:=
 if al5 xs ss gap inner=false then []else ye (alE xs ss gap inner) (alS xs (alF xs ss gap inner) js) gap (xs.length:Int) 0 (al0 xs (alF xs ss gap inner) js) 0 (xs.zip ss)
def Bb:Int->List Int->Int
 |a,[]=>a
 |a,c::r=>Bb (wrap64 (a+sg c)) r
def crt(cs:List Int)(gap:Int):Int:=if cs=[]then 0 else wrap64 (Bb 0 cs+wrap64 (gap*((cs.length:Int)-1)))
def acr(cs:List Int)(gap inner:Int):Bool:=cs.all (fun c=>rng c 0 1048576)&&(decide ((cs.length:Int)<=12)&&(rng gap 0 1048576&&rng inner 0 1048576))
def xY(cs:List Int)(gap inner ct:Int):List Int:=if acr cs gap inner=true/\ct=1/\0<wrap64 (inner-crt cs gap)then(cs.zip (evn (wrap64 (inner-crt cs gap)) (cs.length:Int))).map (fun p=>wrap64 (p.1+p.2))else cs
def plG(sp:Int->Int)(gap:Int):Int->Int->List Int->List Int
 |_,_,[]=>[]
 |i,a,c::r=>a::plG sp gap (i+1) (wrap64 (a+wrap64 (wrap64 (c+gap)+sp i))) r
def pll(cs:List Int)(gap inner ct:Int):List Int:=
 if acr cs gap inner=false then []else plG (btw (sg (wrap64 (inner-crt cs gap))) (cs.length:Int) (wN ct)) gap 0 (led (sg (wrap64 (inner-crt cs gap))) (cs.length:Int) (wN ct)) cs
def DL:Int->Bool->List aw->Int
 |m,_,[]=>m
 |m,f,x::r=>if onB x=true/\(f=false\/m<wrap64 (x.before+x.base))then DL (wrap64 (x.before+x.base)) true r else DL m f r
def bas(xs:List aw):Int:=DL 0 false xs
def mx2(a b:Int):Int:=if a<b then b else a
def J6(b:Int)(x:aw):Int:=if onB x then wrap64 (wrap64 (wrap64 (b+x.size)+x.behind)-x.base)else wrap64 (wrap64 (x.size+x.before)+x.behind)
def Gc(b:Int):Int->List aw->Int
 |m,[]=>m
 |m,x::r=>Gc b (mx2 m (J6 b x)) r
def cro(xs:List aw):Int:=if(decide ((xs.length:Int)<=12)&&xs.all vd)=false then 0 else cl (Gc (bas xs) 0 xs)
def cr2:Int->Int->Bool->List aw->Int×Int×Bool
 |n,b,s,[]=>(n,b,s)
 |n,b,s,x::r=>if onB x then cr2 n (if s=false\/b<wrap64 (wrap64 (x.size+x.behind)-x.base)then wrap64 (wrap64 (x.size+x.behind)-x.base)else b) true r
  else cr2 (if n<wrap64 (wrap64 (x.size+x.before)+x.behind)then wrap64 (wrap64 (x.size+x.before)+x.behind)else n) b s r
theorem siB{x:aw}(h:vd x=true):(0<=x.size/\x.size<=1048576)/\(0<=x.base/\x.base<=1048576)/\(-1048576<=x.before/\x.before<=1048576)/\ -1048576<=x.behind/\x.behind<=1048576:=by
 simp only [vd,rng,zqs,zqp]at h
 omega
theorem ze:∀(xs:List aw)(m:Int)(f:Bool),xs.all vd=true-> -2097152<=m->m<=2097152-> -2097152<=DL m f xs/\DL m f xs<=2097152
 | [],m,f,_,h1,h2=>⟨h1,h2⟩
 |x::r,m,f,h,h1,h2=>by
  simp only [zqD,zqs]at h
  have hb:=siB h.1
  have e:=ao (x.before+x.base) (by omega)
  simp only [DL]
  split
  ·exact ze r _ true h.2 (by omega) (by omega)
  ·exact ze r m f h.2 h1 h2
theorem Dn(b:Int)(hb: -2097152<=b/\b<=2097152):∀(xs:List aw)(n be:Int)(s:Bool),xs.all vd=true-> -4194304<=be->be<=4194304->
  (if(cr2 n be s xs).2.2=true/\(cr2 n be s xs).1<wrap64 (b+(cr2 n be s xs).2.1)then wrap64 (b+(cr2 n be s xs).2.1)else(cr2 n be s xs).1)=Gc b (if s=true/\n<wrap64 (b+be)then wrap64 (b+be)else n) xs
 | [],n,be,s,_,_,_=>rfl
 |x::r,n,be,s,h,h1,h2=>by
  simp only [zqD,zqs]at h
  have hx:=siB h.1
  have e1:=ao (x.size+x.behind) (by omega)
  have e2:=ao (x.size+x.behind-x.base) (by omega)
  have e3:=ao (b+be) (by omega)
  have e4:=ao (b+x.size) (by omega)
  have e5:=ao (b+x.size+x.behind) (by omega)
  have e6:=ao (b+x.size+x.behind-x.base) (by omega)
  have e7:=ao (b+(x.size+x.behind-x.base)) (by omega)
  simp only [cr2,Gc,J6,mx2]
  rcases Bool.eq_false_or_eq_true (onB x)with ho|ho
  ·simp only [ho,if_true]
   rw [Dn b hb r _ _ _ h.2 (by rw [e1,e2];split<;>omega) (by rw [e1,e2];split<;>omega)]
   congr 1
   simp only [e1,e2,e3,e4,e5,e6]
   cases s
   ·simp only [Bool.false_eq_true,false_and,if_false,true_or,if_true,true_and,e7]
    split<;>split<;>omega
   ·simp only [Bool.true_eq_false,false_or,true_and]
    by_cases hc:be<x.size+x.behind-x.base
    ·rw [if_pos hc,e7];split<;>split<;>(try split)<;>omega
    ·rw [if_neg hc,e3];split<;>split<;>(try split)<;>omega
  ·simp only [ho,Bool.false_eq_true,if_false]
   rw [Dn b hb r _ _ _ h.2 h1 h2]
   congr 1
   cases s
   ·simp
   ·simp only [true_and,e3]
    split<;>split<;>(try split)<;>(try split)<;>omega
theorem Ho{xs:List aw}(h:xs.all vd=true):(if(cr2 0 0 false xs).2.2=true/\(cr2 0 0 false xs).1<wrap64 (bas xs+(cr2 0 0 false xs).2.1)then wrap64 (bas xs+(cr2 0 0 false xs).2.1)else(cr2 0 0 false xs).1)=Gc (bas xs) 0 xs:=by
 have:=Dn (bas xs) (ze xs 0 false h (by omega) (by omega)) xs 0 0 false h (by omega) (by omega)
 simpa using this
def lit(xs:List af)(ln:List Int):List af:=ln.filterMap fun i=>if 0<=i then xs[i.toNat]? else none
def lou(xs:List af)(gap:Int)(ln:List Int):Int:=wrap64 (iv (lit xs ln) ((lit xs ln).map hyp) gap)
def lnS(xs:List af)(gap room:Int)(one:Bool)(out:List (List Int))(i:Int):List (List Int):=
 match out.getLast? with
 |some ln=>if one=true\/lou xs gap (ln++[i])<=room then out.dropLast++[ln++[i]]else out++[[i]]
 |none=>[[i]]
def lnG(xs:List af)(gap room:Int)(one:Bool):List (List Int)->Int->List af->List (List Int)
 |out,_,[]=>out
 |out,i,_::r=>lnG xs gap room one (lnS xs gap room one out i) (i+1) r
def lns(xs:List af)(gap room:Int)(wr:Bool):List (List Int):=lnG xs gap room (!wr||(decide (room<0)|| !eo xs)) [] 0 xs
def lng(xs:List af)(gap room:Int)(wr:Bool):Int:=(lns xs gap room wr).foldl (fun m l=>mx2 m (lou xs gap l)) 0
def lsz(xs:List af)(gap room:Int)(wr:Bool)(inner:Int):List Int:=(lns xs gap room wr).flatMap fun l=>flx (lit xs l) gap inner
def ixs:Int->Nat->List Int
 |_,0=>[]
 |i,n+1=>i::ixs (i+1) n
theorem bW:∀(n:Nat)(i:Int),(ixs i n).length=n
 |0,_=>rfl
 |n+1,i=>by simp [ixs,bW n]
theorem lU:∀(n:Nat)(i j:Int),j∈ixs i n↔i<=j/\j<i+n
 |0,i,j=>by simp only [ixs,List.not_mem_nil,false_iff];omega
 |n+1,i,j=>by simp only [ixs,zph,lU n];omega
theorem ki:∀(a b:Nat)(i:Int),ixs i (a+b)=ixs i a++ixs (i+a) b
 |0,b,i=>by simp [ixs]
 |a+1,b,i=>by
  rw [show a+1+b=a+b+1 by omega]
  simp only [ixs,List.cons_append]
  rw [ki a b (i+1),show i+1+(a:Int)=i+((a+1:Nat):Int) by omega]
theorem vE(xs:List af)(gap room:Int)(one:Bool)(out:List (List Int))(i:Int):(lnS xs gap room one out i).flatten=out.flatten++[i]/\((∀l∈out,l≠[])->∀l∈lnS xs gap room one out i,l≠[]):=by
 unfold lnS
 rcases List.eq_nil_or_concat out with rfl|⟨o,y,rfl⟩
 ·simp
 ·rw [List.concat_eq_append,List.getLast?_append,List.getLast?_singleton]
  simp only [Option.some_or]
  split
  ·rw [List.dropLast_concat]
   refine⟨by simp,fun h l hl=> ?_⟩
   rcases List.mem_append.1 hl with h1|h1
   ·exact h l (by simp [h1])
   ·rw [zpa.1 h1];simp
  ·refine⟨by simp,fun h l hl=> ?_⟩
   rcases List.mem_append.1 hl with h1|h1
   ·exact h l h1
   ·rw [zpa.1 h1];simp
theorem vG(xs:List af)(gap room:Int)(one:Bool):∀(r:List af)(out:List (List Int))(i:Int),(lnG xs gap room one out i r).flatten=out.flatten++ixs i r.length/\((∀l∈out,l≠[])->∀l∈lnG xs gap room one out i r,l≠[])
 | [],out,i=>by simp [lnG,ixs]
 |x::r,out,i=>by
  obtain⟨h1,h2⟩:=vE xs gap room one out i
  obtain⟨h3,h4⟩:=vG xs gap room one r (lnS xs gap room one out i) (i+1)
  refine⟨?_,fun h=>h4 (h2 h)⟩
  simp only [lnG,zqx,ixs]
  rw [h3,h1];simp
theorem mu(xs:List af)(gap room:Int)(wr:Bool):(lns xs gap room wr).flatten=ixs 0 xs.length:=by
 have:=(vG xs gap room (!wr||(decide (room<0)|| !eo xs)) xs [] 0).1
 simpa [lns]using this
theorem IB(xs:List af)(gap room:Int)(wr:Bool):∀l∈lns xs gap room wr,l≠[]:=(vG xs gap room _ xs [] 0).2 (by simp)
variable {gap room:Int}
theorem vD{wr:Bool}(hl:l∈lns xs gap room wr){i:Int}(hi:i∈l):0<=i/\i<(xs.length:Int):=by
 have:i∈(lns xs gap room wr).flatten:=List.mem_flatten.2 ⟨l,hl,hi⟩
 rw [mu,lU]at this
 omega
theorem kt:∀(ls:List (List Int)),(∀l∈ls,l≠[])->ls.length<=ls.flatten.length
 | [],_=>by simp
 |l::ls,h=>by
  have h1:=kt ls (fun x hx=>h x (zpe _ hx))
  have h2:0<l.length:=List.length_pos_iff.2 (h l (zpd ..))
  simp only [List.flatten_cons,zqe,zqx]
  omega
theorem nq(xs:List af)(gap room:Int)(wr:Bool):(lns xs gap room wr).length<=xs.length:=by
 have:=kt _ (IB xs gap room wr)
 rwa [mu,bW]at this
theorem nu{ls:List (List Int)}(hl:l∈ls):l.length<=ls.flatten.length:=by
 induction ls with
 |nil=>simp at hl
 |cons a ls ih=>
  simp only [List.flatten_cons,zqe]
  rcases zph.1 hl with rfl|h
  ·omega
  ·have:=ih h;omega
theorem ka{wr:Bool}(hl:l∈lns xs gap room wr):l.length<=xs.length:=by
 have:=nu hl
 rwa [mu,bW]at this
theorem yK{xs:List af}:∀{ln:List Int},(∀i∈ln,0<=i/\i<(xs.length:Int))->(lit xs ln).length=ln.length
 | [],_=>rfl
 |i::ln,h=>by
  have h1:=h i (zpd ..)
  have:=yK (ln:=ln) fun j hj=>h j (zpe _ hj)
  unfold lit at this⊢
  rw [List.filterMap_cons,if_pos h1.1,zqc (by omega)]
  simp [this]
variable {ln:List Int}
theorem rX:(lit xs ln).length<=ln.length:=by unfold lit;exact List.length_filterMap_le _ _
theorem CS{x:af}(h:x∈lit xs ln):x∈xs:=by
 unfold lit at h
 obtain⟨i,_,hi⟩:=List.mem_filterMap.1 h
 split at hi
 ·exact zqd hi
 ·cases hi
theorem yJ(xs:List af)(gap room:Int)(wr:Bool)(inner:Int):(lsz xs gap room wr inner).length=xs.length:=by
 have ha:∀ls:List (List Int),(∀l∈ls,∀i∈l,0<=i/\i<(xs.length:Int))->(ls.flatMap fun l=>flx (lit xs l) gap inner).length=ls.flatten.length:=by
  intro ls
  induction ls with
  |nil=>intro _;rfl
  |cons l ls ih=>
   intro h
   simp only [List.flatMap_cons,List.flatten_cons,zqe]
   rw [ih fun x hx=>h x (zpe _ hx),Hf,yK (h l (zpd ..))]
 unfold lsz
 rw [ha _ fun l hl i hi=>vD hl hi,mu,bW]
theorem om(n:Nat)(i:Int):ixs i (n+1)=ixs i n++[i+n]:=by rw [ki n 1 i];rfl
theorem xB:∀(n j:Nat)(i:Int),j<n->(ixs i n)[j]? =some (i+j)
 |0,_,_,h=>by omega
 |n+1,0,i,_=>by simp [ixs]
 |n+1,j+1,i,h=>by
  simp only [ixs,List.getElem?_cons_succ]
  rw [xB n j (i+1) (by omega)]
  congr 1;omega
def spc(free many js:Int):List Int:=(ixs 0 many.toNat).map fun i=>if i+1<many then btw free many js i else 0
def spL(b:Int->Int)(m z:Nat):List Int:=(ixs 0 z).map b++List.replicate (m-z) 0
variable {m z:Nat}
theorem GH(b:Int->Int)(h:z<=m):(spL b m z).length=m:=by simp [spL,bW];omega
theorem yo(b:Int->Int)(h:z<m):spL b m z=(ixs 0 z).map b++0::List.replicate (m-(z+1)) 0:=by
 rw [spL,show m-z=(m-(z+1))+1 by omega,List.replicate_succ]
theorem zD(b:Int->Int)(h:z<m):spL b m (z+1)=(ixs 0 z).map b++b z::List.replicate (m-(z+1)) 0:=by
 rw [spL,om,List.map_append,zqC];simp
theorem GG(b:Int->Int)(h:z<m):(spL b m z).set z (b z)=spL b m (z+1):=by
 rw [yo b h,zD b h,List.set_append_right _ _ (by simp [bW])]
 simp [bW]
theorem DW(b:Int->Int)(h:z<m)(hb:b z=0):spL b m z=spL b m (z+1):=by rw [yo b h,zD b h,hb]
theorem H8(b:Int->Int)(h:z<m):(spL b m z)[z]? =some 0:=by
 rw [yo b h,zqg (by simp [bW])]
 simp [bW]
theorem GF(free many js:Int){z:Nat}(h0:0<=many)(hz:z=0\/(z:Int)<many)(h:¬(z:Int)+1<many):spL (btw free many js) many.toNat z=spc free many js:=by
 have ha:∀n:Nat,(n:Int)+1<=many->(ixs 0 n).map (btw free many js)=(ixs 0 n).map fun i=>if i+1<many then btw free many js i else 0:=fun n hn=>
  zpl fun i hi=>by rw [lU]at hi;rw [if_pos (by omega)]
 unfold spc
 by_cases hm:many=0
 ·subst hm
  obtain rfl:z=0:=by omega
  simp [spL,ixs]
 obtain rfl:many=(z:Int)+1:=by omega
 rw [show((z:Int)+1).toNat=z+1 by omega,om,List.map_append,spL,ha z (by omega)]
 simp
theorem GD(free many js:Int)(h:free<0):spc free many js=List.replicate many.toNat 0:=by
 unfold spc
 have:∀(n:Nat)(j:Int),(ixs j n).map (fun i=>if i+1<many then btw free many js i else 0)=List.replicate n 0:=by
  intro n
  induction n with
  |zero=>intro j;rfl
  |succ n ih=>
   intro j
   simp only [ixs,zqA,List.replicate_succ]
   rw [ih (j+1)]
   congr 1
   split
   ·unfold btw;rw [if_pos h]
   ·rfl
 exact this _ 0
theorem Fw(free many js:Int){i:Int}(h0:0<=i)(h1:i<many):(spc free many js)[i.toNat]? =some (if i+1<many then btw free many js i else 0):=by
 unfold spc
 rw [zqi,xB _ _ _ (show i.toNat<many.toNat by omega)]
 simp only [Option.map_some]
 rw [show(0:Int)+(i.toNat:Int)=i by omega]
def m9(lo:Nat)(bs:List Nat):Prop:=bs.Nodup/\∀b∈bs,lo<=b
theorem m9.mono{lo lo':Nat}{bs:List Nat}(h:lo<=lo')(hn:m9 lo' bs):m9 lo bs:=⟨hn.1,fun b hb=>zpb h (hn.2 b hb)⟩
theorem m9.nil(lo:Nat):m9 lo []:=⟨List.nodup_nil,fun b hb=>by simp at hb⟩
theorem m9.app{lo lo':Nat}{ps bs:List Nat}(h:lo<=lo')(ha:m9 lo ps)(hb:m9 lo' bs)(hlt:∀b∈ps,b<lo'):m9 lo (ps++bs):=
 ⟨List.nodup_append.2 ⟨ha.1,hb.1,fun a h1 b h2 he=>by have:=hlt a h1;have:=hb.2 b h2;omega⟩,fun b hc=>(List.mem_append.1 hc).elim (ha.2 b) fun h2=>zpb h (hb.2 b h2)⟩
variable {V:LLA}
theorem Al(h:pQ V=true):∀y∈V,∀c∈y,∃u,c= .imm u:=fun y hy c hc=>by
 unfold pQ at h
 have:=zqf.1 (zqf.1 h y hy) c hc
 cases c<;>first|exact⟨_,rfl⟩|cases this
theorem IL(h:pQ V=true):V.map (·.map vwC)=V:=by
 refine(zpl (g:=id) fun x hx=> ?_).trans (List.map_id V)
 refine(zpl (g:=id) fun c hc=> ?_).trans (List.map_id x)
 obtain⟨u,rfl⟩:=Al h x hx c hc
 rfl
theorem IM(h:pQ V=true):fpE V=[]:=by
 unfold fpE
 rw [List.flatMap_eq_nil_iff]
 intro y hy
 unfold fpL
 rw [List.flatMap_eq_nil_iff]
 intro c hc
 obtain⟨u,rfl⟩:=Al h y hy c hc
 rfl
theorem zf{e:List AC}(h:e.all ij=true):e.all du=true:=zqf.2 fun c hc=>by
 have:=zqf.1 h c hc
 cases c<;>first|rfl|cases this
theorem bN{es:LLA}(h:∀e∈es,e.all ij=true):az es=true:=zqf.2 fun e he=>zf (h e he)
theorem Bh{bl:Nat->Nat}{c:AC}(hb:ij c=true):wP bl h c c:=by
 cases c<;>first|exact .imm _|exact .fv _ _|cases hb
variable {r:Nat}{ab:AB}
theorem py{bl:Nat->Nat}(hr:h[r]? =some (.live ab))(hb:∀e∈ab.es,e.all ij=true):wP bl h (.own r) (.fv (hd1 (bl r) ab.es++fpE ab.es) (ab.es.map (·.map vwC))):=
 .row r ab ab.es hr rfl (fun i x y hx hy=>by rw [hx]at hy;cases hy;rfl) fun i x y hx hy j c d hc hd=>by
  rw [hx]at hy
  cases hy
  rw [hc]at hd
  cases hd
  exact Bh (zqf.1 (hb x (zqd hx)) c (zqd hc))
theorem rA{bl:Nat->Nat}(hr:h[r]? =some (.live ab))(hi:pQ ab.es=true):wP bl h (.own r) (.fv (hd1 (bl r) ab.es) ab.es):=by
 have:=py (bl:=bl) hr (fun e he=>zqf.2 fun c hc=>by obtain⟨u,rfl⟩:=Al hi e he c hc;rfl)
 rwa [IL hi,IM hi,zpr]at this
variable {lo:Nat}
theorem sF{bl:Nat->Nat}{xs:List AT}(hb:DG lo bl h xs)(hr:h[r]? =some (.live ab)):m9 lo (hd1 (bl r) ab.es):=by
 cases he:ab.es with
 |nil=>exact m9.nil lo
 |cons e es=>exact⟨by simp [hd1],fun b ha=>by simp only [hd1,zpa]at ha;subst ha;exact(hb r ab hr (by rw [he];simp)).1⟩
theorem Hu{bl:Nat->Nat}{xs:List AT}(hb:DG lo bl h xs)(hr:h[r]? =some (.live ab))(hn:m9 lo (fpE ab.es)):m9 lo (hd1 (bl r) ab.es++fpE ab.es):=by
 refine⟨List.nodup_append.2 ⟨(sF hb hr).1,hn.1,fun a h1 b h2 he=> ?_⟩,fun b ha=>(List.mem_append.1 ha).elim ((sF hb hr).2 b) (hn.2 b)⟩
 subst he
 cases hes:ab.es with
 |nil=>rw [hes]at h1;simp [hd1]at h1
 |cons e es=>
  rw [hes]at h1
  simp only [hd1,zpa]at h1
  subst h1
  obtain⟨x,hx,ha⟩:=List.mem_flatMap.1 h2
  obtain⟨c,hc,hd⟩:=List.mem_flatMap.1 ha
  exact(hb r ab hr (by rw [hes];simp)).2.2.1 r ab hr x hx c hc hd
theorem Fc{bl:Nat->Nat}{xs:List AT}(hb:DG lo bl h xs)(hr:h[r]? =some (.live ab)){ps:List Nat}{ys:LLA}{x:AT}(hx:x∈xs)(hc: .fv ps ys∈x.cells)(hn:m9 lo ps):m9 lo (ps++hd1 (bl r) ab.es):=by
 refine⟨List.nodup_append.2 ⟨hn.1,(sF hb hr).1,fun a h1 b h2 he=> ?_⟩,fun b ha=>(List.mem_append.1 ha).elim (hn.2 b) ((sF hb hr).2 b)⟩
 subst he
 cases hes:ab.es with
 |nil=>rw [hes]at h2;simp [hd1]at h2
 |cons e es=>
  rw [hes]at h2
  simp only [hd1,zpa]at h2
  subst h2
  exact(hb r ab hr (by rw [hes];simp)).2.2.2 x hx _ hc h1
theorem Db:∀(es:LLA)(j:Nat)(y:List AC),j<es.length->(∀(i:Nat)(e:List AC),j<=i->es[i]? =some e->fpL e=[])->fpE (es.set j y)=fpE es++fpL y
 | [],j,y,hj,_=>by simp at hj
 |e::es,0,y,_,hz=>by
  have h1:fpE es=[]:=by
   unfold fpE
   rw [List.flatMap_eq_nil_iff]
   intro x hx
   obtain⟨i,hi,rfl⟩:=zpi hx
   exact hz (i+1) _ (zpn _) (by simp [hi])
  have h2:=hz 0 e (zpk _) rfl
  show fpL y++fpE es=fpL e++fpE es++fpL y
  rw [h1,h2];simp
 |e::es,j+1,y,hj,hz=>by
  have:=Db es j y (by simpa using hj) (fun i x hi hx=>hz (i+1) x (by omega) (by simpa using hx))
  show fpL e++fpE (es.set j y)=fpL e++fpE es++fpL y
  rw [this,zqC]
structure qE(k:Nat)(V es:LLA)(z:Int)(lo:Nat):Prop where
 z0:0<=z
 z1:z<=aJ V
 len:es.length=V.length
 kk:∀e∈es,e.length=k
 bare:∀e∈es,e.all ij=true
 done:∀i:Nat,(i:Int)<z->(es[i]?).map (·.map vwC)=V[i]?
 zero:∀(i:Nat)(e:List AC),z<=(i:Int)->es[i]? =some e->fpL e=[]
 new:m9 lo (fpE es)
variable {k:Nat}
theorem qE.start{row:List AC}{n:Int}(hk:row.length=k)(hi:pQ [row]=true)(hn:n=aJ V):qE k V (List.replicate n.toNat row) 0 lo:=by
 have ha:=Al hi row (by simp)
 have hb:fpL row=[]:=by unfold fpL;rw [List.flatMap_eq_nil_iff];intro c hc;obtain⟨u,rfl⟩:=ha c hc;rfl
 rw [ak]at hn
 refine⟨zpc 0,by rw [ak];omega,by simp [hn],fun e he=> ?_,fun e he=> ?_,fun i hi=>by omega,fun i e _ he=> ?_,?_⟩
 ·rw [List.eq_of_mem_replicate he];exact hk
 ·rw [List.eq_of_mem_replicate he];exact zqf.2 fun c hc=>by obtain⟨u,rfl⟩:=ha c hc;rfl
 ·rw [List.eq_of_mem_replicate (zqd he)];exact hb
 ·have:fpE (List.replicate n.toNat row)=[]:=by unfold fpE;rw [List.flatMap_eq_nil_iff];intro e he;rw [List.eq_of_mem_replicate he];exact hb
  rw [this];exact m9.nil lo
theorem qE.step{V es:LLA}{z:Int}{lo lo' j:Nat}{y v:List AC}(hs:qE k V es z lo)(hc:z<aJ V)(hj:j=z.toNat)(hv:V[z.toNat]? =some v)(hy:y.map vwC=v)(hk:y.length=k)(hb:y.all ij=true)(hlo:lo<=lo')(hn:m9 lo' (fpL y))(hlt:∀b∈fpE es,b<lo'):qE k V (es.set j y) (z+1) lo:=by
 have h0:=hs.z0
 have ha:j<es.length:=by rw [hs.len];rw [ak]at hc;omega
 subst hj
 refine⟨by omega,by omega,by simp [hs.len],fun e he=> ?_,fun e he=> ?_,fun i hi=> ?_,fun i e hi he=> ?_,?_⟩
 ·rcases List.mem_or_eq_of_mem_set he with h|h
  ·exact hs.kk e h
  ·rw [h];exact hk
 ·rcases List.mem_or_eq_of_mem_set he with h|h
  ·exact hs.bare e h
  ·rw [h];exact hb
 ·by_cases hiz:i=z.toNat
  ·subst hiz
   rw [zpm ha,Option.map_some,hv,hy]
  ·rw [List.getElem?_set_ne (fun h=>hiz h.symm)]
   exact hs.done i (by omega)
 ·rw [List.getElem?_set_ne (by omega)]at he
  exact hs.zero i e (by omega) he
 ·rw [Db es z.toNat y ha (fun i e hi he=>hs.zero i e (by omega) he)]
  exact m9.app hlo hs.new hn hlt
theorem qE.all{V es:LLA}{z:Int}(hs:qE k V es z lo)(hz:¬z<aJ V):es.map (·.map vwC)=V:=by
 refine List.ext_getElem? fun i=> ?_
 rw [zqi]
 by_cases hi:i<V.length
 ·exact hs.done i (by rw [ak]at hz;omega)
 ·rw [zqz (by rw [hs.len];omega),zqz (by omega)];rfl
theorem qE.mem{V es:LLA}{z:Int}{lo j:Nat}(hs:qE k V es z lo)(hj:j<es.length):∃e,es[j]? =some e/\e.length=k:=⟨es[j],zqc hj,hs.kk _ (List.getElem_mem hj)⟩
variable {P:Program}{g:Gd}
theorem yO{n0 N:Nat}{β:BP}(hg:g=G0 P n0 N){xs:LLA}{z:Int}{j k:Nat}{K:Nat->Prop}(hz:0<=z)(hj:j=z.toNat)(hy:j<xs.length)(hK:K j):g .Y k xs z K:=by subst hg hj;exact⟨hz,hy,hK⟩
structure fF(G es:LLA)(z:Int):Prop where
 z0:0<=z
 z1:z<=aJ G
 eq:es=G.take z.toNat
section
variable {P:Program}{n0 N:Nat}{g:Gd}
theorem C7(hg:g=G0 P n0 N){xs:LLA}{z:Int}{j k:Nat}{K:Nat->Prop}(hz:0<=z)(hj:j=z.toNat)(hy:j<xs.length)(hK:K j):g .Y k xs z K:=by subst hg hj;exact⟨hz,hy,hK⟩
theorem yI{es:LLA}{z:Int}{j:Nat}(h0:0<=z)(hc:z<aJ es)(hj:j=z.toNat):j<es.length:=by subst hj;rw [ak]at hc;omega
theorem wk1{T:Nat->AV}{h h':AH}{l':List (Nat×AV)}(hs:D4 h [0] h')(hk:rnK [some 0] h' T l'):Wk 1 T h l' h' [some 0]:=by
 match h',hs with
 | [e],hs=>
  have h1:=rk (h':=[e]) [0] [e] [] hs
  obtain⟨⟨ab,h2,rfl,h3⟩,_⟩:=hs
  refine⟨zpk _,fun i hi hg=> ?_,by simp,?_,hk⟩
  ·obtain rfl:i=0:=by omega
   rw [h2]at hg;cases hg
  ·simp only [rnH,zqw,h2]
   exact⟨fun _=>by first|trivial|rfl|exact .inr trivial|exact .inr rfl,⟨by first|trivial|rfl,by first|trivial|rfl,.inl ⟨by first|trivial|rfl,h3⟩⟩,zpt⟩
variable {l:List (Nat×AV)}
theorem rV{tab:List (TypeId×TI)}(hg:g=G0 P 1 N)(hfit:fI P tab){S:Type}{c:Code}{Q:Exit->List (Nat×AV)->EH->Prop}{h:EH}(hok:fQ N c=true)(Tf:S->List (Nat×AV))(hf:S->EH)(ok:S->Prop)(μ:S->Nat)(s0:S)(ρ0:List (Option Nat))(h0:ok s0)
  (hw:Wk 1 (lkT l) (toH h) (Tf s0) (toH (hf s0)) ρ0)
  (hb:∀(s:S)(B:List (Nat×AV)->EH->Prop),ok s->B=(fun l' h'=>∃s' ρ,ok s'/\μ s'<μ s/\Wk 1 (lkT l') (toH h') (Tf s') (toH (hf s')) ρ)->vl g tab c (fun e l h=>match e with| .normal=>B l h|e=>Q e l h) (Tf s) (hf s)):g .L c Q l h:=
 bK hg hfit hok Tf hf ok μ s0 ρ0 h0 hw hb
theorem Hx{S:Type}{ok:S->Prop}{μ:S->Nat}{s:S}{Tf:S->List (Nat×AV)}{hf:S->EH}{B:List (Nat×AV)->EH->Prop}{h:EH}
  (hB:B=fun l' h'=>∃s' ρ,ok s'/\μ s'<μ s/\Wk 1 (lkT l') (toH h') (Tf s') (toH (hf s')) ρ) (s':S) (ρ:List (Option Nat)) (hw:Wk 1 (lkT l) (toH h) (Tf s') (toH (hf s')) ρ) (h1:ok s') (h2:μ s'<μ s):B l h:=by
 subst hB;exact⟨s',ρ,h1,h2,hw⟩
theorem EL{F:List AT->EH->Prop}{Post:AV->AH->Prop}{x:AC}{ab:AB}(hF:F=li 1 Post)(hp:az ab.es=true)(hpost:Post (.t (.c x)) (toH [.rw ab]))(hx:du x=true:=by rfl):F [.c x] [.rw ab]:=by
 subst hF
 refine .inl ⟨.t (.c x),toH [.rw ab],[some 0],?_,hpost⟩
 exact wk1 (h:=toH [.rw ab]) ⟨⟨ab,rfl,rfl,hp⟩,zpt⟩ ⟨iJ (x:= .t (.c x)) hx,zpt⟩
theorem Ef{c:AC}(hp:du c=true)(s:Nat->Nat):c.mv s=c:=by cases c<;>first|rfl|cases hp
theorem Iu{ab:AB}(h:az ab.es=true)(s:Nat->Nat):AB.mv s ab=ab:=by
 obtain⟨t,k,es⟩:=ab
 refine congrArg (AB.mk t k) ?_
 refine(zpl fun x hx=> ?_).trans (List.map_id es)
 refine(zpl fun c hc=> ?_).trans (List.map_id x)
 exact Ef (zqf.1 (zqf.1 h x hx) c hc) s
end
def fq(k0:Int)(n:Nat):List av:=(List.range n).map fun i:Nat=>⟨(k0+5*(i:Int)),(k0+5*(i:Int))+1,(k0+5*(i:Int))+2,(k0+5*(i:Int))+3,(k0+5*(i:Int))+4⟩
variable {n:Nat}{M:Int}
theorem oc{k0 z kc:Int}(hM:M=(n:Int))(h0:0<=z)(h1:z<M)(hk:kc=k0+5*z):(vw av.c (fq k0 n))[z.toNat]? =some ([.J kc,.J (kc+1),.J (kc+2),.J (kc+3),.J (kc+4)]):=by
 subst hk
 have hz:z.toNat<n:=by rw [hM]at h1;omega
 refine(aY (x:=⟨(k0+5*z),(k0+5*z)+1,(k0+5*z)+2,(k0+5*z)+3,(k0+5*z)+4⟩) ?_).trans rfl
 rw [fq,zqi,List.getElem?_range hz,Option.map_some,Int.toNat_of_nonneg h0]
theorem o7(k0:Int)(es:LLA)(hk:∀e∈es,e.length=5)(hp:az es=true)(hl:es.length<=1048576)(hk0:0<=k0)(hk1:k0<=1152921504606846976)(ty:TypeId:=45):
  Con prog 25 (toH [.rw ⟨ty,5,es⟩]) [.c (.own 0),ai k0] fun res h'=>∃eh,toH eh=h'/\(res= .i (k0+5*aJ es)/\eh=[.rw ⟨ty,5,vw av.c (fq k0 es.length)⟩]):=by
 obtain⟨V,hV⟩:=nmE (vw av.c (fq k0 es.length))
 have hx:V.length=es.length:=by rw [hV,ar,fq];simp
 have hw:aJ V=aJ es:=by rw [ak,ak,hx]
 have hG:aJ V<=1048576:=by rw [ak];omega
 have pV:=pmV hV
 have hE:0<=aJ V:=by rw [ak];omega
 have hH:aJ V=(es.length:Int):=by rw [hw,ak]
 have hN:qS 5 V es 0:=⟨zpc 0,hE,hx.symm,hk,hp,fun i hi=>by simp at hi⟩
 rw [<-hV,<-hw]
 refine pe (c:=jx f25) bn func25 (by kernel_rfl) (by kernel_rfl) (bl (by rfl)) (by kernel_rfl) fun g F hg hF=> ?_
 cbv
 refine rV hg bn (by kernel_rfl) (fun s:Int×Int×LLA=>[(0,.o 0),(1,.i s.2.1),(5,.i s.1)]) (fun s=>[.rw ⟨ty,5,s.2.2⟩]) (fun s=>qS 5 V s.2.2 s.1/\s.2.1=k0+5*s.1) (fun s=>(aJ V).toNat-s.1.toNat)
  (0,k0,es) [some 0] ⟨hN,by simp only;omega⟩ (wk1 ⟨⟨_,rfl,rfl,hp⟩,zpt⟩ zr3) (fun s B hs hB=> ?_)
 obtain⟨z,kc,E⟩:=s
 obtain⟨hs,hA⟩:=hs
 simp only at hs hA
 have h0:=hs.z0
 have h1:=hs.z1
 have hO:=hs.len
 have hb:aJ E=aJ V:=by rw [ak,ak,hs.len]
 cbv
 cases hc:g .q .lss z (g .ln E)
 ·rw [ba hg,bu hg,hb,zqo]at hc
  cbv
  obtain rfl:=hs.done hc
  refine EL hF pV ⟨_,rfl,?_,rfl⟩
  show AV.t (ai kc)=_
  rw [show kc=k0+5*aJ E by omega]
 ·rw [ba hg,bu hg,hb,zqp]at hc
  cbv
  obtain⟨j,hj⟩:=nmE z.toNat
  have hz:j<E.length:=yI h0 (by rw [hb];exact hc) hj
  obtain⟨e,he,hI⟩:=hs.mem hz
  have hP:e.all du=true:=zqf.1 hs.pl e (zqd he)
  obtain⟨b0,b1,b2,b3,b4,rfl⟩:∃b0 b1 b2 b3 b4,e=[b0,b1,b2,b3,b4]:=by
   match e,hI with
   | [b0,b1,b2,b3,b4],_=>exact⟨b0,b1,b2,b3,b4,rfl⟩
  have hy:=oc hH h0 hc hA
  rw [<-hV]at hy
  obtain⟨E0,ha⟩:=nmE E
  have l0:j<E0.length:=by rw [ha];exact hz
  have hf:=he
  rw [<-ha]at hf⊢
  obtain⟨q0,hJ⟩:=nmE (kc+1)
  obtain⟨q1,hK⟩:=nmE (kc+2)
  obtain⟨q2,hL⟩:=nmE (kc+3)
  obtain⟨q3,hM⟩:=nmE (kc+4)
  obtain⟨q4,hQ⟩:=nmE (kc+5)
  have e0:g .w .add .i64 kc 1=q0:=by rw [aG hg,ao _ (by omega)];omega
  have e1:g .w .add .i64 q0 1=q1:=by rw [aG hg,ao _ (by omega)];omega
  have e2:g .w .add .i64 q1 1=q2:=by rw [aG hg,ao _ (by omega)];omega
  have e3:g .w .add .i64 q2 1=q3:=by rw [aG hg,ao _ (by omega)];omega
  have e4:g .w .add .i64 q3 1=q4:=by rw [aG hg,ao _ (by omega)];omega
  refine C7 hg h0 hj l0 ?_
  cbv
  refine⟨[b0,b1,b2,b3,b4],hf,?_⟩
  cbv
  generalize hG1:g .st _ _ _=E1
  have hq:E1=g .st E0 j [.J kc,b1,b2,b3,b4]:=hG1.symm
  have hh:E1[j]? =some [.J kc,b1,b2,b3,b4]:=by rw [hq,jv hg];exact zpm l0
  have l1:j<E1.length:=(zqb.1 hh).1
  try rw [e0]
  cbv
  refine C7 hg h0 hj l1 ?_
  cbv
  refine⟨[.J kc,b1,b2,b3,b4],hh,?_⟩
  cbv
  generalize hG2:g .st _ _ _=E2
  have hr:E2=g .st E1 j [.J kc,.J q0,b2,b3,b4]:=hG2.symm
  have hm:E2[j]? =some [.J kc,.J q0,b2,b3,b4]:=by rw [hr,jv hg];exact zpm l1
  have l2:j<E2.length:=(zqb.1 hm).1
  try rw [e1]
  cbv
  refine C7 hg h0 hj l2 ?_
  cbv
  refine⟨[.J kc,.J q0,b2,b3,b4],hm,?_⟩
  cbv
  generalize hG3:g .st _ _ _=E3
  have ht:E3=g .st E2 j [.J kc,.J q0,.J q1,b3,b4]:=hG3.symm
  have hn:E3[j]? =some [.J kc,.J q0,.J q1,b3,b4]:=by rw [ht,jv hg];exact zpm l2
  have l3:j<E3.length:=(zqb.1 hn).1
  try rw [e2]
  cbv
  refine C7 hg h0 hj l3 ?_
  cbv
  refine⟨[.J kc,.J q0,.J q1,b3,b4],hn,?_⟩
  cbv
  generalize hG4:g .st _ _ _=E4
  have hu:E4=g .st E3 j [.J kc,.J q0,.J q1,.J q2,b4]:=hG4.symm
  have ho:E4[j]? =some [.J kc,.J q0,.J q1,.J q2,b4]:=by rw [hu,jv hg];exact zpm l3
  have l4:j<E4.length:=(zqb.1 ho).1
  try rw [e3]
  cbv
  refine C7 hg h0 hj l4 ?_
  cbv
  refine⟨[.J kc,.J q0,.J q1,.J q2,b4],ho,?_⟩
  cbv
  generalize hG5:g .st _ _ _=E5
  have hv:E5=g .st E4 j [.J kc,.J q0,.J q1,.J q2,.J q3]:=hG5.symm
  have hD:E5[j]? =some [.J kc,.J q0,.J q1,.J q2,.J q3]:=by rw [hv,jv hg];exact zpm l4
  have l5:j<E5.length:=(zqb.1 hD).1
  try rw [e4]
  cbv
  have ez:g .w .add .i64 z 1=z+1:=by rw [aG hg,ao _ (by omega)]
  rw [ez]
  have hd:E5=E.set j [.J kc,.J q0,.J q1,.J q2,.J q3]:=by rw [hv,hu,ht,hr,hq,ha];simp only [jv hg,List.set_set]
  rw [hd]
  have hC:=hs.step hc hj hy rfl rfl
  subst hJ hK hL hM
  exact Hx hB (z+1,q4,_) [some 0] (wk1 ⟨⟨_,rfl,rfl,hC.pl⟩,zpt⟩ zr3) ⟨hC,by simp only;omega⟩ (by show(aJ V).toNat-(z+1).toNat<(aJ V).toNat-z.toNat;omega)
theorem o8(k0:Int)(n:Nat)(hl:n<=1048576)(hk0:0<=k0)(hk1:k0<=1152921504606846976):PC0 26 [.c (.view (vw av.c (fq k0 n))),ai k0] (.i (k0+5*(n:Int))):=by
 obtain⟨V,hV⟩:=nmE (vw av.c (fq k0 n))
 have hd:V.length=n:=by rw [hV,ar,fq];simp
 obtain⟨M,hM⟩:∃M:Int,M=(n:Int):=⟨_,rfl⟩
 have ha:aJ V=M:=by rw [ak,hd,hM]
 have hj:M<=1048576:=by omega
 have hb:0<=M:=by omega
 rw [<-hV,<-hM]
 refine aU func26 fun g F hg hF=> ?_
 cbv
 refine bK hg bn (by kernel_rfl) (fun s:Int×Int=>[(0,.v V),(1,.i s.2),(5,.i s.1)]) (fun _=>[]) (fun s=>0<=s.1/\s.1<=M/\s.2=k0+5*s.1) (fun s=>M.toNat-s.1.toNat)
  (0,k0) [] ⟨zpc 0,hb,by simp only;omega⟩ (wk0 zr3) (fun s B hs hB=> ?_)
 obtain⟨z,kc⟩:=s
 obtain⟨h0,h1,h2⟩:=hs
 simp only at h0 h1 h2
 cbv
 cases hc:g .q .lss z (g .ln V)
 ·rw [ba hg,bu hg,ha,zqo]at hc
  cbv
  exact aO hF (by rw [h2,show z=M by omega])
 ·rw [ba hg,bu hg,ha,zqp]at hc
  cbv
  have hy:=oc hM h0 hc h2
  rw [<-hV]at hy
  obtain⟨q0,he⟩:=nmE (kc+1)
  obtain⟨q1,hf⟩:=nmE (kc+2)
  obtain⟨q2,hh⟩:=nmE (kc+3)
  obtain⟨q3,hi⟩:=nmE (kc+4)
  obtain⟨q4,hk⟩:=nmE (kc+5)
  have e0:g .w .add .i64 kc 1=q0:=by rw [aG hg,ao _ (by omega)];omega
  have n0:g .q .neq kc kc=false:=by rw [bB hg];simp
  have e1:g .w .add .i64 q0 1=q1:=by rw [aG hg,ao _ (by omega)];omega
  have n1:g .q .neq q0 q0=false:=by rw [bB hg];simp
  have e2:g .w .add .i64 q1 1=q2:=by rw [aG hg,ao _ (by omega)];omega
  have n2:g .q .neq q1 q1=false:=by rw [bB hg];simp
  have e3:g .w .add .i64 q2 1=q3:=by rw [aG hg,ao _ (by omega)];omega
  have n3:g .q .neq q2 q2=false:=by rw [bB hg];simp
  have e4:g .w .add .i64 q3 1=q4:=by rw [aG hg,ao _ (by omega)];omega
  have n4:g .q .neq q3 q3=false:=by rw [bB hg];simp
  rw [<-he,<-hf,<-hh,<-hi]at hy
  refine goX hg _ h0 hy rfl ?_
  cbv
  rw [n0]
  cbv
  rw [e0]
  cbv
  refine goX hg _ h0 hy rfl ?_
  cbv
  rw [n1]
  cbv
  rw [e1]
  cbv
  refine goX hg _ h0 hy rfl ?_
  cbv
  rw [n2]
  cbv
  rw [e2]
  cbv
  refine goX hg _ h0 hy rfl ?_
  cbv
  rw [n3]
  cbv
  rw [e3]
  cbv
  refine goX hg _ h0 hy rfl ?_
  cbv
  rw [n4]
  cbv
  rw [e4]
  have ez:g .w .add .i64 z 1=z+1:=by rw [aG hg,ao _ (by omega)]
  rw [ez]
  exact gY hB (z+1,q4) [] (wk0 zr3) ⟨by simp only;omega,by simp only;omega,by simp only;omega⟩ (by show M.toNat-(z+1).toNat<M.toNat-z.toNat;omega)
def gJ(k0:Int)(n:Nat):List Int:=(List.range n).map fun i:Nat=>k0+(i:Int)
theorem yF{k0 z kc:Int}(hM:M=(n:Int))(h0:0<=z)(h1:z<M)(hk:kc=k0+1*z):(vw aj (gJ k0 n))[z.toNat]? =some ([.J kc]):=by
 subst hk
 have hz:z.toNat<n:=by rw [hM]at h1;omega
 refine(aY (x:=k0+z) ?_).trans (by simp [lc,aj])
 rw [gJ,zqi,List.getElem?_range hz,Option.map_some,Int.toNat_of_nonneg h0]
theorem r9(k0:Int)(es:LLA)(hk:∀e∈es,e.length=1)(hp:az es=true)(hl:es.length<=1048576)(hk0:0<=k0)(hk1:k0<=1152921504606846976)(ty:TypeId:=3):
  Con prog 89 (toH [.rw ⟨ty,1,es⟩]) [.c (.own 0),ai k0] fun res h'=>∃eh,toH eh=h'/\(res= .i (k0+1*aJ es)/\eh=[.rw ⟨ty,1,vw aj (gJ k0 es.length)⟩]):=by
 obtain⟨V,hV⟩:=nmE (vw aj (gJ k0 es.length))
 have hd:V.length=es.length:=by rw [hV,ar,gJ];simp
 have hb:aJ V=aJ es:=by rw [ak,ak,hd]
 have ho:aJ V<=1048576:=by rw [ak];omega
 have pV:=pmV hV
 have hn:0<=aJ V:=by rw [ak];omega
 have hq:aJ V=(es.length:Int):=by rw [hb,ak]
 have ht:qS 1 V es 0:=⟨zpc 0,hn,hd.symm,hk,hp,fun i hi=>by simp at hi⟩
 rw [<-hV,<-hb]
 refine pe (c:=jx f89) bn func89 (by kernel_rfl) (by kernel_rfl) (bl (by rfl)) (by kernel_rfl) fun g F hg hF=> ?_
 cbv
 refine rV hg bn (by kernel_rfl) (fun s:Int×Int×LLA=>[(0,.o 0),(1,.i s.2.1),(5,.i s.1)]) (fun s=>[.rw ⟨ty,1,s.2.2⟩]) (fun s=>qS 1 V s.2.2 s.1/\s.2.1=k0+1*s.1) (fun s=>(aJ V).toNat-s.1.toNat)
  (0,k0,es) [some 0] ⟨ht,by simp only;omega⟩ (wk1 ⟨⟨_,rfl,rfl,hp⟩,zpt⟩ zr3) (fun s B hs hB=> ?_)
 obtain⟨z,kc,E⟩:=s
 obtain⟨hs,hh⟩:=hs
 simp only at hs hh
 have h0:=hs.z0
 have h1:=hs.z1
 have hu:=hs.len
 have ha:aJ E=aJ V:=by rw [ak,ak,hs.len]
 cbv
 cases hc:g .q .lss z (g .ln E)
 ·rw [ba hg,bu hg,ha,zqo]at hc
  cbv
  obtain rfl:=hs.done hc
  refine EL hF pV ⟨_,rfl,?_,rfl⟩
  show AV.t (ai kc)=_
  rw [show kc=k0+1*aJ E by omega]
 ·rw [ba hg,bu hg,ha,zqp]at hc
  cbv
  obtain⟨j,hj⟩:=nmE z.toNat
  have hf:j<E.length:=yI h0 (by rw [ha];exact hc) hj
  obtain⟨e,he,hr⟩:=hs.mem hf
  have hv:e.all du=true:=zqf.1 hs.pl e (zqd he)
  obtain⟨b0,rfl⟩:∃b0,e=[b0]:=by
   match e,hr with
   | [b0],_=>exact⟨b0,rfl⟩
  have hy:=yF hq h0 hc hh
  rw [<-hV]at hy
  obtain⟨q0,hw⟩:=nmE (kc+1)
  have e0:g .w .add .i64 kc 1=q0:=by rw [aG hg,ao _ (by omega)];omega
  refine C7 hg h0 hj hf ?_
  cbv
  refine goN hg ⟨_,he,rfl⟩ ?_
  cbv
  rw [jv hg]
  rw [e0]
  have ez:g .w .add .i64 z 1=z+1:=by rw [aG hg,ao _ (by omega)]
  rw [ez]
  have hm:=hs.step hc hj hy rfl rfl
  exact Hx hB (z+1,q0,_) [some 0] (wk1 ⟨⟨_,rfl,rfl,hm.pl⟩,zpt⟩ zr3) ⟨hm,by simp only;omega⟩ (by show(aJ V).toNat-(z+1).toNat<(aJ V).toNat-z.toNat;omega)
def fC(k0:Int)(n:Nat):List aD:=(List.range n).map fun i:Nat=>⟨(k0+3*(i:Int)),(k0+3*(i:Int))+1,(k0+3*(i:Int))+2⟩
theorem xx{k0 z kc:Int}(hM:M=(n:Int))(h0:0<=z)(h1:z<M)(hk:kc=k0+3*z):(vw aD.c (fC k0 n))[z.toNat]? =some ([.J kc,.J (kc+1),.J (kc+2)]):=by
 subst hk
 have hz:z.toNat<n:=by rw [hM]at h1;omega
 refine(aY (x:=⟨(k0+3*z),(k0+3*z)+1,(k0+3*z)+2⟩) ?_).trans rfl
 rw [fC,zqi,List.getElem?_range hz,Option.map_some,Int.toNat_of_nonneg h0]
theorem qo(k0:Int)(es:LLA)(hk:∀e∈es,e.length=3)(hp:az es=true)(hl:es.length<=1048576)(hk0:0<=k0)(hk1:k0<=1152921504606846976)(ty:TypeId:=147):
  Con prog 90 (toH [.rw ⟨ty,3,es⟩]) [.c (.own 0),ai k0] fun res h'=>∃eh,toH eh=h'/\(res= .i (k0+3*aJ es)/\eh=[.rw ⟨ty,3,vw aD.c (fC k0 es.length)⟩]):=by
 obtain⟨V,hV⟩:=nmE (vw aD.c (fC k0 es.length))
 have ht:V.length=es.length:=by rw [hV,ar,fC];simp
 have hr:aJ V=aJ es:=by rw [ak,ak,ht]
 have hA:aJ V<=1048576:=by rw [ak];omega
 have pV:=pmV hV
 have hz:0<=aJ V:=by rw [ak];omega
 have hC:aJ V=(es.length:Int):=by rw [hr,ak]
 have hH:qS 3 V es 0:=⟨zpc 0,hz,ht.symm,hk,hp,fun i hi=>by simp at hi⟩
 rw [<-hV,<-hr]
 refine pe (c:=jx f90) bn func90 (by kernel_rfl) (by kernel_rfl) (bl (by rfl)) (by kernel_rfl) fun g F hg hF=> ?_
 cbv
 refine rV hg bn (by kernel_rfl) (fun s:Int×Int×LLA=>[(0,.o 0),(1,.i s.2.1),(5,.i s.1)]) (fun s=>[.rw ⟨ty,3,s.2.2⟩]) (fun s=>qS 3 V s.2.2 s.1/\s.2.1=k0+3*s.1) (fun s=>(aJ V).toNat-s.1.toNat)
  (0,k0,es) [some 0] ⟨hH,by simp only;omega⟩ (wk1 ⟨⟨_,rfl,rfl,hp⟩,zpt⟩ zr3) (fun s B hs hB=> ?_)
 obtain⟨z,kc,E⟩:=s
 obtain⟨hs,hv⟩:=hs
 simp only at hs hv
 have h0:=hs.z0
 have h1:=hs.z1
 have hI:=hs.len
 have hb:aJ E=aJ V:=by rw [ak,ak,hs.len]
 cbv
 cases hc:g .q .lss z (g .ln E)
 ·rw [ba hg,bu hg,hb,zqo]at hc
  cbv
  obtain rfl:=hs.done hc
  refine EL hF pV ⟨_,rfl,?_,rfl⟩
  show AV.t (ai kc)=_
  rw [show kc=k0+3*aJ E by omega]
 ·rw [ba hg,bu hg,hb,zqp]at hc
  cbv
  obtain⟨j,hj⟩:=nmE z.toNat
  have hu:j<E.length:=yI h0 (by rw [hb];exact hc) hj
  obtain⟨e,he,hD⟩:=hs.mem hu
  have hJ:e.all du=true:=zqf.1 hs.pl e (zqd he)
  obtain⟨b0,b1,b2,rfl⟩:∃b0 b1 b2,e=[b0,b1,b2]:=by
   match e,hD with
   | [b0,b1,b2],_=>exact⟨b0,b1,b2,rfl⟩
  have hy:=xx hC h0 hc hv
  rw [<-hV]at hy
  obtain⟨E0,ha⟩:=nmE E
  have l0:j<E0.length:=by rw [ha];exact hu
  have hf:=he
  rw [<-ha]at hf⊢
  obtain⟨q0,hE⟩:=nmE (kc+1)
  obtain⟨q1,hG⟩:=nmE (kc+2)
  obtain⟨q2,hK⟩:=nmE (kc+3)
  have e0:g .w .add .i64 kc 1=q0:=by rw [aG hg,ao _ (by omega)];omega
  have e1:g .w .add .i64 q0 1=q1:=by rw [aG hg,ao _ (by omega)];omega
  have e2:g .w .add .i64 q1 1=q2:=by rw [aG hg,ao _ (by omega)];omega
  refine C7 hg h0 hj l0 ?_
  cbv
  refine⟨[b0,b1,b2],hf,?_⟩
  cbv
  generalize hG1:g .st _ _ _=E1
  have hn:E1=g .st E0 j [.J kc,b1,b2]:=hG1.symm
  have hh:E1[j]? =some [.J kc,b1,b2]:=by rw [hn,jv hg];exact zpm l0
  have l1:j<E1.length:=(zqb.1 hh).1
  try rw [e0]
  cbv
  refine C7 hg h0 hj l1 ?_
  cbv
  refine⟨[.J kc,b1,b2],hh,?_⟩
  cbv
  generalize hG2:g .st _ _ _=E2
  have ho:E2=g .st E1 j [.J kc,.J q0,b2]:=hG2.symm
  have hm:E2[j]? =some [.J kc,.J q0,b2]:=by rw [ho,jv hg];exact zpm l1
  have l2:j<E2.length:=(zqb.1 hm).1
  try rw [e1]
  cbv
  refine C7 hg h0 hj l2 ?_
  cbv
  refine⟨[.J kc,.J q0,b2],hm,?_⟩
  cbv
  generalize hG3:g .st _ _ _=E3
  have hq:E3=g .st E2 j [.J kc,.J q0,.J q1]:=hG3.symm
  have hx:E3[j]? =some [.J kc,.J q0,.J q1]:=by rw [hq,jv hg];exact zpm l2
  have l3:j<E3.length:=(zqb.1 hx).1
  try rw [e2]
  cbv
  have ez:g .w .add .i64 z 1=z+1:=by rw [aG hg,ao _ (by omega)]
  rw [ez]
  have hd:E3=E.set j [.J kc,.J q0,.J q1]:=by rw [hq,ho,hn,ha];simp only [jv hg,List.set_set]
  rw [hd]
  have hw:=hs.step hc hj hy rfl rfl
  subst hE hG
  exact Hx hB (z+1,q2,_) [some 0] (wk1 ⟨⟨_,rfl,rfl,hw.pl⟩,zpt⟩ zr3) ⟨hw,by simp only;omega⟩ (by show(aJ V).toNat-(z+1).toNat<(aJ V).toNat-z.toNat;omega)
def m3(k:Int):Bool:=k.tmod 3==0
variable {j:Nat}{y:List AC}
theorem D3{E:LLA}(h:E[j]? =some y):E.set j y=E:=by
 refine List.ext_getElem? fun i=> ?_
 rw [List.getElem?_set]
 by_cases hi:j=i
 ·subst hi;rw [if_pos rfl,if_pos (zqb.1 h).1,h]
 ·rw [if_neg hi]
theorem ek{E:LLA}(h:az E=true)(hy:y.all du=true):az (E.set j y)=true:=by
 rw [az,zqf]at h⊢
 intro x hx
 rcases List.mem_or_eq_of_mem_set hx with hx|rfl
 ·exact h x hx
 ·exact hy
variable {E E1 E2:LLA}
theorem zL{x y:List AC}(h:E2=E1.set j x)(hs:E1=E.set j y)(hl:j<E.length):E2=E.set j x/\E2[j]? =some x/\j<E2.length:=by
 rw [hs,List.set_set]at h
 subst h
 exact⟨rfl,zpm hl,by rw [List.length_set];exact hl⟩
theorem gZ{n0 N:Nat}{β:BP}(hg:g=G0 P n0 N){x y:List AC}(h:g .st E1 j x=E2)(hs:E1=E.set j y)(hl:j<E.length):E2=E.set j x/\E2[j]? =some x/\j<E2.length:=by
 rw [jv hg,hs,List.set_set]at h
 subst h
 exact⟨rfl,zpm hl,by rw [List.length_set];exact hl⟩
theorem JU{n0 N:Nat}{β:BP}(hg:g=G0 P n0 N){a b d c e C:Int}(h0:0<=a)(hM:a+C<=1152921504606846976)(hb:b=a+c)(hd:d=a+e)(he:e=c+1)(h1:0<=c)(h2:c<=C):g .w .add .i64 b 1=d:=by
 rw [aG hg,ao _ (by omega)];omega
theorem se(k0:Int):PC0 89 [.c (.view []),ai k0] (.i k0):=by
 refine rH [] func89 fun g hc hd F ha hb hg hF=> ?_
 cbv
 refine fO [] [] ha hb hg bn (by kernel_rfl) (fun _:Unit=>[(0,.t (.c (.view []))),(1,.i k0),(5,.i 0)]) (fun _=>[]) (fun _=>True) (fun _=>0) () trivial (Wk.weak (wk0 zr3)) (fun s B _ hB=> ?_)
 cbv
 have e:g .q .lss 0 (g .ln [])=false:=by rw [ba hg,bu hg];rfl
 rw [e]
 cbv
 exact aO hF rfl
theorem r8(k0:Int)(bs:List Nat)(V:LLA)(hl:V.length<=1048576)(hk:∀y∈V,y.length=1)(hi:pQ V=true)(hnd:bs.Nodup)(hk0:0<=k0)(hk1:k0<=1152921504606846976):
  DP prog 89 [.c (.fv bs V),ai k0] [(bs,V,vw aj (gJ k0 V.length))] (.int .i64 (k0+1*(V.length:Int))):=by
 by_cases hne:V=[]
 ·subst hne
  have:k0+1*(([]:LLA).length:Int)=k0:=by simp
  rw [this]
  exact vB (se k0)
 ·rw [<-ak]
  exact xw (by kernel_rfl) hne hk hi (wV _ _) hnd (by rw [ar];simp [gJ]) fun ty=>r9 k0 V hk (fu hi) hl hk0 hk1 ty
theorem qp(k0:Int):PC0 90 [.c (.view []),ai k0] (.i k0):=by
 refine rH [] func90 fun g hc hd F ha hb hg hF=> ?_
 cbv
 refine fO [] [] ha hb hg bn (by kernel_rfl) (fun _:Unit=>[(0,.t (.c (.view []))),(1,.i k0),(5,.i 0)]) (fun _=>[]) (fun _=>True) (fun _=>0) () trivial (Wk.weak (wk0 zr3)) (fun s B _ hB=> ?_)
 cbv
 have e:g .q .lss 0 (g .ln [])=false:=by rw [ba hg,bu hg];rfl
 rw [e]
 cbv
 exact aO hF rfl
theorem qn(k0:Int)(bs:List Nat)(V:LLA)(hl:V.length<=1048576)(hk:∀y∈V,y.length=3)(hi:pQ V=true)(hnd:bs.Nodup)(hk0:0<=k0)(hk1:k0<=1152921504606846976):
  DP prog 90 [.c (.fv bs V),ai k0] [(bs,V,vw aD.c (fC k0 V.length))] (.int .i64 (k0+3*(V.length:Int))):=by
 by_cases hne:V=[]
 ·subst hne
  have:k0+3*(([]:LLA).length:Int)=k0:=by simp
  rw [this]
  exact vB (qp k0)
 ·rw [<-ak]
  exact xw (by kernel_rfl) hne hk hi (wV _ _) hnd (by rw [ar];simp [fC]) fun ty=>qo k0 V hk (fu hi) hl hk0 hk1 ty
section
variable {P:Program}{n0 N:Nat}{g:Gd}
theorem ww{F:List AT->EH->Prop}{w h b:Int}{r:Nat}{eh:EH}{ab:AB}(hF:F=li 0 (fun res h'=>∃rows,h'=rows.map .live/\(res= .t (.agg [.J w,.J h,.J b,.own 0])/\rows=[ab])))(hr:nth eh r=some (.rw ab))(hp:az ab.es=true):
  F [.agg [.J w,.J h,.J b,.own r]] eh:=by
 subst hF
 refine .inl ⟨.t (.agg [.J w,.J h,.J b,.own 0]),[.live ab],[some r],⟨zpn _,fun i hi=>absurd hi (zpq _),by simp,?_,?_⟩,[ab],rfl,rfl,rfl⟩
 ·simp only [rnH,zqw,fY hr]
  exact⟨fun h=>absurd h (zpq _),⟨by first|trivial|rfl,by first|trivial|rfl,.inl ⟨by first|trivial|rfl,hp⟩⟩,zpt⟩
 ·exact⟨.inr zr4,zpt⟩
theorem wF{β:BP}(hg:g=G0 P n0 N){h:EH}{f:FuncId}{args:List AT}{K:AV->EH->Prop}{a b c:Int}{ab:AB}(hc:bX P f args fun res hb=>res= .t (.agg [.J a,.J b,.J c,.own 0])/\hb=[ab])(hd:iQ args=true)(hp:az ab.es=true)
  (hK:K (.t (.agg [.J a,.J b,.J c,.own (mz h)])) (h++[.rw ab])):g .C f h args K:=
 sE hg (fM hc hd fun res hb ha=>by
  obtain⟨rfl,rfl⟩:=ha
  rw [dv]at hK
  refine⟨[.rw ab],by simp only [zqA,List.map_nil,fX hp];rfl,?_⟩
  rw [bP];exact hK)
end
def Iw(n:Int)(w h:aM)(rtl:Bool)(m:pk):Bool:=(m.node==n)&&decide (m.wide=w)&&decide (m.high=h)&&(m.rtl==rtl)
def G5(n:Int)(w h:aM)(rtl:Bool):List pk->jQ×Bool
 | []=>(⟨0,0,0,[]⟩,false)
 |m::ms=>if Iw n w h rtl m then(m.box,true)else G5 n w h rtl ms
end Go.Proofs.YtckchgoblpgpbaaGreat
