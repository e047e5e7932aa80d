/- The program's passes over a line that flexes, as maps of data. -/
import Derived.Test.YtckchgoblpgpbaaGreatJ5bd
set_option linter.unusedVariables false
set_option linter.unusedSimpArgs false
set_option maxHeartbeats 3200000
namespace Go.Proofs.YtckchgoblpgpbaaGreat
open Go.ChangeShapes Go.WideShapes Go.ChangeAt Go.RowKit Am Go.Proofs.Tryz
set_option maxRecDepth 100000
abbrev lR:Bool->Array Value:=fun b=> #[.bool b]
def Fx.bx(X:Fx)(p:Int):List AC:=[.view (vw ag.c X.xs),.J X.gap,.J X.inner,.B X.gr,.own 1,.own 2,.J p]
structure S1 where
 i:Int
 f:List Int
 m:List Int
 a:Int
def S1.go(gr:Bool):S1->List (ag×Bool×Int)->S1
 |s,[]=>s
 |s,(x,f,_)::r=>S1.go gr (if f then⟨s.i+1,s.f,s.m,s.a⟩else⟨s.i+1,s.f++[s.i],s.m.set s.i.toNat x.base,wrap64 (s.a+wgt gr x)⟩) r
def zD(xs:List ag)(fr:List Bool)(sz:List Int):List (ag×Bool×Int):=xs.zip (fr.zip sz)
theorem iz{α:Type}(c:α->Array Value)(xs:List α)(j:Nat)(x:α):vw c (xs.set j x)=(vw c xs).set j (lc (c x)):=by simp [vw]
theorem S1.go_eq(X:Fx):∀(xs:List ag)(fr:List Bool)(sz:List Int)(dn:List Int)(f:List Int)(a:Int),fr.length=xs.length->sz.length=xs.length->(∀j:Nat,j<xs.length->itA X.xs ((dn.length:Int)+(j:Int))=xs[j]?.getD ⟨0,0,0,0,0,0,0,false,false⟩)->
  S1.go X.gr ⟨dn.length,f,dn++sz,a⟩ (zD xs fr sz)=⟨(dn.length:Int)+xs.length,f++fre dn.length fr,dn++mix xs fr sz,oA a ((fre dn.length fr).map fun i=>wgt X.gr (itA X.xs i))⟩
 | [],[],[],dn,f,a,_,_,_=>by simp [zD,S1.go,fre,mix,oA]
 | [],_::_,_,_,_,_,h,_,_=>by simp at h
 | [],[],_::_,_,_,_,_,h,_=>by simp at h
 |_::_,[],_,_,_,_,h,_,_=>by simp at h
 |_::_,_::_,[],_,_,_,_,h,_=>by simp at h
 |x::xs,b::fr,s::sz,dn,f,a,h1,h2,h3=>by
  have hx:itA X.xs (dn.length:Int)=x:=by have:=h3 0 (by simp);simpa using this
  have h4:∀v:Int,∀j:Nat,j<xs.length->itA X.xs (((dn++[v]).length:Int)+(j:Int))=xs[j]?.getD ⟨0,0,0,0,0,0,0,false,false⟩:=fun v j hj=>by
   have:=h3 (j+1) (by simp;omega)
   simp only [List.getElem?_cons_succ]at this
   rw [<-this]
   congr 1
   simp only [zqe,zqm]
   omega
  have ih:=fun v f a=>S1.go_eq X xs fr sz (dn++[v]) f a (by simpa using h1) (by simpa using h2) (h4 v)
  have el:∀v:Int,((dn++[v]).length:Int)=dn.length+1:=fun v=>by simp
  have ed:∀(v:Int)(l:List Int),(dn++[v])++l=dn++v::l:=fun v l=>by simp
  have hz:zD (x::xs) (b::fr) (s::sz)=(x,b,s)::zD xs fr sz:=rfl
  rw [hz]
  cases b with
  |true=>
   simp only [S1.go,if_true,fre,mix]
   have:=ih s f a
   rw [el,ed,ed]at this
   rw [this,zqx]
   congr 1
   omega
  |false=>
   simp only [S1.go,Bool.false_eq_true,if_false,fre,mix]
   have:=ih x.base (f++[(dn.length:Int)]) (wrap64 (a+wgt X.gr x))
   rw [el,ed,ed]at this
   have e1:(dn++s::sz).set ((dn.length:Int)).toNat x.base=dn++x.base::sz:=by simp
   rw [e1,this,zqx,zqA,oA,hx,zqC]
   congr 1
   omega
theorem S1.all_(X:Fx){fr:List Bool}{sz:List Int}(hf:fr.length=X.xs.length)(hs:sz.length=X.xs.length):S1.go X.gr ⟨0,[],sz,0⟩ (zD X.xs fr sz)=⟨X.xs.length,fre 0 fr,mix X.xs fr sz,X.all fr⟩:=by
 have:=S1.go_eq X X.xs fr sz [] [] 0 hf hs (fun j hj=>by simp [itA])
 simpa [Fx.all,Fx.ws]using this
structure S2 where
 l:List Int
 h:List Int
 v:Int
 w:List Int
def S2.go(X:Fx)(A r:Int):S2->List Int->S2
 |s,[]=>s
 |s,i::is=>S2.go X A r ⟨if pr X.gr A r (itA X.xs i)then s.l++[i]else s.l,if !pr X.gr A r (itA X.xs i)&&uE X.gr A r (itA X.xs i)then s.h++[i]else s.h,uY X.gr A r s.v (itA X.xs i),s.w++[wgt X.gr (itA X.xs i)]⟩ is
theorem S2.go_eq(X:Fx)(A r:Int):∀(is:List Int)(s:S2),S2.go X A r s is=⟨s.l++is.filter fun i=>pr X.gr A r (itA X.xs i),s.h++is.filter fun i=> !pr X.gr A r (itA X.xs i)&&uE X.gr A r (itA X.xs i),is.foldl (fun v i=>uY X.gr A r v (itA X.xs i)) s.v,s.w++is.map fun i=>wgt X.gr (itA X.xs i)⟩
 | [],s=>by simp [S2.go]
 |i::is,s=>by
  rw [S2.go,S2.go_eq X A r is]
  simp only [List.filter_cons,zqA,List.foldl_cons]
  congr 1
  ·split<;>simp_all
  ·split<;>simp_all
  ·simp
structure S3 where
 s:List Int
 f:List Bool
def S3.go(s:S3)(ps:List (Int×Int)):S3:=⟨o3 ps s.s,oE (ps.map (·.1)) s.f⟩
theorem S3.go_cons(s:S3)(p:Int×Int)(ps:List (Int×Int)):S3.go s (p::ps)=S3.go ⟨s.s.set p.1.toNat p.2,s.f.set p.1.toNat true⟩ ps:=rfl
theorem tc:∀(xs:List ag)(fr:List Bool)(sz:List Int),fr.length=xs.length->sz.length=xs.length->(zD xs fr sz).map (·.1)=xs
 | [],_,_,_,_=>rfl
 |x::xs,b::fr,s::sz,h1,h2=>by
  show x::(zD xs fr sz).map (·.1)=_
  rw [tc xs fr sz (by simpa using h1) (by simpa using h2)]
 |_::_,[],_,h,_=>by simp at h
 |_::_,_::_,[],_,h=>by simp at h
theorem DK(xs:List ag)(fr:List Bool)(sz:List Int)(n:Nat)(x:ag)(b:Bool)(s:Int)(h:(zD xs fr sz)[n]? =some (x,b,s)):xs[n]? =some x/\fr[n]? =some b/\sz[n]? =some s:=by
 unfold zD at h
 rw [List.getElem?_zip_eq_some,List.getElem?_zip_eq_some]at h
 exact h
theorem oI{xs:List ag}{i:Int}(h0:0<=i)(h1:i<xs.length):xs[i.toNat]? =some (itA xs i):=by
 unfold itA
 rw [zqc (by omega)]
 rfl
theorem BS(a b:List (Int×Int))(l:List Int):o3 (a++b) l=o3 b (o3 a l):=List.foldl_append ..
theorem BT(a b:List Int)(l:List Bool):oE (a++b) l=oE b (oE a l):=List.foldl_append ..
theorem Fx.setI_two(X:Fx)(fr:List Bool)(rt:Int)(sz:List Int)(h:¬(X.low fr rt=[]/\X.hig fr rt=[]))(A B:List (Int×Int))(hA:A=if 0<=X.vio fr rt then(X.low fr rt).map fun i=>(i,(itA X.xs i).least)else [])(hB:B=if X.vio fr rt<=0 then(X.hig fr rt).map fun i=>(i,pU (itA X.xs i))else []):
  S3.go (S3.go ⟨sz,fr⟩ A) B=⟨o3 (X.setI fr rt) sz,oE ((X.setI fr rt).map (·.1)) fr⟩:=by
 unfold Fx.setI
 rw [if_neg h,<-hA,<-hB,List.map_append,BS,BT]
 rfl
theorem BM{a b:List Int}(ha:a.length<=1048576)(hb:b.length<=1048576):(wrap64 ((a.length:Int)+(b.length:Int))==0)=decide (a=[]/\b=[]):=by
 have e:wrap64 ((a.length:Int)+(b.length:Int))=(a.length:Int)+(b.length:Int):=by unfold wrap64;omega
 rw [e]
 by_cases hc:a=[]/\b=[]
 ·rw [hc.1,hc.2];rfl
 ·rw [zqt hc,zqr]
  intro hz
  exact hc ⟨zqv (by omega),zqv (by omega)⟩
theorem ir(ws:List Int)(hl:ws.length<=1048576):dc prog 287 [.c (.view (vw ak ws))] fun res ha=>res= .o 0/\ha=[⟨3,1,vw ak ws⟩]:=by
 obtain⟨V,hV⟩:=nmE (vw ak ws)
 have hb:=lmV hV
 have iV:=imV hV
 have kV:=kmV (k:=1) hV fun _=>rfl
 have dV:=dmV hV
 have pV:=pmV hV
 rw [<-hV]
 refine ae (aJ f287) ay func287 fun g F hg hF=> ?_
 cbv
 refine goN hg ⟨kV,by omega,by omega⟩ ?_
 cbv
 rw [gd hg]
 exact bR hF rfl pV
theorem l5(X:Fx)(hX:ep X.xs=true)(sz:List Int)(fr:List Bool)(hs:sz.length=X.xs.length)(hf:fr.length=X.xs.length)(p:Int):
  Con prog 330 (toH [.bx 289 7 (X.bx p),.rw ⟨3,1,vw ak sz⟩,.rw ⟨4,1,vw lR fr⟩]) [.c (.ptr 0 0 0)] fun res h'=>∃eh,toH eh=h'/\∃p' sz' fr',
   res= .t (abl (decide (fre 0 fr≠[])))/\eh=[.bx 289 7 (X.bx p'),.rw ⟨3,1,vw ak sz'⟩,.rw ⟨4,1,vw lR fr'⟩]/\
   sz'=(if fre 0 fr=[]then sz else o3 (X.setI fr (X.rI fr sz)) sz)/\fr'=(if fre 0 fr=[]then fr else oE ((X.setI fr (X.rI fr sz)).map (·.1)) fr):=by
 have hw:=S1.all_ X hf hs
 obtain⟨x5,x4⟩:=fd hX
 obtain⟨zs,h5⟩:=nmE (zD X.xs fr sz)
 have hV:vw ag.c X.xs=zs.map fun t=>lc (ag.c t.1):=by
  rw [h5,vw,<-tc X.xs fr sz hf hs,List.map_map];simp [tc X.xs fr sz hf hs]
 have xW:zs.length<=1048576:=by rw [h5,zD];simp [hs,hf];omega
 rw [<-h5]at hw
 obtain⟨V,hD⟩:=nmE (vw ag.c X.xs)
 obtain⟨Z,hZ⟩:=nmE (vw ak sz)
 have x2:=lmV hZ
 have iZ:=imV hZ
 have kZ:=kmV (k:=1) hZ fun _=>rfl
 have dZ:=dmV hZ
 obtain⟨R,hR⟩:=nmE (vw lR fr)
 obtain⟨FR,hk⟩:=nmE (fre 0 fr)
 obtain⟨MX,h9⟩:=nmE (mix X.xs fr sz)
 obtain⟨AL,xf⟩:=nmE (X.all fr)
 obtain⟨rt,xv⟩:=nmE (X.rI fr sz)
 obtain⟨GR,hU⟩:=nmE X.gr
 have x1:MX.length=X.xs.length:=by rw [h9];exact Ap _ _ _ hf hs
 have pZ:=pmV hZ
 have pR:=pmV hR
 have xJ:aX R=(X.xs.length:Int):=by rw [hR,aQ,hf]
 have cc:=ir sz (by omega)
 have co:=fq X.xs MX X.gap (by omega) (by omega)
 obtain⟨OV,xi⟩:=nmE (wrap64 (hP X.xs MX X.gap))
 simp only [Fx.bx,<-hD,<-hZ,<-hR,<-xi,<-hU]at cc co⊢
 rw [<-hD]at hV
 rw [<-hk,<-h9,<-xf]at hw
 rw [<-hk,<-xv]
 have xp:aX V=(X.xs.length:Int):=by rw [hD,aQ]
 obtain⟨R1,xn⟩:=nmE (S1.mk (X.xs.length:Int) FR MX AL)
 rw [<-xn]at hw
 refine xl (c:=aJ f330) ay func330 (by kernel_rfl) (by kernel_rfl) (bl (by rfl)) (by kernel_rfl) fun g F hg hF=> ?_
 replace hg:g=G0 prog 3 f330.ntmps:=hg
 replace hF:F=mA 3 _:=hF
 cbv
 first|(refine bE hg cc (ah (aZ (ab:=⟨_,_,Z⟩) rfl kZ dZ) (av)) iZ ?_;cbv)|(refine bO hg cc (ah (aZ (ab:=⟨_,_,Z⟩) rfl kZ dZ) (av)) iZ ?_;cbv)
 refine aY hg ay (by kernel_rfl) V (fun t=>lc (ag.c t.1)) zs hV xW (fun z(s:S1×LLA×LLA)=>[(0,.p 0),(3,.o 3),(4,.o 4),(5,.i (s.1.a)),(33,.v V),(34,.i (g .ln V)),(35,.i (z))]) (fun z(s:S1×LLA×LLA)=>[.bx 289 7 [.view V,.J X.gap,.J X.inner,.B GR,.own 1,.own 2,.J p],.rw ⟨3,1,Z⟩,.rw ⟨4,1,R⟩,.rw ⟨3,1,s.2.1⟩,.rw ⟨3,1,s.2.2⟩]) (fun z(s:S1×LLA×LLA)=>s.2.1=vw ak s.1.f/\s.2.2=vw ak s.1.m/\s.1.i=z/\s.1.m.length=X.xs.length/\(s.1.f.length:Int)<=z) (fun(s:S1×LLA×LLA) rest=>S1.go X.gr s.1 rest) (R1) (⟨0,[],sz,0⟩,[],Z) hw ⟨rfl,hZ,rfl,hs,by simp⟩ (Wk.weak (wkG [some 0,some 1,some 2,none,some 3] zr7 ⟨⟨_,_,rfl,rfl,rfl,rfl,.inr ⟨zr7,trivial⟩⟩,wqE rfl pZ,wqE rfl pR,⟨_,rfl,rfl⟩,wqE rfl pZ,trivial⟩)) (fun z s B hz h0 hi he=> ?_) (fun z s x rest B z0 z1 z2 hx hy h0 hi hc e1 hB=> ?_)
 rotate_left
 ·obtain⟨⟨i,f,m,a⟩,eF,eM⟩:=s
  obtain⟨b1,b2,b3,b4,b5⟩:=hi
  dsimp only at b1 b2 b3 b4 b5 h0
  subst b3
  obtain⟨x,b,s⟩:=x
  obtain⟨q1,q2,q3⟩:=DK X.xs fr sz i.toNat x b s (by rw [<-h5];exact hx)
  have pF:=pmV b1
  have pM:=pmV b2
  have xM:aX V=(X.xs.length:Int):=xp
  have xP:eF.length<=1048576:=by
   rw [b1,aq]
   omega
  have xQ:i<aX eM:=by rw [b2,aQ,b4,<-xM];exact z1
  have xR:i.toNat<m.length:=by rw [b4];omega
  cbv;rw [hc];cbv;refine goX hg _ z0 hy rfl ?_;cbv
  refine goY hg z0 (by rw [xJ,<-xp];exact z1) fun j hj hS=> ?_
  cbv
  refine⟨_,by rw [hj,hR];exact bf q2,?_⟩
  cases b<;>cbv
  ·refine dg hg rfl (by decide) xP ?_
   cbv
   refine goY hg z0 xQ fun j hj hS=> ?_
   cbv
   refine goN hg ⟨_,by rw [hj,b2];exact bf (zqc xR),rfl⟩ ?_
   cbv
   (first|refine ba hg (dD x GR) rfl (fun Q0 hb=> ?_)|refine aB hg (dD x GR) rfl (fun Q0 hb=> ?_));cbv
   rw [e1,gd hg,mP hg,aN hg]
   have xt:eM.set j [.J x.base]=vw ak (m.set i.toNat x.base):=by rw [iz,b2,hj];rfl
   have xr:eF++[[.J i]]=vw ak (f++[i]):=by rw [bv,b1];rfl
   exact hB ((⟨i+1,f++[i],m.set i.toNat x.base,wrap64 (a+Q0)⟩,_,_)) _ _ ⟨(by simpa [S1.go,hb,hU]using h0),⟨xr,xt,rfl,by simpa using b4,by simp;omega⟩⟩ (Wk.weak (wkG [some 0,some 1,some 2,some _,some _] zr7 ⟨⟨_,_,rfl,rfl,rfl,rfl,.inr ⟨zr7,trivial⟩⟩,wqE rfl pZ,wqE rfl pR,⟨_,_,rfl,rfl,rfl,rfl,.inl ⟨rfl,xr.symm▸aF _ _⟩⟩,⟨_,_,rfl,rfl,rfl,rfl,.inl ⟨rfl,xt.symm▸aF _ _⟩⟩,trivial⟩))
  ·rw [e1]
   exact hB ((⟨i+1,f,m,a⟩,eF,eM)) _ _ ⟨(by simpa [S1.go]using h0),⟨b1,b2,rfl,b4,by dsimp only;omega⟩⟩ (Wk.weak (wkG [some 0,some 1,some 2,some 3,some 4] zr7 ⟨⟨_,_,rfl,rfl,rfl,rfl,.inr ⟨zr7,trivial⟩⟩,wqE rfl pZ,wqE rfl pR,wqE rfl pF,wqE rfl pM,trivial⟩))
 obtain⟨⟨i,f,m,a⟩,eF,eM⟩:=s
 obtain⟨b1,b2,b3,b4,b5⟩:=hi
 dsimp only at b1 b2 h0
 rw [xn]at h0
 simp only [S1.go,S1.mk.injEq]at h0
 obtain⟨-,h2,h3,h4⟩:=h0
 obtain rfl:FR=f:=h2.symm
 obtain rfl:MX=m:=h3.symm
 obtain rfl:AL=a:=h4.symm
 have xY:=kmV (k:=1) b1 fun _=>rfl
 have xz:=kmV (k:=1) b2 fun _=>rfl
 have xC:=dmV b1
 have xd:=dmV b2
 have x6:=pmV b1
 rw [<-b2]at co
 cbv;rw [he];cbv
 by_cases hn:FR=[]
 ·have e:g .q .eql (g .ln eF) 0=true:=by rw [bj hg,bF hg,b1,hn];rfl
  rw [e]
  cbv
  exact xg hF rfl rfl rfl zr7 pZ pR rfl ⟨_,rfl,p,sz,fr,by simp [hn],by rw [hZ,hR],by simp [hn],by simp [hn]⟩
 have e:g .q .eql (g .ln eF) 0=false:=by
  rw [bj hg,bF hg,b1,aQ]
  have:FR.length≠0:=fun h=>hn (zqv h)
  simp;omega
 rw [e]
 cbv
 first|(refine fJ hg co (ah (ao rfl) (ah (aZ (ab:=⟨_,_,eM⟩) rfl xz xd) (ah (ao rfl) (av)))) rfl ?_;cbv)|(refine dL hg co (ah (ao rfl) (ah (aZ (ab:=⟨_,_,eM⟩) rfl xz xd) (ah (ao rfl) (av)))) rfl ?_;cbv)
 obtain⟨p1,xS⟩:∃p1,p1=g .w .add .i64 p 1:=⟨_,rfl⟩
 rw [<-xS]
 obtain⟨n,xa⟩:∃n,n=g .w .sub .i64 X.inner OV:=⟨_,rfl⟩
 rw [<-xa]
 rw [bZ hg]at xa
 have xu:rt=if(GR=true/\n<0)\/(GR=false/\0<n)then 0 else sg n:=by rw [hU,xv,Fx.rI,uZ,xa,xi,h9]
 have t0:g .q .gtr n 0=decide (0<n):=by rw [cu hg]
 have t1:g .q .lss n 0=decide (n<0):=bh hg _ _
 have s0:sg 0=0:=by decide
 have r0:∀q,g .q .gtr n 0=q->GR=false->rt=sg (if q then 0 else n):=fun q h1 h2=>by
  rw [t0]at h1
  rw [xu,h2]
  cases q
  ·have:=of_decide_eq_false h1
   rw [if_neg (by simp;omega)];rfl
  ·have:=of_decide_eq_true h1
   rw [if_pos (by simp;omega)];exact s0.symm
 have r1:∀q,g .q .lss n 0=q->GR=true->rt=sg (if q then 0 else n):=fun q h1 h2=>by
  rw [t1]at h1
  rw [xu,h2]
  cases q
  ·have:=of_decide_eq_false h1
   rw [if_neg (by simp;omega)];rfl
  ·have:=of_decide_eq_true h1
   rw [if_pos (by simp;omega)];exact s0.symm
 obtain⟨LO,hE⟩:=nmE (X.low fr rt)
 obtain⟨HI,hC⟩:=nmE (X.hig fr rt)
 obtain⟨VI,hH⟩:=nmE (X.vio fr rt)
 obtain⟨WS,hW⟩:=nmE (X.ws fr)
 obtain⟨R2,xo⟩:=nmE (S2.mk LO HI VI WS)
 have xF:S2.go X AL rt ⟨[],[],0,[]⟩ FR=R2:=by
  rw [S2.go_eq,xo,hE,hC,hH,hW,hk,xf]
  simp [Fx.low,Fx.hig,Fx.vio,Fx.ws]
 have xN:=b1
 have x0:FR.length<=12:=by have:=jQ fr 0;rw [<-hk,hf]at this;omega
 have h7:FR.length<=1048576:=by omega
 cases hG:GR<;>cbv
 rotate_left
 cases hq:g .q .lss n 0
 rotate_left 2
 cases hq:g .q .gtr n 0
 all_goals
  cbv
  (first|refine ba hg (bN _) rfl (fun R0 xm=> ?_)|refine aB hg (bN _) rfl (fun R0 xm=> ?_));cbv
  obtain rfl:rt=R0:=by rw [xm];first|exact r0 _ hq hG|exact r1 _ hq hG
  refine aY hg ay (by kernel_rfl) eF (fun x=>lc (ak x)) FR xN h7 (fun z(s:S2×LLA×LLA×LLA)=>[(0,.p 0),(3,.v eF),(5,.i (AL)),(8,.i (rt)),(9,.o 3),(10,.o 4),(11,.i (s.1.v)),(12,.o 5),(112,.v eF),(113,.i (g .ln eF)),(114,.i (z))]) (fun z(s:S2×LLA×LLA×LLA)=>[.bx 289 7 [.view V,.J X.gap,.J X.inner,.B GR,.own 1,.own 2,.J p1],.rw ⟨3,1,Z⟩,.rw ⟨4,1,R⟩,.rw ⟨3,1,s.2.1⟩,.rw ⟨3,1,s.2.2.1⟩,.rw ⟨3,1,s.2.2.2⟩]) (fun z(s:S2×LLA×LLA×LLA)=>s.2.1=vw ak s.1.l/\s.2.2.1=vw ak s.1.h/\s.2.2.2=vw ak s.1.w/\(s.1.l.length:Int)<=z/\(s.1.h.length:Int)<=z/\(s.1.w.length:Int)<=z) (fun(s:S2×LLA×LLA×LLA) rest=>S2.go X AL rt s.1 rest) (R2) (⟨[],[],0,[]⟩,[],[],[]) xF ⟨rfl,rfl,rfl,by simp,by simp,by simp⟩ (bH (sl1 3 eF) (jh rfl xY xC) (Wk.weak (wkG [some 0,some 1,some 2,none,none,none] DI ⟨⟨_,_,rfl,rfl,rfl,rfl,.inr ⟨⟨rfl,rfl,rfl,(by rw [hG];exact rfl),rfl,rfl,rfl,trivial⟩,trivial⟩⟩,⟨_,_,rfl,rfl,rfl,rfl,.inl (bG pZ)⟩,⟨_,_,rfl,rfl,rfl,rfl,.inl (bG pR)⟩,⟨_,rfl,rfl⟩,⟨_,rfl,rfl⟩,⟨_,rfl,rfl⟩,trivial⟩))) (fun z s B hz h0 hi he=> ?_) (fun z s x rest B z0 z1 z2 hx hy h0 hi hc e1 hB=> ?_)
  rotate_left
  ·obtain⟨⟨lo,hA,v,ws⟩,eL,eH,eW⟩:=s
   obtain⟨c1,c2,c3,c4,c5,c6⟩:=hi
   dsimp only at c1 c2 c3 c4 c5 c6 h0
   have hd:x∈fre 0 fr:=hk▸zqd hx
   have ho:=gO fr 0 (Int.le_refl 0) x hd
   obtain⟨y,hp⟩:=nmE (itA X.xs x)
   have hu:V[x.toNat]? =some (lc (ag.c y)):=by rw [hD,hp];exact bf (oI ho.1 (by rw [<-hf];omega))
   have xV:=ho.1
   have lL:eL.length<=1048576:=by rw [c1,aq];omega
   have lH:eH.length<=1048576:=by rw [c2,aq];omega
   have lW:eW.length<=1048576:=by rw [c3,aq];omega
   obtain⟨y0,y1,y2,y3,y4,y5,y6,y7,y8⟩:=y
   have aL:eL++[[.J x]]=vw ak (lo++[x]):=by rw [bv,c1];rfl
   have aH:eH++[[.J x]]=vw ak (hA++[x]):=by rw [bv,c2];rfl
   have aW:eW++[[.J (wgt GR ⟨y0,y1,y2,y3,y4,y5,y6,y7,y8⟩)]]=vw ak (ws++[wgt GR ⟨y0,y1,y2,y3,y4,y5,y6,y7,y8⟩]):=by rw [bv,c3];rfl
   have pL:=pmV c1
   have pH:=pmV c2
   cbv;rw [hc];cbv;refine goX hg _ z0 hy rfl ?_;cbv
   refine goX hg _ xV hu rfl ?_
   cbv
   (first|refine ba hg (dD ⟨y0,y1,y2,y3,y4,y5,y6,y7,y8⟩ GR) rfl (fun Q0 hb=> ?_)|refine aB hg (dD ⟨y0,y1,y2,y3,y4,y5,y6,y7,y8⟩ GR) rfl (fun Q0 hb=> ?_));cbv
   refine dg hg rfl (by decide) lW ?_
   cbv
   have xK:g .q .lss (g .w .add .i64 (g .w .mul .i64 y0 AL) (g .w .mul .i64 rt Q0)) (g .w .mul .i64 y1 AL)=pr GR AL rt ⟨y0,y1,y2,y3,y4,y5,y6,y7,y8⟩:=by simp only [bh hg,aN hg,gc hg,hb];rfl
   rw [xK]
   have hgo:S2.go X AL rt ⟨if pr GR AL rt ⟨y0,y1,y2,y3,y4,y5,y6,y7,y8⟩then lo++[x]else lo,if !pr GR AL rt ⟨y0,y1,y2,y3,y4,y5,y6,y7,y8⟩&&uE GR AL rt ⟨y0,y1,y2,y3,y4,y5,y6,y7,y8⟩then hA++[x]else hA,uY GR AL rt v ⟨y0,y1,y2,y3,y4,y5,y6,y7,y8⟩,ws++[wgt GR ⟨y0,y1,y2,y3,y4,y5,y6,y7,y8⟩]⟩ rest=R2:=by rw [hp,hU];exact h0
   cases hl:pr GR AL rt ⟨y0,y1,y2,y3,y4,y5,y6,y7,y8⟩
   ·cbv
    cases h2:g .q .geq y2 0
    ·have hh:uE GR AL rt ⟨y0,y1,y2,y3,y4,y5,y6,y7,y8⟩=false:=by
      rw [iu hg]at h2
      have:=of_decide_eq_false h2
      simp [uE];omega
     have hv:uY GR AL rt v ⟨y0,y1,y2,y3,y4,y5,y6,y7,y8⟩=v:=by unfold uY;rw [hl,hh];rfl
     rw [hl,hh,hv]at hgo
     cbv
     rw [e1,gd hg,hb,aW]
     exact hB ((⟨lo,hA,v,ws++[wgt GR ⟨y0,y1,y2,y3,y4,y5,y6,y7,y8⟩]⟩,eL,eH,_)) _ _ ⟨hgo,⟨c1,c2,rfl,by dsimp only;omega,by dsimp only;omega,by simp;omega⟩⟩ (Wk.weak (wkG [some 0,some 1,some 2,some 3,some 4,some _] DI ⟨⟨_,_,rfl,rfl,rfl,rfl,.inr ⟨zr7,trivial⟩⟩,wqE rfl pZ,wqE rfl pR,wqE rfl pL,wqE rfl pH,⟨_,_,rfl,rfl,rfl,rfl,.inl ⟨rfl,aF _ _⟩⟩,trivial⟩))
    ·cbv
     (first|refine ba hg (dX ⟨y0,y1,y2,y3,y4,y5,y6,y7,y8⟩) rfl (fun Q1 xj=> ?_)|refine aB hg (dX ⟨y0,y1,y2,y3,y4,y5,y6,y7,y8⟩) rfl (fun Q1 xj=> ?_));cbv
     have xE:(decide (0<=y2))=true:=by rw [iu hg]at h2;exact h2
     have xL:g .q .gtr (g .w .add .i64 (g .w .mul .i64 y0 AL) (g .w .mul .i64 rt Q0)) (g .w .mul .i64 Q1 AL)=uE GR AL rt ⟨y0,y1,y2,y3,y4,y5,y6,y7,y8⟩:=by simp only [cu hg,aN hg,gc hg,hb,xj];unfold uE;rw [show(decide (0<=ag.most ⟨y0,y1,y2,y3,y4,y5,y6,y7,y8⟩))=true from xE,Bool.true_and];rfl
     rw [xL]
     cases hh:uE GR AL rt ⟨y0,y1,y2,y3,y4,y5,y6,y7,y8⟩
     ·have hv:uY GR AL rt v ⟨y0,y1,y2,y3,y4,y5,y6,y7,y8⟩=v:=by unfold uY;rw [hl,hh];rfl
      rw [hl,hh,hv]at hgo
      cbv
      rw [e1,gd hg,hb,aW]
      exact hB ((⟨lo,hA,v,ws++[wgt GR ⟨y0,y1,y2,y3,y4,y5,y6,y7,y8⟩]⟩,eL,eH,_)) _ _ ⟨hgo,⟨c1,c2,rfl,by dsimp only;omega,by dsimp only;omega,by simp;omega⟩⟩ (Wk.weak (wkG [some 0,some 1,some 2,some 3,some 4,some _] DI ⟨⟨_,_,rfl,rfl,rfl,rfl,.inr ⟨zr7,trivial⟩⟩,wqE rfl pZ,wqE rfl pR,wqE rfl pL,wqE rfl pH,⟨_,_,rfl,rfl,rfl,rfl,.inl ⟨rfl,aF _ _⟩⟩,trivial⟩))
     ·cbv
      refine dg hg rfl (by decide) lH ?_
      cbv
      (first|refine ba hg (dX ⟨y0,y1,y2,y3,y4,y5,y6,y7,y8⟩) rfl (fun Q2 xk=> ?_)|refine aB hg (dX ⟨y0,y1,y2,y3,y4,y5,y6,y7,y8⟩) rfl (fun Q2 xk=> ?_));cbv
      have hv:g .w .sub .i64 v (g .w .sub .i64 (g .w .add .i64 (g .w .mul .i64 y0 AL) (g .w .mul .i64 rt Q0)) (g .w .mul .i64 Q2 AL))=uY GR AL rt v ⟨y0,y1,y2,y3,y4,y5,y6,y7,y8⟩:=by unfold uY;rw [hl,hh];simp only [bZ hg,aN hg,gc hg,hb,xk];rfl
      rw [hl,hh]at hgo
      rw [e1,hv]
      simp only [gd hg,hb,aW,aH]
      exact hB ((⟨lo,hA++[x],uY GR AL rt v ⟨y0,y1,y2,y3,y4,y5,y6,y7,y8⟩,ws++[wgt GR ⟨y0,y1,y2,y3,y4,y5,y6,y7,y8⟩]⟩,eL,_,_)) _ _ ⟨hgo,⟨c1,rfl,rfl,by dsimp only;omega,by simp;omega,by simp;omega⟩⟩ (Wk.weak (wkG [some 0,some 1,some 2,some 3,some _,some _] DI ⟨⟨_,_,rfl,rfl,rfl,rfl,.inr ⟨zr7,trivial⟩⟩,wqE rfl pZ,wqE rfl pR,wqE rfl pL,⟨_,_,rfl,rfl,rfl,rfl,.inl ⟨rfl,aF _ _⟩⟩,⟨_,_,rfl,rfl,rfl,rfl,.inl ⟨rfl,aF _ _⟩⟩,trivial⟩))
   ·cbv
    refine dg hg rfl (by decide) lL ?_
    cbv
    have hv:g .w .add .i64 v (g .w .sub .i64 (g .w .mul .i64 y1 AL) (g .w .add .i64 (g .w .mul .i64 y0 AL) (g .w .mul .i64 rt Q0)))=uY GR AL rt v ⟨y0,y1,y2,y3,y4,y5,y6,y7,y8⟩:=by unfold uY;rw [hl];simp only [bZ hg,aN hg,gc hg,hb];rfl
    rw [hl]at hgo
    rw [e1,hv]
    simp only [gd hg,hb,aW,aL]
    exact hB ((⟨lo++[x],hA,uY GR AL rt v ⟨y0,y1,y2,y3,y4,y5,y6,y7,y8⟩,ws++[wgt GR ⟨y0,y1,y2,y3,y4,y5,y6,y7,y8⟩]⟩,_,eH,_)) _ _ ⟨hgo,⟨rfl,c2,rfl,by simp;omega,by dsimp only;omega,by simp;omega⟩⟩ (Wk.weak (wkG [some 0,some 1,some 2,some _,some 4,some _] DI ⟨⟨_,_,rfl,rfl,rfl,rfl,.inr ⟨zr7,trivial⟩⟩,wqE rfl pZ,wqE rfl pR,⟨_,_,rfl,rfl,rfl,rfl,.inl ⟨rfl,aF _ _⟩⟩,wqE rfl pH,⟨_,_,rfl,rfl,rfl,rfl,.inl ⟨rfl,aF _ _⟩⟩,trivial⟩))
  ·obtain⟨⟨lo,hA,v,ws⟩,eL,eH,eW⟩:=s
   obtain⟨c1,c2,c3,-,-,-⟩:=hi
   dsimp only at c1 c2 c3 h0
   rw [xo]at h0
   simp only [S2.go,S2.mk.injEq]at h0
   obtain⟨g1,g2,g3,g4⟩:=h0
   obtain rfl:LO=lo:=g1.symm
   obtain rfl:HI=hA:=g2.symm
   obtain rfl:VI=v:=g3.symm
   obtain rfl:WS=ws:=g4.symm
   have xO:=c1
   have xq:=c2
   have pL:=pmV c1
   have pH:=pmV c2
   have xZ:=kmV (k:=1) c1 fun _=>rfl
   have xy:=kmV (k:=1) c2 fun _=>rfl
   have xA:=kmV (k:=1) c3 fun _=>rfl
   have xD:=dmV c1
   have xc:=dmV c2
   have xe:=dmV c3
   have xh:LO.length<=1048576:=by have:=List.length_filter_le (fun i=>pr X.gr (X.all fr) rt (itA X.xs i)) FR;rw [hE,Fx.low,<-hk];omega
   have h8:HI.length<=1048576:=by have:=List.length_filter_le (fun i=> !pr X.gr (X.all fr) rt (itA X.xs i)&&uE X.gr (X.all fr) rt (itA X.xs i)) FR;rw [hC,Fx.hig,<-hk];omega
   have xU:g .q .eql (g .w .add .i64 (g .ln eL) (g .ln eH)) 0=decide (LO=[]/\HI=[]):=by
    rw [bj hg,aN hg,bF hg,bF hg,c1,c2,aQ,aQ]
    exact BM xh h8
   cbv;rw [he];cbv
   rw [xU]
   by_cases hlh:LO=[]/\HI=[]
   ·rw [zqu hlh]
    cbv
    have x3:(shr rt WS).length=FR.length:=by rw [hW,hk];exact X.shr_len hX hf rt
    have cs:=nD rt WS (by rw [hW,Fx.ws,zql,<-hk];omega)
    obtain⟨ES,hr⟩:=nmE (vw ak (shr rt WS))
    obtain⟨qs,hY⟩:=nmE (FR.zip (shr rt WS))
    have xH:ES=qs.map fun p=>lc (ak p.2):=by
     rw [hr,hY,vw]
     conv=>lhs;rw [<-List.map_snd_zip (l₁:=FR) (l₂:=shr rt WS) (by omega)]
     rw [List.map_map];rfl
    have xT:qs.length<=1048576:=by rw [hY,zqB];omega
    have xx:=imV hr
    have xX:=kmV (k:=1) hr fun _=>rfl
    have xB:=dmV hr
    rw [<-c3,<-hr]at cs
    obtain⟨R3,hO⟩:=nmE (S3.go ⟨sz,fr⟩ (X.shs fr rt))
    have xG:S3.go ⟨sz,fr⟩ (qs.map fun p=>(p.1,cl (wrap64 ((itA X.xs p.1).base+p.2))))=R3:=by rw [hO,Fx.shs,hY,<-hk,<-hW]
    have xb:X.setI fr rt=X.shs fr rt:=by unfold Fx.setI;rw [<-hE,<-hC,if_pos hlh]
    first|(refine bE hg cs (ah (ao rfl) (ah (aZ (ab:=⟨_,_,eW⟩) rfl xA xe) (av))) xx ?_;cbv)|(refine bO hg cs (ah (ao rfl) (ah (aZ (ab:=⟨_,_,eW⟩) rfl xA xe) (av))) xx ?_;cbv)
    refine aY hg ay (by kernel_rfl) ES (fun p=>lc (ak p.2)) qs xH xT (fun z(s:S3×LLA×LLA)=>[(0,.p 0),(3,.v eF),(195,.v ES),(196,.i (g .ln ES)),(197,.i (z))]) (fun z(s:S3×LLA×LLA)=>[.bx 289 7 [.view V,.J X.gap,.J X.inner,.B GR,.own 1,.own 2,.J p1],.rw ⟨3,1,s.2.1⟩,.rw ⟨4,1,s.2.2⟩]) (fun z(s:S3×LLA×LLA)=>s.2.1=vw ak s.1.s/\s.2.2=vw lR s.1.f/\s.1.s.length=X.xs.length/\s.1.f.length=X.xs.length) (fun(s:S3×LLA×LLA) rest=>S3.go s.1 (rest.map fun p=>(p.1,cl (wrap64 ((itA X.xs p.1).base+p.2))))) (R3) (⟨sz,fr⟩,Z,R) xG ⟨hZ,hR,hs,hf⟩ (bH (sl1 6 ES) (jh rfl xX xB) (Wk.weak (wkG [some 0,some 1,some 2] zr5 ⟨⟨_,_,rfl,rfl,rfl,rfl,.inr ⟨zr7,trivial⟩⟩,⟨_,_,rfl,rfl,rfl,rfl,.inl (bG pZ)⟩,⟨_,_,rfl,rfl,rfl,rfl,.inl (bG pR)⟩,trivial⟩))) (fun z s B hz h0 hi he=> ?_) (fun z s x rest B z0 z1 z2 hx hy h0 hi hc e1 hB=> ?_)
    ·obtain⟨⟨q,w⟩,eZ,eR⟩:=s
     obtain⟨k1,k2,k3,k4⟩:=hi
     dsimp only at k1 k2 k3 k4 h0
     cbv;rw [he];cbv
     have ha:S3.mk q w=R3:=h0
     rw [hO]at ha
     simp only [S3.go,S3.mk.injEq,<-xb]at ha
     exact xg hF rfl rfl rfl zr7 (by rw [k1];exact aF _ _) (by rw [k2];exact aF _ _) rfl ⟨_,rfl,p1,q,w,by simp [hn],by rw [k1,k2],by rw [if_neg hn];exact ha.1.symm▸rfl,by rw [if_neg hn];exact ha.2.symm▸rfl⟩
    ·obtain⟨i,sh⟩:=x
     have xw:FR[z.toNat]? =some i:=by
      rw [hY,List.getElem?_zip_eq_some]at hx
      exact hx.1
     have hd:i∈fre 0 fr:=hk▸zqd xw
     have xI:eF[z.toNat]? =some (lc (ak i)):=by rw [b1];exact bf xw
     obtain⟨⟨q,w⟩,eZ,eR⟩:=s
     obtain⟨k1,k2,k3,k4⟩:=hi
     dsimp only at k1 k2 k3 k4 h0
     have ho:=gO fr 0 (Int.le_refl 0) i hd
     have hm:=ho.1
     obtain⟨y,hp⟩:=nmE (itA X.xs i)
     have hu:V[i.toNat]? =some (lc (ag.c y)):=by rw [hD,hp];exact bf (oI ho.1 (by rw [<-hf];omega))
     have hI:i<aX eR:=by rw [k2,aQ,k4,<-hf];omega
     have hJ:i<aX eZ:=by rw [k1,aQ,k3,<-hf];omega
     have hL:i.toNat<w.length:=by rw [k4,<-hf];omega
     have hK:i.toNat<q.length:=by rw [k3,<-hf];omega
     have sR:eR.set i.toNat [.B true]=vw lR (w.set i.toNat true):=by rw [iz,k2];rfl
     have sZ:∀u:Int,eZ.set i.toNat [.J u]=vw ak (q.set i.toNat u):=fun u=>by rw [iz,k1];rfl
     obtain⟨y0,y1,y2,y3,y4,y5,y6,y7,y8⟩:=y
     cbv;rw [hc];cbv;refine goX hg _ z0 hy rfl ?_;cbv
     refine goX hg _ z0 xI rfl ?_
     cbv
     refine goY hg hm hI fun j hj hS=> ?_
     cbv
     refine goN hg ⟨_,by rw [hj,k2];exact bf (zqc hL),rfl⟩ ?_
     cbv
     refine goX hg _ hm hu rfl ?_
     cbv
     (first|refine ba hg (aK _) rfl (fun Q0 hb=> ?_)|refine aB hg (aK _) rfl (fun Q0 hb=> ?_));cbv
     refine goY hg hm hJ fun j2 ht hM=> ?_
     cbv
     refine goN hg ⟨_,by rw [ht,k1];exact bf (zqc hK),rfl⟩ ?_
     cbv
     rw [e1]
     simp only [mP hg]
     subst hj ht
     exact hB ((⟨q.set i.toNat Q0,w.set i.toNat true⟩,_,_)) _ _ ⟨(by rw [hb,aN hg];rw [<-h0,zqA,S3.go_cons,<-hp]),⟨sZ _,sR,by simpa using k3,by simpa using k4⟩⟩ (Wk.weak (wkG [some 0,some 1,some 2] zr5 ⟨⟨_,_,rfl,rfl,rfl,rfl,.inr ⟨zr7,trivial⟩⟩,⟨_,_,rfl,rfl,rfl,rfl,.inl ⟨rfl,(sZ _).symm▸aF _ _⟩⟩,⟨_,_,rfl,rfl,rfl,rfl,.inl ⟨rfl,sR.symm▸aF _ _⟩⟩,trivial⟩))
   ·rw [zqt hlh]
    cbv
    have tv:g .q .geq VI 0=decide (0<=VI):=iu hg _ _
    have tw:g .q .leq VI 0=decide (VI<=0):=iy hg _ _
    have hN:¬(X.low fr rt=[]/\X.hig fr rt=[]):=by rw [<-hE,<-hC];exact hlh
    obtain⟨R4,hQ⟩:=nmE (S3.mk (o3 (X.setI fr rt) sz) (oE ((X.setI fr rt).map (·.1)) fr))
    by_cases v0:0<=VI
    ·rw [tv,zqu v0]
     cbv
     obtain⟨R3,hO⟩:=nmE (S3.go ⟨sz,fr⟩ (LO.map fun i=>(i,(itA X.xs i).least)))
     refine aY hg ay (by kernel_rfl) eL (fun x=>lc (ak x)) LO xO xh (fun z(s:S3×LLA×LLA)=>[(0,.p 0),(10,.o 3),(11,.i (VI)),(232,.v eL),(233,.i (g .ln eL)),(234,.i (z))]) (fun z(s:S3×LLA×LLA)=>[.bx 289 7 [.view V,.J X.gap,.J X.inner,.B GR,.own 1,.own 2,.J p1],.rw ⟨3,1,s.2.1⟩,.rw ⟨4,1,s.2.2⟩,.rw ⟨3,1,eH⟩]) (fun z(s:S3×LLA×LLA)=>s.2.1=vw ak s.1.s/\s.2.2=vw lR s.1.f/\s.1.s.length=X.xs.length/\s.1.f.length=X.xs.length) (fun(s:S3×LLA×LLA) rest=>S3.go s.1 (rest.map fun i=>(i,(itA X.xs i).least))) (R3) (⟨sz,fr⟩,Z,R) hO.symm ⟨hZ,hR,hs,hf⟩ (bH (sl1 3 eL) (jh rfl xZ xD) (Wk.weak (wkG [some 0,some 1,some 2,some 4] zr6 ⟨⟨_,_,rfl,rfl,rfl,rfl,.inr ⟨zr7,trivial⟩⟩,⟨_,_,rfl,rfl,rfl,rfl,.inl (bG pZ)⟩,⟨_,_,rfl,rfl,rfl,rfl,.inl (bG pR)⟩,⟨_,_,rfl,rfl,rfl,rfl,.inl (bG pH)⟩,trivial⟩))) (fun z s B hz h0 hi he=> ?_) (fun z s x rest B z0 z1 z2 hx hy h0 hi hc e1 hB=> ?_)
     rotate_left
     ·have hd:x∈fre 0 fr:=by
       have:=zqd hx
       rw [hE,Fx.low,<-hk]at this
       exact hk▸(List.mem_filter.1 this).1
      obtain⟨⟨q,w⟩,eZ,eR⟩:=s
      obtain⟨k1,k2,k3,k4⟩:=hi
      dsimp only at k1 k2 k3 k4 h0
      have ho:=gO fr 0 (Int.le_refl 0) x hd
      have hm:=ho.1
      obtain⟨y,hp⟩:=nmE (itA X.xs x)
      have hu:V[x.toNat]? =some (lc (ag.c y)):=by rw [hD,hp];exact bf (oI ho.1 (by rw [<-hf];omega))
      have hI:x<aX eR:=by rw [k2,aQ,k4,<-hf];omega
      have hJ:x<aX eZ:=by rw [k1,aQ,k3,<-hf];omega
      have hL:x.toNat<w.length:=by rw [k4,<-hf];omega
      have hK:x.toNat<q.length:=by rw [k3,<-hf];omega
      have sR:eR.set x.toNat [.B true]=vw lR (w.set x.toNat true):=by rw [iz,k2];rfl
      have sZ:∀u:Int,eZ.set x.toNat [.J u]=vw ak (q.set x.toNat u):=fun u=>by rw [iz,k1];rfl
      obtain⟨y0,y1,y2,y3,y4,y5,y6,y7,y8⟩:=y
      cbv;rw [hc];cbv;refine goX hg _ z0 hy rfl ?_;cbv
      refine goY hg hm hI fun j hj hS=> ?_
      cbv
      refine goN hg ⟨_,by rw [hj,k2];exact bf (zqc hL),rfl⟩ ?_
      cbv
      refine goX hg _ hm hu rfl ?_
      cbv
      refine goY hg hm hJ fun j2 ht hM=> ?_
      cbv
      refine goN hg ⟨_,by rw [ht,k1];exact bf (zqc hK),rfl⟩ ?_
      cbv
      rw [e1]
      simp only [mP hg]
      subst hj ht
      exact hB ((⟨q.set x.toNat y1,w.set x.toNat true⟩,_,_)) _ _ ⟨(by rw [show y1=(itA X.xs x).least by rw [<-hp]];exact h0),⟨sZ _,sR,by simpa using k3,by simpa using k4⟩⟩ (Wk.weak (wkG [some 0,some 1,some 2,some 3] zr6 ⟨⟨_,_,rfl,rfl,rfl,rfl,.inr ⟨zr7,trivial⟩⟩,⟨_,_,rfl,rfl,rfl,rfl,.inl ⟨rfl,(sZ _).symm▸aF _ _⟩⟩,⟨_,_,rfl,rfl,rfl,rfl,.inl ⟨rfl,sR.symm▸aF _ _⟩⟩,wqE rfl pH,trivial⟩))
     ·obtain⟨⟨q,w⟩,eZ,eR⟩:=s
      obtain⟨k1,k2,k3,k4⟩:=hi
      dsimp only at k1 k2 k3 k4 h0
      have pq:=pmV k1
      have pw:=pmV k2
      have hT:S3.mk q w=R3:=h0
      cbv;rw [he];cbv
      by_cases v1:VI<=0
      ·rw [tw,zqu v1]
       cbv
       have h6:S3.go ⟨q,w⟩ (HI.map fun i=>(i,pU (itA X.xs i)))=R4:=by
        rw [hT,hO,hQ]
        exact X.setI_two fr rt sz hN _ _ (by rw [<-hH,if_pos v0,hE]) (by rw [<-hH,if_pos v1,hC])
       refine aY hg ay (by kernel_rfl) eH (fun x=>lc (ak x)) HI xq h8 (fun z(s:S3×LLA×LLA)=>[(0,.p 0),(261,.v eH),(262,.i (g .ln eH)),(263,.i (z))]) (fun z(s:S3×LLA×LLA)=>[.bx 289 7 [.view V,.J X.gap,.J X.inner,.B GR,.own 1,.own 2,.J p1],.rw ⟨3,1,s.2.1⟩,.rw ⟨4,1,s.2.2⟩]) (fun z(s:S3×LLA×LLA)=>s.2.1=vw ak s.1.s/\s.2.2=vw lR s.1.f/\s.1.s.length=X.xs.length/\s.1.f.length=X.xs.length) (fun(s:S3×LLA×LLA) rest=>S3.go s.1 (rest.map fun i=>(i,pU (itA X.xs i)))) (R4) (⟨q,w⟩,eZ,eR) h6 ⟨k1,k2,k3,k4⟩ (bH (sl1 3 eH) (jh rfl xy xc) (Wk.weak (wkG [some 0,some 1,some 2] zr4 ⟨⟨_,_,rfl,rfl,rfl,rfl,.inr ⟨zr7,trivial⟩⟩,⟨_,_,rfl,rfl,rfl,rfl,.inl (bG pq)⟩,⟨_,_,rfl,rfl,rfl,rfl,.inl (bG pw)⟩,trivial⟩))) (fun z s B hz h0 hi he=> ?_) (fun z s x rest B z0 z1 z2 hx hy h0 hi hc e1 hB=> ?_)
       rotate_left
       ·have hd:x∈fre 0 fr:=by
         have:=zqd hx
         rw [hC,Fx.hig,<-hk]at this
         exact hk▸(List.mem_filter.1 this).1
        obtain⟨⟨q,w⟩,eZ,eR⟩:=s
        obtain⟨k1,k2,k3,k4⟩:=hi
        dsimp only at k1 k2 k3 k4 h0
        have ho:=gO fr 0 (Int.le_refl 0) x hd
        have hm:=ho.1
        obtain⟨y,hp⟩:=nmE (itA X.xs x)
        have hu:V[x.toNat]? =some (lc (ag.c y)):=by rw [hD,hp];exact bf (oI ho.1 (by rw [<-hf];omega))
        have hI:x<aX eR:=by rw [k2,aQ,k4,<-hf];omega
        have hJ:x<aX eZ:=by rw [k1,aQ,k3,<-hf];omega
        have hL:x.toNat<w.length:=by rw [k4,<-hf];omega
        have hK:x.toNat<q.length:=by rw [k3,<-hf];omega
        have sR:eR.set x.toNat [.B true]=vw lR (w.set x.toNat true):=by rw [iz,k2];rfl
        have sZ:∀u:Int,eZ.set x.toNat [.J u]=vw ak (q.set x.toNat u):=fun u=>by rw [iz,k1];rfl
        obtain⟨y0,y1,y2,y3,y4,y5,y6,y7,y8⟩:=y
        cbv;rw [hc];cbv;refine goX hg _ z0 hy rfl ?_;cbv
        refine goY hg hm hI fun j hj hS=> ?_
        cbv
        refine goN hg ⟨_,by rw [hj,k2];exact bf (zqc hL),rfl⟩ ?_
        cbv
        refine goX hg _ hm hu rfl ?_
        cbv
        (first|refine ba hg (dX ⟨y0,y1,y2,y3,y4,y5,y6,y7,y8⟩) rfl (fun Q0 hb=> ?_)|refine aB hg (dX ⟨y0,y1,y2,y3,y4,y5,y6,y7,y8⟩) rfl (fun Q0 hb=> ?_));cbv
        refine goY hg hm hJ fun j2 ht hM=> ?_
        cbv
        refine goN hg ⟨_,by rw [ht,k1];exact bf (zqc hK),rfl⟩ ?_
        cbv
        rw [e1]
        simp only [mP hg]
        subst hj ht
        exact hB ((⟨q.set x.toNat Q0,w.set x.toNat true⟩,_,_)) _ _ ⟨(by rw [hb,hp];exact h0),⟨sZ _,sR,by simpa using k3,by simpa using k4⟩⟩ (Wk.weak (wkG [some 0,some 1,some 2] zr4 ⟨⟨_,_,rfl,rfl,rfl,rfl,.inr ⟨zr7,trivial⟩⟩,⟨_,_,rfl,rfl,rfl,rfl,.inl ⟨rfl,(sZ _).symm▸aF _ _⟩⟩,⟨_,_,rfl,rfl,rfl,rfl,.inl ⟨rfl,sR.symm▸aF _ _⟩⟩,trivial⟩))
       ·obtain⟨⟨q,w⟩,eZ,eR⟩:=s
        obtain⟨k1,k2,k3,k4⟩:=hi
        dsimp only at k1 k2 k3 k4 h0
        cbv;rw [he];cbv
        have ha:S3.mk q w=R4:=h0
        rw [hQ]at ha
        simp only [S3.mk.injEq]at ha
        exact xg hF rfl rfl rfl zr7 (by rw [k1];exact aF _ _) (by rw [k2];exact aF _ _) rfl ⟨_,rfl,p1,q,w,by simp [hn],by rw [k1,k2],by rw [if_neg hn];exact ha.1,by rw [if_neg hn];exact ha.2⟩
      ·rw [tw,zqt v1]
       cbv
       have ha:S3.mk q w=R4:=by
        rw [hT,hO,hQ]
        exact X.setI_two fr rt sz hN _ [] (by rw [<-hH,if_pos v0,hE]) (by rw [<-hH,if_neg v1])
       rw [hQ]at ha
       simp only [S3.mk.injEq]at ha
       exact xg hF rfl rfl rfl zr7 (by rw [k1];exact aF _ _) (by rw [k2];exact aF _ _) rfl ⟨_,rfl,p1,q,w,by simp [hn],by rw [k1,k2],by rw [if_neg hn];exact ha.1,by rw [if_neg hn];exact ha.2⟩
    ·rw [tv,zqt v0]
     cbv
     rw [tw,zqu (by omega)]
     cbv
     have h6:S3.go ⟨sz,fr⟩ (HI.map fun i=>(i,pU (itA X.xs i)))=R4:=by
      rw [hQ]
      exact X.setI_two fr rt sz hN [] _ (by rw [<-hH,if_neg v0]) (by rw [<-hH,if_pos (by omega),hC])
     refine aY hg ay (by kernel_rfl) eH (fun x=>lc (ak x)) HI xq h8 (fun z(s:S3×LLA×LLA)=>[(0,.p 0),(261,.v eH),(262,.i (g .ln eH)),(263,.i (z))]) (fun z(s:S3×LLA×LLA)=>[.bx 289 7 [.view V,.J X.gap,.J X.inner,.B GR,.own 1,.own 2,.J p1],.rw ⟨3,1,s.2.1⟩,.rw ⟨4,1,s.2.2⟩]) (fun z(s:S3×LLA×LLA)=>s.2.1=vw ak s.1.s/\s.2.2=vw lR s.1.f/\s.1.s.length=X.xs.length/\s.1.f.length=X.xs.length) (fun(s:S3×LLA×LLA) rest=>S3.go s.1 (rest.map fun i=>(i,pU (itA X.xs i)))) (R4) (⟨sz,fr⟩,Z,R) h6 ⟨hZ,hR,hs,hf⟩ (bH (sl1 4 eH) (jh rfl xy xc) (Wk.weak (wkG [some 0,some 1,some 2] zr4 ⟨⟨_,_,rfl,rfl,rfl,rfl,.inr ⟨zr7,trivial⟩⟩,⟨_,_,rfl,rfl,rfl,rfl,.inl (bG pZ)⟩,⟨_,_,rfl,rfl,rfl,rfl,.inl (bG pR)⟩,trivial⟩))) (fun z s B hz h0 hi he=> ?_) (fun z s x rest B z0 z1 z2 hx hy h0 hi hc e1 hB=> ?_)
     rotate_left
     ·have hd:x∈fre 0 fr:=by
       have:=zqd hx
       rw [hC,Fx.hig,<-hk]at this
       exact hk▸(List.mem_filter.1 this).1
      obtain⟨⟨q,w⟩,eZ,eR⟩:=s
      obtain⟨k1,k2,k3,k4⟩:=hi
      dsimp only at k1 k2 k3 k4 h0
      have ho:=gO fr 0 (Int.le_refl 0) x hd
      have hm:=ho.1
      obtain⟨y,hp⟩:=nmE (itA X.xs x)
      have hu:V[x.toNat]? =some (lc (ag.c y)):=by rw [hD,hp];exact bf (oI ho.1 (by rw [<-hf];omega))
      have hI:x<aX eR:=by rw [k2,aQ,k4,<-hf];omega
      have hJ:x<aX eZ:=by rw [k1,aQ,k3,<-hf];omega
      have hL:x.toNat<w.length:=by rw [k4,<-hf];omega
      have hK:x.toNat<q.length:=by rw [k3,<-hf];omega
      have sR:eR.set x.toNat [.B true]=vw lR (w.set x.toNat true):=by rw [iz,k2];rfl
      have sZ:∀u:Int,eZ.set x.toNat [.J u]=vw ak (q.set x.toNat u):=fun u=>by rw [iz,k1];rfl
      obtain⟨y0,y1,y2,y3,y4,y5,y6,y7,y8⟩:=y
      cbv;rw [hc];cbv;refine goX hg _ z0 hy rfl ?_;cbv
      refine goY hg hm hI fun j hj hS=> ?_
      cbv
      refine goN hg ⟨_,by rw [hj,k2];exact bf (zqc hL),rfl⟩ ?_
      cbv
      refine goX hg _ hm hu rfl ?_
      cbv
      (first|refine ba hg (dX ⟨y0,y1,y2,y3,y4,y5,y6,y7,y8⟩) rfl (fun Q0 hb=> ?_)|refine aB hg (dX ⟨y0,y1,y2,y3,y4,y5,y6,y7,y8⟩) rfl (fun Q0 hb=> ?_));cbv
      refine goY hg hm hJ fun j2 ht hM=> ?_
      cbv
      refine goN hg ⟨_,by rw [ht,k1];exact bf (zqc hK),rfl⟩ ?_
      cbv
      rw [e1]
      simp only [mP hg]
      subst hj ht
      exact hB ((⟨q.set x.toNat Q0,w.set x.toNat true⟩,_,_)) _ _ ⟨(by rw [hb,hp];exact h0),⟨sZ _,sR,by simpa using k3,by simpa using k4⟩⟩ (Wk.weak (wkG [some 0,some 1,some 2] zr4 ⟨⟨_,_,rfl,rfl,rfl,rfl,.inr ⟨zr7,trivial⟩⟩,⟨_,_,rfl,rfl,rfl,rfl,.inl ⟨rfl,(sZ _).symm▸aF _ _⟩⟩,⟨_,_,rfl,rfl,rfl,rfl,.inl ⟨rfl,sR.symm▸aF _ _⟩⟩,trivial⟩))
     ·obtain⟨⟨q,w⟩,eZ,eR⟩:=s
      obtain⟨k1,k2,k3,k4⟩:=hi
      dsimp only at k1 k2 k3 k4 h0
      cbv;rw [he];cbv
      have ha:S3.mk q w=R4:=h0
      rw [hQ]at ha
      simp only [S3.mk.injEq]at ha
      exact xg hF rfl rfl rfl zr7 (by rw [k1];exact aF _ _) (by rw [k2];exact aF _ _) rfl ⟨_,rfl,p1,q,w,by simp [hn],by rw [k1,k2],by rw [if_neg hn];exact ha.1,by rw [if_neg hn];exact ha.2⟩
end Go.Proofs.YtckchgoblpgpbaaGreat
