/- A box's copy; what is kept of a node, sought in turn. -/
import Derived.Test.YtckchgoblpgpbaaGreatJ8av
set_option linter.unusedVariables false
set_option linter.unusedSimpArgs false
set_option maxHeartbeats 3200000
namespace Go.Proofs.YtckchgoblpgpbaaGreat
open Go.ChangeShapes Go.WideShapes Go.ChangeAt Go.RowKit Am Go.Proofs.Tryz
set_option maxRecDepth 100000
abbrev mY:Bool->Array Value:=fun b=> #[.bool b]
def Fx.bx(X:Fx)(p:Int):List AC:=[.view (vw af.c X.xs),.J X.gap,.J X.inner,.B X.gr,.own 1,.own 2,.J p]
structure S1 where
 i:Int
 f:List Int
 m:List Int
 a:Int
def S1.go(gr:Bool):S1->List (af×Bool×Int)->S1
 |s,[]=>s
 |s,(x,f,_)::r=>S1.go gr (if f then⟨s.i+1,s.f,s.m,s.a⟩else⟨s.i+1,s.f++[s.i],s.m.set s.i.toNat x.base,wrap64 (s.a+wgt gr x)⟩) r
def Cy(xs:List af)(fr:List Bool)(sz:List Int):List (af×Bool×Int):=xs.zip (fr.zip sz)
theorem jb{α:Type}(c:α->Array Value)(xs:List α)(j:Nat)(x:α):vw c (xs.set j x)=(vw c xs).set j (lc (c x)):=by simp [vw]
theorem S1.go_eq(X:Fx):∀(xs:List af)(fr:List Bool)(sz:List Int)(dn:List Int)(f:List Int)(a:Int),fr.length=xs.length->sz.length=xs.length->(∀j:Nat,j<xs.length->itA X.xs ((dn.length:Int)+(j:Int))=xs[j]?.getD ⟨0,0,0,0,0,0,0,false,false⟩)->
  S1.go X.gr ⟨dn.length,f,dn++sz,a⟩ (Cy xs fr sz)=⟨(dn.length:Int)+xs.length,f++fre dn.length fr,dn++mix xs fr sz,pJ a ((fre dn.length fr).map fun i=>wgt X.gr (itA X.xs i))⟩
 | [],[],[],dn,f,a,_,_,_=>by simp [Cy,S1.go,fre,mix,pJ]
 | [],_::_,_,_,_,_,h,_,_=>by simp at h
 | [],[],_::_,_,_,_,_,h,_=>by simp at h
 |_::_,[],_,_,_,_,h,_,_=>by simp at h
 |_::_,_::_,[],_,_,_,_,h,_=>by simp at h
 |x::xs,b::fr,s::sz,dn,f,a,h1,h2,h3=>by
  have hx:itA X.xs (dn.length:Int)=x:=by have:=h3 0 (by simp);simpa using this
  have h4:∀v:Int,∀j:Nat,j<xs.length->itA X.xs (((dn++[v]).length:Int)+(j:Int))=xs[j]?.getD ⟨0,0,0,0,0,0,0,false,false⟩:=fun v j hj=>by
   have:=h3 (j+1) (by simp;omega)
   simp only [List.getElem?_cons_succ]at this
   rw [<-this]
   congr 1
   simp only [zqe,zqm]
   omega
  have ih:=fun v f a=>S1.go_eq X xs fr sz (dn++[v]) f a (by simpa using h1) (by simpa using h2) (h4 v)
  have el:∀v:Int,((dn++[v]).length:Int)=dn.length+1:=fun v=>by simp
  have ed:∀(v:Int)(l:List Int),(dn++[v])++l=dn++v::l:=fun v l=>by simp
  have hz:Cy (x::xs) (b::fr) (s::sz)=(x,b,s)::Cy xs fr sz:=rfl
  rw [hz]
  cases b with
  |true=>
   simp only [S1.go,if_true,fre,mix]
   have:=ih s f a
   rw [el,ed,ed]at this
   rw [this,zqx]
   congr 1
   omega
  |false=>
   simp only [S1.go,Bool.false_eq_true,if_false,fre,mix]
   have:=ih x.base (f++[(dn.length:Int)]) (wrap64 (a+wgt X.gr x))
   rw [el,ed,ed]at this
   have e1:(dn++s::sz).set ((dn.length:Int)).toNat x.base=dn++x.base::sz:=by simp
   rw [e1,this,zqx,zqA,pJ,hx,zqC]
   congr 1
   omega
variable {fr:List Bool}
theorem S1.all_(X:Fx){sz:List Int}(hf:fr.length=X.xs.length)(hs:sz.length=X.xs.length):S1.go X.gr ⟨0,[],sz,0⟩ (Cy X.xs fr sz)=⟨X.xs.length,fre 0 fr,mix X.xs fr sz,X.all fr⟩:=by
 have:=S1.go_eq X X.xs fr sz [] [] 0 hf hs (fun j hj=>by simp [itA])
 simpa [Fx.all,Fx.ws]using this
structure S2 where
 l:List Int
 h:List Int
 v:Int
 w:List Int
def S2.go(X:Fx)(A r:Int):S2->List Int->S2
 |s,[]=>s
 |s,i::is=>S2.go X A r ⟨if qX X.gr A r (itA X.xs i)then s.l++[i]else s.l,if !qX X.gr A r (itA X.xs i)&&wQ X.gr A r (itA X.xs i)then s.h++[i]else s.h,xk X.gr A r s.v (itA X.xs i),s.w++[wgt X.gr (itA X.xs i)]⟩ is
theorem S2.go_eq(X:Fx)(A r:Int):∀(is:List Int)(s:S2),S2.go X A r s is=⟨s.l++is.filter fun i=>qX X.gr A r (itA X.xs i),s.h++is.filter fun i=> !qX X.gr A r (itA X.xs i)&&wQ X.gr A r (itA X.xs i),is.foldl (fun v i=>xk X.gr A r v (itA X.xs i)) s.v,s.w++is.map fun i=>wgt X.gr (itA X.xs i)⟩
 | [],s=>by simp [S2.go]
 |i::is,s=>by
  rw [S2.go,S2.go_eq X A r is]
  simp only [List.filter_cons,zqA,List.foldl_cons]
  congr 1
  ·split<;>simp_all
  ·split<;>simp_all
  ·simp
structure S3 where
 s:List Int
 f:List Bool
def S3.go(s:S3)(ps:List (Int×Int)):S3:=⟨qv ps s.s,pX (ps.map (·.1)) s.f⟩
theorem S3.go_cons(s:S3)(p:Int×Int)(ps:List (Int×Int)):S3.go s (p::ps)=S3.go ⟨s.s.set p.1.toNat p.2,s.f.set p.1.toNat true⟩ ps:=rfl
theorem vu:∀(xs:List af)(fr:List Bool)(sz:List Int),fr.length=xs.length->sz.length=xs.length->(Cy xs fr sz).map (·.1)=xs
 | [],_,_,_,_=>rfl
 |x::xs,b::fr,s::sz,h1,h2=>by
  show x::(Cy xs fr sz).map (·.1)=_
  rw [vu xs fr sz (by simpa using h1) (by simpa using h2)]
 |_::_,[],_,h,_=>by simp at h
 |_::_,_::_,[],_,h=>by simp at h
theorem G8(xs:List af)(fr:List Bool)(sz:List Int)(n:Nat)(x:af)(b:Bool)(s:Int)(h:(Cy xs fr sz)[n]? =some (x,b,s)):xs[n]? =some x/\fr[n]? =some b/\sz[n]? =some s:=by
 unfold Cy at h
 rw [List.getElem?_zip_eq_some,List.getElem?_zip_eq_some]at h
 exact h
variable {xs:List af}
theorem qa{i:Int}(h0:0<=i)(h1:i<xs.length):xs[i.toNat]? =some (itA xs i):=by
 unfold itA
 rw [zqc (by omega)]
 rfl
theorem EC(a b:List (Int×Int))(l:List Int):qv (a++b) l=qv b (qv a l):=List.foldl_append ..
theorem ED(a b:List Int)(l:List Bool):pX (a++b) l=pX b (pX a l):=List.foldl_append ..
theorem Fx.setI_two(X:Fx)(fr:List Bool)(rt:Int)(sz:List Int)(h:¬(X.low fr rt=[]/\X.hig fr rt=[]))(A B:List (Int×Int))(hA:A=if 0<=X.vio fr rt then(X.low fr rt).map fun i=>(i,(itA X.xs i).least)else [])(hB:B=if X.vio fr rt<=0 then(X.hig fr rt).map fun i=>(i,ru (itA X.xs i))else []):
  S3.go (S3.go ⟨sz,fr⟩ A) B=⟨qv (X.setI fr rt) sz,pX ((X.setI fr rt).map (·.1)) fr⟩:=by
 unfold Fx.setI
 rw [if_neg h,<-hA,<-hB,List.map_append,EC,ED]
 rfl
theorem Ew{a b:List Int}(ha:a.length<=1048576)(hb:b.length<=1048576):(wrap64 ((a.length:Int)+(b.length:Int))==0)=decide (a=[]/\b=[]):=by
 have e:wrap64 ((a.length:Int)+(b.length:Int))=(a.length:Int)+(b.length:Int):=by unfold wrap64;omega
 rw [e]
 by_cases hc:a=[]/\b=[]
 ·rw [hc.1,hc.2];rfl
 ·rw [zqt hc,zqr]
  intro hz
  exact hc ⟨zqv (by omega),zqv (by omega)⟩
theorem iY(ws:List Int)(hl:ws.length<=1048576):bS prog 287 [.c (.view (vw ak ws))] fun res ha=>res= .o 0/\ha=[⟨3,1,vw ak ws⟩]:=by
 obtain⟨V,hV⟩:=nmE (vw ak ws)
 have hb:=lmV hV
 have kV:=kmV (k:=1) hV fun _=>rfl
 have pV:=pmV hV
 rw [<-hV]
 refine aV func287 fun g F hg hF=> ?_
 cbv
 refine goN hg ⟨kV,by omega,by omega⟩ ?_
 cbv
 rw [fI hg]
 exact bN hF rfl pV
theorem m9(X:Fx)(hX:er X.xs=true)(sz:List Int)(fr:List Bool)(hs:sz.length=X.xs.length)(hf:fr.length=X.xs.length)(p:Int):
  Con prog 330 (toH [.bx 289 7 (X.bx p),.rw ⟨3,1,vw ak sz⟩,.rw ⟨4,1,vw mY fr⟩]) [.c (.ptr 0 0 0)] fun res h'=>∃eh,toH eh=h'/\∃p' sz' fr',
   res= .t (abl (decide (fre 0 fr≠[])))/\eh=[.bx 289 7 (X.bx p'),.rw ⟨3,1,vw ak sz'⟩,.rw ⟨4,1,vw mY fr'⟩]/\
   sz'=(if fre 0 fr=[]then sz else qv (X.setI fr (X.rI fr sz)) sz)/\fr'=(if fre 0 fr=[]then fr else pX ((X.setI fr (X.rI fr sz)).map (·.1)) fr):=by
 have hw:=S1.all_ X hf hs
 obtain⟨x4,x3⟩:=fq hX
 obtain⟨zs,hY⟩:=nmE (Cy X.xs fr sz)
 have hV:vw af.c X.xs=zs.map fun t=>lc (af.c t.1):=by
  rw [hY,vw,<-vu X.xs fr sz hf hs,List.map_map];simp [vu X.xs fr sz hf hs]
 have xV:zs.length<=1048576:=by rw [hY,Cy];simp [hs,hf];omega
 rw [<-hY]at hw
 obtain⟨V,hD⟩:=nmE (vw af.c X.xs)
 obtain⟨Z,hZ⟩:=nmE (vw ak sz)
 have x1:=lmV hZ
 have iZ:=imV hZ
 have kZ:=kmV (k:=1) hZ fun _=>rfl
 have dZ:=dmV hZ
 obtain⟨R,hR⟩:=nmE (vw mY fr)
 obtain⟨FR,hd⟩:=nmE (fre 0 fr)
 obtain⟨MX,h8⟩:=nmE (mix X.xs fr sz)
 obtain⟨AL,xe⟩:=nmE (X.all fr)
 obtain⟨rt,xq⟩:=nmE (X.rI fr sz)
 obtain⟨GR,hT⟩:=nmE X.gr
 have x0:MX.length=X.xs.length:=by rw [h8];exact Dj _ _ _ hf hs
 have pZ:=pmV hZ
 have pR:=pmV hR
 have xI:aN R=(X.xs.length:Int):=by rw [hR,aU,hf]
 have cc:=iY sz (by omega)
 have co:=fH X.xs MX X.gap (by omega) (by omega)
 obtain⟨OV,xg⟩:=nmE (wrap64 (iz X.xs MX X.gap))
 simp only [Fx.bx,<-hD,<-hZ,<-hR,<-xg,<-hT]at cc co⊢
 rw [<-hD]at hV
 rw [<-hd,<-h8,<-xe]at hw
 rw [<-hd,<-xq]
 have xj:aN V=(X.xs.length:Int):=by rw [hD,aU]
 obtain⟨R1,xh⟩:=nmE (S1.mk (X.xs.length:Int) FR MX AL)
 rw [<-xh]at hw
 refine px (c:=jD f330) bq func330 (by kernel_rfl) (by kernel_rfl) (bl (by rfl)) (by kernel_rfl) fun g F hg hF=> ?_
 replace hg:g=G0 prog 3 f330.ntmps:=hg
 replace hF:F=lv 3 _:=hF
 cbv
 first|(refine bH hg cc (aj (aX (ab:=⟨_,_,Z⟩) rfl kZ dZ) (az)) iZ ?_;cbv)|(refine bU hg cc (aj (aX (ab:=⟨_,_,Z⟩) rfl kZ dZ) (az)) iZ ?_;cbv)
 refine aQ hg bq (by kernel_rfl) V (fun t=>lc (af.c t.1)) zs hV xV (fun z(s:S1×LLA×LLA)=>[(0,.p 0),(3,.o 3),(4,.o 4),(5,.i (s.1.a)),(33,.v V),(34,.i (g .ln V)),(35,.i (z))]) (fun z(s:S1×LLA×LLA)=>[.bx 289 7 [.view V,.J X.gap,.J X.inner,.B GR,.own 1,.own 2,.J p],.rw ⟨3,1,Z⟩,.rw ⟨4,1,R⟩,.rw ⟨3,1,s.2.1⟩,.rw ⟨3,1,s.2.2⟩]) (fun z(s:S1×LLA×LLA)=>s.2.1=vw ak s.1.f/\s.2.2=vw ak s.1.m/\s.1.i=z/\s.1.m.length=X.xs.length/\(s.1.f.length:Int)<=z) (fun(s:S1×LLA×LLA) rest=>S1.go X.gr s.1 rest) (R1) (⟨0,[],sz,0⟩,[],Z) hw ⟨rfl,hZ,rfl,hs,by simp⟩ (Wk.weak (wkG [some 0,some 1,some 2,none,some 3] zr7 ⟨wqB rfl ⟨zr7,zpt⟩,wqE rfl pZ,wqE rfl pR,⟨_,rfl,rfl⟩,wqE rfl pZ,zpt⟩)) (fun z s B hz h0 hi he=> ?_) (fun z s x rest B z0 z1 z2 hx hy h0 hi hc e1 hB=> ?_)
 rotate_left
 ·obtain⟨⟨i,f,m,a⟩,eF,eM⟩:=s
  obtain⟨b1,b2,b3,b4,b5⟩:=hi
  dsimp only at b1 b2 b3 b4 b5 h0
  subst b3
  obtain⟨x,b,s⟩:=x
  obtain⟨q1,q2,q3⟩:=G8 X.xs fr sz i.toNat x b s (by rw [<-hY];exact hx)
  have pF:=pmV b1
  have pM:=pmV b2
  have xL:aN V=(X.xs.length:Int):=xj
  have xO:eF.length<=1048576:=by
   rw [b1,ar]
   omega
  have xP:i<aN eM:=by rw [b2,aU,b4,<-xL];exact z1
  have xQ:i.toNat<m.length:=by rw [b4];omega
  cbv;rw [hc];cbv;refine goX hg _ z0 hy rfl ?_;cbv
  refine goY hg z0 (by rw [xI,<-xj];exact z1) fun j hj hQ=> ?_
  cbv
  refine⟨_,by rw [hj,hR];exact aZ q2,?_⟩
  cases b<;>cbv
  ·refine dg hg rfl (by decide) xO ?_
   cbv
   refine goY hg z0 xP fun j hj hQ=> ?_
   cbv
   refine goN hg ⟨_,by rw [hj,b2];exact aZ (zqc xQ),rfl⟩ ?_
   cbv
   (refine aJ hg (iW x GR) rfl (fun Q0 hk=> ?_));cbv
   rw [e1,fI hg,jC hg,aG hg]
   have xo:eM.set j [.J x.base]=vw ak (m.set i.toNat x.base):=by rw [jb,b2,hj];rfl
   have xn:eF++[[.J i]]=vw ak (f++[i]):=by rw [bk,b1];rfl
   exact hB ((⟨i+1,f++[i],m.set i.toNat x.base,wrap64 (a+Q0)⟩,_,_)) _ _ ⟨(by simpa [S1.go,hk,hT]using h0),⟨xn,xo,rfl,by simpa using b4,by simp;omega⟩⟩ (Wk.weak (wkG [some 0,some 1,some 2,some _,some _] zr7 ⟨wqB rfl ⟨zr7,zpt⟩,wqE rfl pZ,wqE rfl pR,wqE rfl (xn.symm▸aD _ _),wqE rfl (xo.symm▸aD _ _),zpt⟩))
  ·rw [e1]
   exact hB ((⟨i+1,f,m,a⟩,eF,eM)) _ _ ⟨(by simpa [S1.go]using h0),⟨b1,b2,rfl,b4,by dsimp only;omega⟩⟩ (Wk.weak (wkG [some 0,some 1,some 2,some 3,some 4] zr7 ⟨wqB rfl ⟨zr7,zpt⟩,wqE rfl pZ,wqE rfl pR,wqE rfl pF,wqE rfl pM,zpt⟩))
 obtain⟨⟨i,f,m,a⟩,eF,eM⟩:=s
 obtain⟨b1,b2,b3,b4,b5⟩:=hi
 dsimp only at b1 b2 h0
 rw [xh]at h0
 simp only [S1.go,S1.mk.injEq]at h0
 obtain⟨-,h2,h3,h4⟩:=h0
 obtain rfl:FR=f:=h2.symm
 obtain rfl:MX=m:=h3.symm
 obtain rfl:AL=a:=h4.symm
 have xX:=kmV (k:=1) b1 fun _=>rfl
 have xv:=kmV (k:=1) b2 fun _=>rfl
 have xy:=dmV b1
 have xc:=dmV b2
 rw [<-b2]at co
 cbv;rw [he];cbv
 by_cases hn:FR=[]
 ·have e:g .q .eql (g .ln eF) 0=true:=by rw [bj hg,bz hg,b1,hn];rfl
  rw [e]
  cbv
  exact zE hF rfl rfl rfl zr7 pZ pR rfl ⟨_,rfl,p,sz,fr,by simp [hn],by rw [hZ,hR],by simp [hn],by simp [hn]⟩
 have e:g .q .eql (g .ln eF) 0=false:=by
  rw [bj hg,bz hg,b1,aU]
  have:FR.length≠0:=fun h=>hn (zqv h)
  simp;omega
 rw [e]
 cbv
 first|(refine gC hg co (aj (av rfl) (aj (aX (ab:=⟨_,_,eM⟩) rfl xv xc) (aj (av rfl) (az)))) rfl ?_;cbv)|(refine fy hg co (aj (av rfl) (aj (aX (ab:=⟨_,_,eM⟩) rfl xv xc) (aj (av rfl) (az)))) rfl ?_;cbv)
 obtain⟨p1,xR⟩:∃p1,p1=g .w .add .i64 p 1:=⟨_,rfl⟩
 rw [<-xR]
 obtain⟨n,h9⟩:∃n,n=g .w .sub .i64 X.inner OV:=⟨_,rfl⟩
 rw [<-h9]
 rw [cu hg]at h9
 have xp:rt=if(GR=true/\n<0)\/(GR=false/\0<n)then 0 else sg n:=by rw [hT,xq,Fx.rI,xl,h9,xg,h8]
 have t0:g .q .gtr n 0=decide (0<n):=by rw [dm hg]
 have t1:g .q .lss n 0=decide (n<0):=ba hg _ _
 have s0:sg 0=0:=by decide
 have r0:∀q,g .q .gtr n 0=q->GR=false->rt=sg (if q then 0 else n):=fun q h1 h2=>by
  rw [t0]at h1
  rw [xp,h2]
  cases q
  ·have:=of_decide_eq_false h1
   rw [if_neg (by simp;omega)];rfl
  ·have:=of_decide_eq_true h1
   rw [if_pos (by simp;omega)];exact s0.symm
 have r1:∀q,g .q .lss n 0=q->GR=true->rt=sg (if q then 0 else n):=fun q h1 h2=>by
  rw [t1]at h1
  rw [xp,h2]
  cases q
  ·have:=of_decide_eq_false h1
   rw [if_neg (by simp;omega)];rfl
  ·have:=of_decide_eq_true h1
   rw [if_pos (by simp;omega)];exact s0.symm
 obtain⟨LO,hE⟩:=nmE (X.low fr rt)
 obtain⟨HI,hC⟩:=nmE (X.hig fr rt)
 obtain⟨VI,hH⟩:=nmE (X.vio fr rt)
 obtain⟨WS,hU⟩:=nmE (X.ws fr)
 obtain⟨R2,xi⟩:=nmE (S2.mk LO HI VI WS)
 have xB:S2.go X AL rt ⟨[],[],0,[]⟩ FR=R2:=by
  rw [S2.go_eq,xi,hE,hC,hH,hU,hd,xe]
  simp [Fx.low,Fx.hig,Fx.vio,Fx.ws]
 have xM:=b1
 have xZ:FR.length<=12:=by have:=kD fr 0;rw [<-hd,hf]at this;omega
 have h6:FR.length<=1048576:=by omega
 cases hG:GR<;>cbv
 rotate_left
 cases hq:g .q .lss n 0
 rotate_left 2
 cases hq:g .q .gtr n 0
 all_goals
  cbv
  (refine aY hg (da _) rfl (fun R0 xH=> ?_));cbv
  obtain rfl:rt=R0:=by rw [xH];first|exact r0 _ hq hG|exact r1 _ hq hG
  refine aQ hg bq (by kernel_rfl) eF (fun x=>lc (ak x)) FR xM h6 (fun z(s:S2×LLA×LLA×LLA)=>[(0,.p 0),(3,.v eF),(5,.i (AL)),(8,.i (rt)),(9,.o 3),(10,.o 4),(11,.i (s.1.v)),(12,.o 5),(112,.v eF),(113,.i (g .ln eF)),(114,.i (z))]) (fun z(s:S2×LLA×LLA×LLA)=>[.bx 289 7 [.view V,.J X.gap,.J X.inner,.B GR,.own 1,.own 2,.J p1],.rw ⟨3,1,Z⟩,.rw ⟨4,1,R⟩,.rw ⟨3,1,s.2.1⟩,.rw ⟨3,1,s.2.2.1⟩,.rw ⟨3,1,s.2.2.2⟩]) (fun z(s:S2×LLA×LLA×LLA)=>s.2.1=vw ak s.1.l/\s.2.2.1=vw ak s.1.h/\s.2.2.2=vw ak s.1.w/\(s.1.l.length:Int)<=z/\(s.1.h.length:Int)<=z/\(s.1.w.length:Int)<=z) (fun(s:S2×LLA×LLA×LLA) rest=>S2.go X AL rt s.1 rest) (R2) (⟨[],[],0,[]⟩,[],[],[]) xB ⟨rfl,rfl,rfl,by simp,by simp,by simp⟩ (bK (sl1 3 eF) (jL rfl xX xy) (Wk.weak (wkG [some 0,some 1,some 2,none,none,none] G6 ⟨wqB rfl ⟨⟨rfl,rfl,rfl,(by rw [hG];exact rfl),rfl,rfl,rfl,zpt⟩,zpt⟩,⟨_,_,rfl,rfl,rfl,rfl,.inl (bJ pZ)⟩,⟨_,_,rfl,rfl,rfl,rfl,.inl (bJ pR)⟩,⟨_,rfl,rfl⟩,⟨_,rfl,rfl⟩,⟨_,rfl,rfl⟩,zpt⟩))) (fun z s B hz h0 hi he=> ?_) (fun z s x rest B z0 z1 z2 hx hy h0 hi hc e1 hB=> ?_)
  rotate_left
  ·obtain⟨⟨lo,hA,v,ws⟩,eL,eH,eW⟩:=s
   obtain⟨c1,c2,c3,c4,c5,c6⟩:=hi
   dsimp only at c1 c2 c3 c4 c5 c6 h0
   have hb:x∈fre 0 fr:=hd▸zqd hx
   have ho:=ik fr 0 (zpc 0) x hb
   obtain⟨y,hp⟩:=nmE (itA X.xs x)
   have hu:V[x.toNat]? =some (lc (af.c y)):=by rw [hD,hp];exact aZ (qa ho.1 (by rw [<-hf];omega))
   have xU:=ho.1
   have lL:eL.length<=1048576:=by rw [c1,ar];omega
   have lH:eH.length<=1048576:=by rw [c2,ar];omega
   have lW:eW.length<=1048576:=by rw [c3,ar];omega
   obtain⟨y0,y1,y2,y3,y4,y5,y6,y7,y8⟩:=y
   have aL:eL++[[.J x]]=vw ak (lo++[x]):=by rw [bk,c1];rfl
   have aH:eH++[[.J x]]=vw ak (hA++[x]):=by rw [bk,c2];rfl
   have aW:eW++[[.J (wgt GR ⟨y0,y1,y2,y3,y4,y5,y6,y7,y8⟩)]]=vw ak (ws++[wgt GR ⟨y0,y1,y2,y3,y4,y5,y6,y7,y8⟩]):=by rw [bk,c3];rfl
   have pL:=pmV c1
   have pH:=pmV c2
   cbv;rw [hc];cbv;refine goX hg _ z0 hy rfl ?_;cbv
   refine goX hg _ xU hu rfl ?_
   cbv
   (refine aJ hg (iW ⟨y0,y1,y2,y3,y4,y5,y6,y7,y8⟩ GR) rfl (fun Q0 hk=> ?_));cbv
   refine dg hg rfl (by decide) lW ?_
   cbv
   have xJ:g .q .lss (g .w .add .i64 (g .w .mul .i64 y0 AL) (g .w .mul .i64 rt Q0)) (g .w .mul .i64 y1 AL)=qX GR AL rt ⟨y0,y1,y2,y3,y4,y5,y6,y7,y8⟩:=by simp only [ba hg,aG hg,gA hg,hk];rfl
   rw [xJ]
   have hgo:S2.go X AL rt ⟨if qX GR AL rt ⟨y0,y1,y2,y3,y4,y5,y6,y7,y8⟩then lo++[x]else lo,if !qX GR AL rt ⟨y0,y1,y2,y3,y4,y5,y6,y7,y8⟩&&wQ GR AL rt ⟨y0,y1,y2,y3,y4,y5,y6,y7,y8⟩then hA++[x]else hA,xk GR AL rt v ⟨y0,y1,y2,y3,y4,y5,y6,y7,y8⟩,ws++[wgt GR ⟨y0,y1,y2,y3,y4,y5,y6,y7,y8⟩]⟩ rest=R2:=by rw [hp,hT];exact h0
   cases hl:qX GR AL rt ⟨y0,y1,y2,y3,y4,y5,y6,y7,y8⟩
   ·cbv
    cases h2:g .q .geq y2 0
    ·have hh:wQ GR AL rt ⟨y0,y1,y2,y3,y4,y5,y6,y7,y8⟩=false:=by
      rw [i6 hg]at h2
      have:=of_decide_eq_false h2
      simp [wQ];omega
     have hv:xk GR AL rt v ⟨y0,y1,y2,y3,y4,y5,y6,y7,y8⟩=v:=by unfold xk;rw [hl,hh];rfl
     rw [hl,hh,hv]at hgo
     cbv
     rw [e1,fI hg,hk,aW]
     exact hB ((⟨lo,hA,v,ws++[wgt GR ⟨y0,y1,y2,y3,y4,y5,y6,y7,y8⟩]⟩,eL,eH,_)) _ _ ⟨hgo,⟨c1,c2,rfl,by dsimp only;omega,by dsimp only;omega,by simp;omega⟩⟩ (Wk.weak (wkG [some 0,some 1,some 2,some 3,some 4,some _] G6 ⟨wqB rfl ⟨zr7,zpt⟩,wqE rfl pZ,wqE rfl pR,wqE rfl pL,wqE rfl pH,wqE rfl (aD _ _),zpt⟩))
    ·cbv
     (refine aY hg (jg ⟨y0,y1,y2,y3,y4,y5,y6,y7,y8⟩) rfl (fun Q1 xF=> ?_));cbv
     have xA:(decide (0<=y2))=true:=by rw [i6 hg]at h2;exact h2
     have xK:g .q .gtr (g .w .add .i64 (g .w .mul .i64 y0 AL) (g .w .mul .i64 rt Q0)) (g .w .mul .i64 Q1 AL)=wQ GR AL rt ⟨y0,y1,y2,y3,y4,y5,y6,y7,y8⟩:=by simp only [dm hg,aG hg,gA hg,hk,xF];unfold wQ;rw [show(decide (0<=af.most ⟨y0,y1,y2,y3,y4,y5,y6,y7,y8⟩))=true from xA,Bool.true_and];rfl
     rw [xK]
     cases hh:wQ GR AL rt ⟨y0,y1,y2,y3,y4,y5,y6,y7,y8⟩
     ·have hv:xk GR AL rt v ⟨y0,y1,y2,y3,y4,y5,y6,y7,y8⟩=v:=by unfold xk;rw [hl,hh];rfl
      rw [hl,hh,hv]at hgo
      cbv
      rw [e1,fI hg,hk,aW]
      exact hB ((⟨lo,hA,v,ws++[wgt GR ⟨y0,y1,y2,y3,y4,y5,y6,y7,y8⟩]⟩,eL,eH,_)) _ _ ⟨hgo,⟨c1,c2,rfl,by dsimp only;omega,by dsimp only;omega,by simp;omega⟩⟩ (Wk.weak (wkG [some 0,some 1,some 2,some 3,some 4,some _] G6 ⟨wqB rfl ⟨zr7,zpt⟩,wqE rfl pZ,wqE rfl pR,wqE rfl pL,wqE rfl pH,wqE rfl (aD _ _),zpt⟩))
     ·cbv
      refine dg hg rfl (by decide) lH ?_
      cbv
      (refine aY hg (jg ⟨y0,y1,y2,y3,y4,y5,y6,y7,y8⟩) rfl (fun Q2 xG=> ?_));cbv
      have hv:g .w .sub .i64 v (g .w .sub .i64 (g .w .add .i64 (g .w .mul .i64 y0 AL) (g .w .mul .i64 rt Q0)) (g .w .mul .i64 Q2 AL))=xk GR AL rt v ⟨y0,y1,y2,y3,y4,y5,y6,y7,y8⟩:=by unfold xk;rw [hl,hh];simp only [cu hg,aG hg,gA hg,hk,xG];rfl
      rw [hl,hh]at hgo
      rw [e1,hv]
      simp only [fI hg,hk,aW,aH]
      exact hB ((⟨lo,hA++[x],xk GR AL rt v ⟨y0,y1,y2,y3,y4,y5,y6,y7,y8⟩,ws++[wgt GR ⟨y0,y1,y2,y3,y4,y5,y6,y7,y8⟩]⟩,eL,_,_)) _ _ ⟨hgo,⟨c1,rfl,rfl,by dsimp only;omega,by simp;omega,by simp;omega⟩⟩ (Wk.weak (wkG [some 0,some 1,some 2,some 3,some _,some _] G6 ⟨wqB rfl ⟨zr7,zpt⟩,wqE rfl pZ,wqE rfl pR,wqE rfl pL,wqE rfl (aD _ _),wqE rfl (aD _ _),zpt⟩))
   ·cbv
    refine dg hg rfl (by decide) lL ?_
    cbv
    have hv:g .w .add .i64 v (g .w .sub .i64 (g .w .mul .i64 y1 AL) (g .w .add .i64 (g .w .mul .i64 y0 AL) (g .w .mul .i64 rt Q0)))=xk GR AL rt v ⟨y0,y1,y2,y3,y4,y5,y6,y7,y8⟩:=by unfold xk;rw [hl];simp only [cu hg,aG hg,gA hg,hk];rfl
    rw [hl]at hgo
    rw [e1,hv]
    simp only [fI hg,hk,aW,aL]
    exact hB ((⟨lo++[x],hA,xk GR AL rt v ⟨y0,y1,y2,y3,y4,y5,y6,y7,y8⟩,ws++[wgt GR ⟨y0,y1,y2,y3,y4,y5,y6,y7,y8⟩]⟩,_,eH,_)) _ _ ⟨hgo,⟨rfl,c2,rfl,by simp;omega,by dsimp only;omega,by simp;omega⟩⟩ (Wk.weak (wkG [some 0,some 1,some 2,some _,some 4,some _] G6 ⟨wqB rfl ⟨zr7,zpt⟩,wqE rfl pZ,wqE rfl pR,wqE rfl (aD _ _),wqE rfl pH,wqE rfl (aD _ _),zpt⟩))
  ·obtain⟨⟨lo,hA,v,ws⟩,eL,eH,eW⟩:=s
   obtain⟨c1,c2,c3,-,-,-⟩:=hi
   dsimp only at c1 c2 c3 h0
   rw [xi]at h0
   simp only [S2.go,S2.mk.injEq]at h0
   obtain⟨g1,g2,g3,g4⟩:=h0
   obtain rfl:LO=lo:=g1.symm
   obtain rfl:HI=hA:=g2.symm
   obtain rfl:VI=v:=g3.symm
   obtain rfl:WS=ws:=g4.symm
   have xN:=c1
   have xm:=c2
   have pH:=pmV c2
   have xY:=kmV (k:=1) c1 fun _=>rfl
   have xu:=kmV (k:=1) c2 fun _=>rfl
   have xw:=kmV (k:=1) c3 fun _=>rfl
   have xz:=dmV c1
   have xb:=dmV c2
   have xd:=dmV c3
   have xf:LO.length<=1048576:=by have:=List.length_filter_le (fun i=>qX X.gr (X.all fr) rt (itA X.xs i)) FR;rw [hE,Fx.low,<-hd];omega
   have h7:HI.length<=1048576:=by have:=List.length_filter_le (fun i=> !qX X.gr (X.all fr) rt (itA X.xs i)&&wQ X.gr (X.all fr) rt (itA X.xs i)) FR;rw [hC,Fx.hig,<-hd];omega
   have xT:g .q .eql (g .w .add .i64 (g .ln eL) (g .ln eH)) 0=decide (LO=[]/\HI=[]):=by
    rw [bj hg,aG hg,bz hg,bz hg,c1,c2,aU,aU]
    exact Ew xf h7
   cbv;rw [he];cbv
   rw [xT]
   by_cases hlh:LO=[]/\HI=[]
   ·rw [zqu hlh]
    cbv
    have x2:(shr rt WS).length=FR.length:=by rw [hU,hd];exact X.shr_len hX hf rt
    have cs:=oH rt WS (by rw [hU,Fx.ws,zql,<-hd];omega)
    obtain⟨ES,hr⟩:=nmE (vw ak (shr rt WS))
    obtain⟨qs,hW⟩:=nmE (FR.zip (shr rt WS))
    have xD:ES=qs.map fun p=>lc (ak p.2):=by
     rw [hr,hW,vw]
     conv=>lhs;rw [<-List.map_snd_zip (l₁:=FR) (l₂:=shr rt WS) (by omega)]
     rw [List.map_map];rfl
    have xS:qs.length<=1048576:=by rw [hW,zqB];omega
    have xt:=imV hr
    have xW:=kmV (k:=1) hr fun _=>rfl
    have xx:=dmV hr
    rw [<-c3,<-hr]at cs
    obtain⟨R3,hO⟩:=nmE (S3.go ⟨sz,fr⟩ (X.shs fr rt))
    have xC:S3.go ⟨sz,fr⟩ (qs.map fun p=>(p.1,cl (wrap64 ((itA X.xs p.1).base+p.2))))=R3:=by rw [hO,Fx.shs,hW,<-hd,<-hU]
    have xa:X.setI fr rt=X.shs fr rt:=by unfold Fx.setI;rw [<-hE,<-hC,if_pos hlh]
    first|(refine bH hg cs (aj (av rfl) (aj (aX (ab:=⟨_,_,eW⟩) rfl xw xd) (az))) xt ?_;cbv)|(refine bU hg cs (aj (av rfl) (aj (aX (ab:=⟨_,_,eW⟩) rfl xw xd) (az))) xt ?_;cbv)
    refine aQ hg bq (by kernel_rfl) ES (fun p=>lc (ak p.2)) qs xD xS (fun z(s:S3×LLA×LLA)=>[(0,.p 0),(3,.v eF),(195,.v ES),(196,.i (g .ln ES)),(197,.i (z))]) (fun z(s:S3×LLA×LLA)=>[.bx 289 7 [.view V,.J X.gap,.J X.inner,.B GR,.own 1,.own 2,.J p1],.rw ⟨3,1,s.2.1⟩,.rw ⟨4,1,s.2.2⟩]) (fun z(s:S3×LLA×LLA)=>s.2.1=vw ak s.1.s/\s.2.2=vw mY s.1.f/\s.1.s.length=X.xs.length/\s.1.f.length=X.xs.length) (fun(s:S3×LLA×LLA) rest=>S3.go s.1 (rest.map fun p=>(p.1,cl (wrap64 ((itA X.xs p.1).base+p.2))))) (R3) (⟨sz,fr⟩,Z,R) xC ⟨hZ,hR,hs,hf⟩ (bK (sl1 6 ES) (jL rfl xW xx) (Wk.weak (wkG [some 0,some 1,some 2] zr5 ⟨wqB rfl ⟨zr7,zpt⟩,⟨_,_,rfl,rfl,rfl,rfl,.inl (bJ pZ)⟩,⟨_,_,rfl,rfl,rfl,rfl,.inl (bJ pR)⟩,zpt⟩))) (fun z s B hz h0 hi he=> ?_) (fun z s x rest B z0 z1 z2 hx hy h0 hi hc e1 hB=> ?_)
    ·obtain⟨⟨q,w⟩,eZ,eR⟩:=s
     obtain⟨k1,k2,k3,k4⟩:=hi
     dsimp only at k1 k2 k3 k4 h0
     cbv;rw [he];cbv
     have ha:S3.mk q w=R3:=h0
     rw [hO]at ha
     simp only [S3.go,S3.mk.injEq,<-xa]at ha
     exact zE hF rfl rfl rfl zr7 (by rw [k1];exact aD _ _) (by rw [k2];exact aD _ _) rfl ⟨_,rfl,p1,q,w,by simp [hn],by rw [k1,k2],by rw [if_neg hn];exact ha.1.symm▸rfl,by rw [if_neg hn];exact ha.2.symm▸rfl⟩
    ·obtain⟨i,sh⟩:=x
     have xr:FR[z.toNat]? =some i:=by
      rw [hW,List.getElem?_zip_eq_some]at hx
      exact hx.1
     have hb:i∈fre 0 fr:=hd▸zqd xr
     have xE:eF[z.toNat]? =some (lc (ak i)):=by rw [b1];exact aZ xr
     obtain⟨⟨q,w⟩,eZ,eR⟩:=s
     obtain⟨k1,k2,k3,k4⟩:=hi
     dsimp only at k1 k2 k3 k4 h0
     have ho:=ik fr 0 (zpc 0) i hb
     have hm:=ho.1
     obtain⟨y,hp⟩:=nmE (itA X.xs i)
     have hu:V[i.toNat]? =some (lc (af.c y)):=by rw [hD,hp];exact aZ (qa ho.1 (by rw [<-hf];omega))
     have hI:i<aN eR:=by rw [k2,aU,k4,<-hf];omega
     have hJ:i<aN eZ:=by rw [k1,aU,k3,<-hf];omega
     have hL:i.toNat<w.length:=by rw [k4,<-hf];omega
     have hK:i.toNat<q.length:=by rw [k3,<-hf];omega
     have sR:eR.set i.toNat [.B true]=vw mY (w.set i.toNat true):=by rw [jb,k2];rfl
     have sZ:∀u:Int,eZ.set i.toNat [.J u]=vw ak (q.set i.toNat u):=fun u=>by rw [jb,k1];rfl
     obtain⟨y0,y1,y2,y3,y4,y5,y6,y7,y8⟩:=y
     cbv;rw [hc];cbv;refine goX hg _ z0 hy rfl ?_;cbv
     refine goX hg _ z0 xE rfl ?_
     cbv
     refine goY hg hm hI fun j hj hQ=> ?_
     cbv
     refine goN hg ⟨_,by rw [hj,k2];exact aZ (zqc hL),rfl⟩ ?_
     cbv
     refine goX hg _ hm hu rfl ?_
     cbv
     (refine aJ hg (aM _) rfl (fun Q0 hk=> ?_));cbv
     refine goY hg hm hJ fun j2 ht hM=> ?_
     cbv
     refine goN hg ⟨_,by rw [ht,k1];exact aZ (zqc hK),rfl⟩ ?_
     cbv
     rw [e1]
     simp only [jC hg]
     subst hj ht
     exact hB ((⟨q.set i.toNat Q0,w.set i.toNat true⟩,_,_)) _ _ ⟨(by rw [hk,aG hg];rw [<-h0,zqA,S3.go_cons,<-hp]),⟨sZ _,sR,by simpa using k3,by simpa using k4⟩⟩ (Wk.weak (wkG [some 0,some 1,some 2] zr5 ⟨wqB rfl ⟨zr7,zpt⟩,wqE rfl ((sZ _).symm▸aD _ _),wqE rfl (sR.symm▸aD _ _),zpt⟩))
   ·rw [zqt hlh]
    cbv
    have tv:g .q .geq VI 0=decide (0<=VI):=i6 hg _ _
    have tw:g .q .leq VI 0=decide (VI<=0):=ja hg _ _
    have hN:¬(X.low fr rt=[]/\X.hig fr rt=[]):=by rw [<-hE,<-hC];exact hlh
    obtain⟨R4,hP⟩:=nmE (S3.mk (qv (X.setI fr rt) sz) (pX ((X.setI fr rt).map (·.1)) fr))
    by_cases v0:0<=VI
    ·rw [tv,zqu v0]
     cbv
     obtain⟨R3,hO⟩:=nmE (S3.go ⟨sz,fr⟩ (LO.map fun i=>(i,(itA X.xs i).least)))
     refine aQ hg bq (by kernel_rfl) eL (fun x=>lc (ak x)) LO xN xf (fun z(s:S3×LLA×LLA)=>[(0,.p 0),(10,.o 3),(11,.i (VI)),(232,.v eL),(233,.i (g .ln eL)),(234,.i (z))]) (fun z(s:S3×LLA×LLA)=>[.bx 289 7 [.view V,.J X.gap,.J X.inner,.B GR,.own 1,.own 2,.J p1],.rw ⟨3,1,s.2.1⟩,.rw ⟨4,1,s.2.2⟩,.rw ⟨3,1,eH⟩]) (fun z(s:S3×LLA×LLA)=>s.2.1=vw ak s.1.s/\s.2.2=vw mY s.1.f/\s.1.s.length=X.xs.length/\s.1.f.length=X.xs.length) (fun(s:S3×LLA×LLA) rest=>S3.go s.1 (rest.map fun i=>(i,(itA X.xs i).least))) (R3) (⟨sz,fr⟩,Z,R) hO.symm ⟨hZ,hR,hs,hf⟩ (bK (sl1 3 eL) (jL rfl xY xz) (Wk.weak (wkG [some 0,some 1,some 2,some 4] zr6 ⟨wqB rfl ⟨zr7,zpt⟩,⟨_,_,rfl,rfl,rfl,rfl,.inl (bJ pZ)⟩,⟨_,_,rfl,rfl,rfl,rfl,.inl (bJ pR)⟩,⟨_,_,rfl,rfl,rfl,rfl,.inl (bJ pH)⟩,zpt⟩))) (fun z s B hz h0 hi he=> ?_) (fun z s x rest B z0 z1 z2 hx hy h0 hi hc e1 hB=> ?_)
     rotate_left
     ·have hb:x∈fre 0 fr:=by
       have:=zqd hx
       rw [hE,Fx.low,<-hd]at this
       exact hd▸(List.mem_filter.1 this).1
      obtain⟨⟨q,w⟩,eZ,eR⟩:=s
      obtain⟨k1,k2,k3,k4⟩:=hi
      dsimp only at k1 k2 k3 k4 h0
      have ho:=ik fr 0 (zpc 0) x hb
      have hm:=ho.1
      obtain⟨y,hp⟩:=nmE (itA X.xs x)
      have hu:V[x.toNat]? =some (lc (af.c y)):=by rw [hD,hp];exact aZ (qa ho.1 (by rw [<-hf];omega))
      have hI:x<aN eR:=by rw [k2,aU,k4,<-hf];omega
      have hJ:x<aN eZ:=by rw [k1,aU,k3,<-hf];omega
      have hL:x.toNat<w.length:=by rw [k4,<-hf];omega
      have hK:x.toNat<q.length:=by rw [k3,<-hf];omega
      have sR:eR.set x.toNat [.B true]=vw mY (w.set x.toNat true):=by rw [jb,k2];rfl
      have sZ:∀u:Int,eZ.set x.toNat [.J u]=vw ak (q.set x.toNat u):=fun u=>by rw [jb,k1];rfl
      obtain⟨y0,y1,y2,y3,y4,y5,y6,y7,y8⟩:=y
      cbv;rw [hc];cbv;refine goX hg _ z0 hy rfl ?_;cbv
      refine goY hg hm hI fun j hj hQ=> ?_
      cbv
      refine goN hg ⟨_,by rw [hj,k2];exact aZ (zqc hL),rfl⟩ ?_
      cbv
      refine goX hg _ hm hu rfl ?_
      cbv
      refine goY hg hm hJ fun j2 ht hM=> ?_
      cbv
      refine goN hg ⟨_,by rw [ht,k1];exact aZ (zqc hK),rfl⟩ ?_
      cbv
      rw [e1]
      simp only [jC hg]
      subst hj ht
      exact hB ((⟨q.set x.toNat y1,w.set x.toNat true⟩,_,_)) _ _ ⟨(by rw [show y1=(itA X.xs x).least by rw [<-hp]];exact h0),⟨sZ _,sR,by simpa using k3,by simpa using k4⟩⟩ (Wk.weak (wkG [some 0,some 1,some 2,some 3] zr6 ⟨wqB rfl ⟨zr7,zpt⟩,wqE rfl ((sZ _).symm▸aD _ _),wqE rfl (sR.symm▸aD _ _),wqE rfl pH,zpt⟩))
     ·obtain⟨⟨q,w⟩,eZ,eR⟩:=s
      obtain⟨k1,k2,k3,k4⟩:=hi
      dsimp only at k1 k2 k3 k4 h0
      have pq:=pmV k1
      have pw:=pmV k2
      have hS:S3.mk q w=R3:=h0
      cbv;rw [he];cbv
      by_cases v1:VI<=0
      ·rw [tw,zqu v1]
       cbv
       have h5:S3.go ⟨q,w⟩ (HI.map fun i=>(i,ru (itA X.xs i)))=R4:=by
        rw [hS,hO,hP]
        exact X.setI_two fr rt sz hN _ _ (by rw [<-hH,if_pos v0,hE]) (by rw [<-hH,if_pos v1,hC])
       refine aQ hg bq (by kernel_rfl) eH (fun x=>lc (ak x)) HI xm h7 (fun z(s:S3×LLA×LLA)=>[(0,.p 0),(261,.v eH),(262,.i (g .ln eH)),(263,.i (z))]) (fun z(s:S3×LLA×LLA)=>[.bx 289 7 [.view V,.J X.gap,.J X.inner,.B GR,.own 1,.own 2,.J p1],.rw ⟨3,1,s.2.1⟩,.rw ⟨4,1,s.2.2⟩]) (fun z(s:S3×LLA×LLA)=>s.2.1=vw ak s.1.s/\s.2.2=vw mY s.1.f/\s.1.s.length=X.xs.length/\s.1.f.length=X.xs.length) (fun(s:S3×LLA×LLA) rest=>S3.go s.1 (rest.map fun i=>(i,ru (itA X.xs i)))) (R4) (⟨q,w⟩,eZ,eR) h5 ⟨k1,k2,k3,k4⟩ (bK (sl1 3 eH) (jL rfl xu xb) (Wk.weak (wkG [some 0,some 1,some 2] zr4 ⟨wqB rfl ⟨zr7,zpt⟩,⟨_,_,rfl,rfl,rfl,rfl,.inl (bJ pq)⟩,⟨_,_,rfl,rfl,rfl,rfl,.inl (bJ pw)⟩,zpt⟩))) (fun z s B hz h0 hi he=> ?_) (fun z s x rest B z0 z1 z2 hx hy h0 hi hc e1 hB=> ?_)
       rotate_left
       ·have hb:x∈fre 0 fr:=by
         have:=zqd hx
         rw [hC,Fx.hig,<-hd]at this
         exact hd▸(List.mem_filter.1 this).1
        obtain⟨⟨q,w⟩,eZ,eR⟩:=s
        obtain⟨k1,k2,k3,k4⟩:=hi
        dsimp only at k1 k2 k3 k4 h0
        have ho:=ik fr 0 (zpc 0) x hb
        have hm:=ho.1
        obtain⟨y,hp⟩:=nmE (itA X.xs x)
        have hu:V[x.toNat]? =some (lc (af.c y)):=by rw [hD,hp];exact aZ (qa ho.1 (by rw [<-hf];omega))
        have hI:x<aN eR:=by rw [k2,aU,k4,<-hf];omega
        have hJ:x<aN eZ:=by rw [k1,aU,k3,<-hf];omega
        have hL:x.toNat<w.length:=by rw [k4,<-hf];omega
        have hK:x.toNat<q.length:=by rw [k3,<-hf];omega
        have sR:eR.set x.toNat [.B true]=vw mY (w.set x.toNat true):=by rw [jb,k2];rfl
        have sZ:∀u:Int,eZ.set x.toNat [.J u]=vw ak (q.set x.toNat u):=fun u=>by rw [jb,k1];rfl
        obtain⟨y0,y1,y2,y3,y4,y5,y6,y7,y8⟩:=y
        cbv;rw [hc];cbv;refine goX hg _ z0 hy rfl ?_;cbv
        refine goY hg hm hI fun j hj hQ=> ?_
        cbv
        refine goN hg ⟨_,by rw [hj,k2];exact aZ (zqc hL),rfl⟩ ?_
        cbv
        refine goX hg _ hm hu rfl ?_
        cbv
        (refine aJ hg (jg ⟨y0,y1,y2,y3,y4,y5,y6,y7,y8⟩) rfl (fun Q0 hk=> ?_));cbv
        refine goY hg hm hJ fun j2 ht hM=> ?_
        cbv
        refine goN hg ⟨_,by rw [ht,k1];exact aZ (zqc hK),rfl⟩ ?_
        cbv
        rw [e1]
        simp only [jC hg]
        subst hj ht
        exact hB ((⟨q.set x.toNat Q0,w.set x.toNat true⟩,_,_)) _ _ ⟨(by rw [hk,hp];exact h0),⟨sZ _,sR,by simpa using k3,by simpa using k4⟩⟩ (Wk.weak (wkG [some 0,some 1,some 2] zr4 ⟨wqB rfl ⟨zr7,zpt⟩,wqE rfl ((sZ _).symm▸aD _ _),wqE rfl (sR.symm▸aD _ _),zpt⟩))
       ·obtain⟨⟨q,w⟩,eZ,eR⟩:=s
        obtain⟨k1,k2,k3,k4⟩:=hi
        dsimp only at k1 k2 k3 k4 h0
        cbv;rw [he];cbv
        have ha:S3.mk q w=R4:=h0
        rw [hP]at ha
        simp only [S3.mk.injEq]at ha
        exact zE hF rfl rfl rfl zr7 (by rw [k1];exact aD _ _) (by rw [k2];exact aD _ _) rfl ⟨_,rfl,p1,q,w,by simp [hn],by rw [k1,k2],by rw [if_neg hn];exact ha.1,by rw [if_neg hn];exact ha.2⟩
      ·rw [tw,zqt v1]
       cbv
       have ha:S3.mk q w=R4:=by
        rw [hS,hO,hP]
        exact X.setI_two fr rt sz hN _ [] (by rw [<-hH,if_pos v0,hE]) (by rw [<-hH,if_neg v1])
       rw [hP]at ha
       simp only [S3.mk.injEq]at ha
       exact zE hF rfl rfl rfl zr7 (by rw [k1];exact aD _ _) (by rw [k2];exact aD _ _) rfl ⟨_,rfl,p1,q,w,by simp [hn],by rw [k1,k2],by rw [if_neg hn];exact ha.1,by rw [if_neg hn];exact ha.2⟩
    ·rw [tv,zqt v0]
     cbv
     rw [tw,zqu (by omega)]
     cbv
     have h5:S3.go ⟨sz,fr⟩ (HI.map fun i=>(i,ru (itA X.xs i)))=R4:=by
      rw [hP]
      exact X.setI_two fr rt sz hN [] _ (by rw [<-hH,if_neg v0]) (by rw [<-hH,if_pos (by omega),hC])
     refine aQ hg bq (by kernel_rfl) eH (fun x=>lc (ak x)) HI xm h7 (fun z(s:S3×LLA×LLA)=>[(0,.p 0),(261,.v eH),(262,.i (g .ln eH)),(263,.i (z))]) (fun z(s:S3×LLA×LLA)=>[.bx 289 7 [.view V,.J X.gap,.J X.inner,.B GR,.own 1,.own 2,.J p1],.rw ⟨3,1,s.2.1⟩,.rw ⟨4,1,s.2.2⟩]) (fun z(s:S3×LLA×LLA)=>s.2.1=vw ak s.1.s/\s.2.2=vw mY s.1.f/\s.1.s.length=X.xs.length/\s.1.f.length=X.xs.length) (fun(s:S3×LLA×LLA) rest=>S3.go s.1 (rest.map fun i=>(i,ru (itA X.xs i)))) (R4) (⟨sz,fr⟩,Z,R) h5 ⟨hZ,hR,hs,hf⟩ (bK (sl1 4 eH) (jL rfl xu xb) (Wk.weak (wkG [some 0,some 1,some 2] zr4 ⟨wqB rfl ⟨zr7,zpt⟩,⟨_,_,rfl,rfl,rfl,rfl,.inl (bJ pZ)⟩,⟨_,_,rfl,rfl,rfl,rfl,.inl (bJ pR)⟩,zpt⟩))) (fun z s B hz h0 hi he=> ?_) (fun z s x rest B z0 z1 z2 hx hy h0 hi hc e1 hB=> ?_)
     rotate_left
     ·have hb:x∈fre 0 fr:=by
       have:=zqd hx
       rw [hC,Fx.hig,<-hd]at this
       exact hd▸(List.mem_filter.1 this).1
      obtain⟨⟨q,w⟩,eZ,eR⟩:=s
      obtain⟨k1,k2,k3,k4⟩:=hi
      dsimp only at k1 k2 k3 k4 h0
      have ho:=ik fr 0 (zpc 0) x hb
      have hm:=ho.1
      obtain⟨y,hp⟩:=nmE (itA X.xs x)
      have hu:V[x.toNat]? =some (lc (af.c y)):=by rw [hD,hp];exact aZ (qa ho.1 (by rw [<-hf];omega))
      have hI:x<aN eR:=by rw [k2,aU,k4,<-hf];omega
      have hJ:x<aN eZ:=by rw [k1,aU,k3,<-hf];omega
      have hL:x.toNat<w.length:=by rw [k4,<-hf];omega
      have hK:x.toNat<q.length:=by rw [k3,<-hf];omega
      have sR:eR.set x.toNat [.B true]=vw mY (w.set x.toNat true):=by rw [jb,k2];rfl
      have sZ:∀u:Int,eZ.set x.toNat [.J u]=vw ak (q.set x.toNat u):=fun u=>by rw [jb,k1];rfl
      obtain⟨y0,y1,y2,y3,y4,y5,y6,y7,y8⟩:=y
      cbv;rw [hc];cbv;refine goX hg _ z0 hy rfl ?_;cbv
      refine goY hg hm hI fun j hj hQ=> ?_
      cbv
      refine goN hg ⟨_,by rw [hj,k2];exact aZ (zqc hL),rfl⟩ ?_
      cbv
      refine goX hg _ hm hu rfl ?_
      cbv
      (refine aJ hg (jg ⟨y0,y1,y2,y3,y4,y5,y6,y7,y8⟩) rfl (fun Q0 hk=> ?_));cbv
      refine goY hg hm hJ fun j2 ht hM=> ?_
      cbv
      refine goN hg ⟨_,by rw [ht,k1];exact aZ (zqc hK),rfl⟩ ?_
      cbv
      rw [e1]
      simp only [jC hg]
      subst hj ht
      exact hB ((⟨q.set x.toNat Q0,w.set x.toNat true⟩,_,_)) _ _ ⟨(by rw [hk,hp];exact h0),⟨sZ _,sR,by simpa using k3,by simpa using k4⟩⟩ (Wk.weak (wkG [some 0,some 1,some 2] zr4 ⟨wqB rfl ⟨zr7,zpt⟩,wqE rfl ((sZ _).symm▸aD _ _),wqE rfl (sR.symm▸aD _ _),zpt⟩))
     ·obtain⟨⟨q,w⟩,eZ,eR⟩:=s
      obtain⟨k1,k2,k3,k4⟩:=hi
      dsimp only at k1 k2 k3 k4 h0
      cbv;rw [he];cbv
      have ha:S3.mk q w=R4:=h0
      rw [hP]at ha
      simp only [S3.mk.injEq]at ha
      exact zE hF rfl rfl rfl zr7 (by rw [k1];exact aD _ _) (by rw [k2];exact aD _ _) rfl ⟨_,rfl,p1,q,w,by simp [hn],by rw [k1,k2],by rw [if_neg hn];exact ha.1,by rw [if_neg hn];exact ha.2⟩
def nM(gr:Bool)(x:af):Bool:=if wgt gr x=0 then true else if gr then decide (hyp x<x.base)else decide (x.base<hyp x)
def inL(n:Int):Bool:=decide (0<=n)&&decide (n<=1048576)
def Fx.of(xs:List af)(gap inner:Int):Fx:=⟨xs,gap,inner,DF xs gap inner⟩
def flx(xs:List af)(gap inner:Int):List Int:=
 if(er xs&&inL gap&&inL inner)=true then((Fx.of xs gap inner).runI 13 (xs.map hyp) (xs.map (nM (DF xs gap inner)))).getD []else xs.map hyp
def hgo(gr:Bool):Int->List Bool->List af->List Bool
 |_,m,[]=>m
 |i,m,x::r=>hgo gr (i+1) (m.set i.toNat (nM gr x)) r
theorem GF(gr:Bool):∀(xs:List af)(dn tl:List Bool),tl.length=xs.length->hgo gr dn.length (dn++tl) xs=dn++xs.map (nM gr)
 | [],dn,[],_=>by simp [hgo]
 | [],_,_::_,h=>by simp at h
 |_::_,_,[],h=>by simp at h
 |x::xs,dn,b::tl,h=>by
  have ih:=GF gr xs (dn++[nM gr x]) tl (by simpa using h)
  rw [hgo]
  have e1:(dn++b::tl).set ((dn.length:Int)).toNat (nM gr x)=(dn++[nM gr x])++tl:=by simp
  have e2:(dn.length:Int)+1=((dn++[nM gr x]).length:Int):=by simp
  rw [e1,e2,ih]
  simp
theorem HM(gr:Bool)(xs:List af):hgo gr 0 (List.replicate xs.length false) xs=xs.map (nM gr):=by
 have:=GF gr xs [] (List.replicate xs.length false) (by simp)
 simpa using this
theorem F8{α:Type}(c:α->Array Value)(n:Nat)(x:α):vw c (List.replicate n x)=List.replicate n (lc (c x)):=by simp [vw]
theorem wj{es:LLA}(h:ay es=true)(t k:Nat)(s:Nat->Nat):AB.mv s ⟨t,k,es⟩=⟨t,k,es⟩:=by
 refine congrArg (AB.mk t k) ?_
 refine(zpl fun x hx=> ?_).trans (List.map_id es)
 refine(zpl fun c hc=> ?_).trans (List.map_id x)
 have hp:=zqf.1 (zqf.1 h x hx) c hc
 cases c<;>first|rfl|cases hp
variable {F:List AT->EH->Prop}{D:List Int}
theorem Fu{eh:EH}{V z r:LLA}{gap inner p:Int}{gr:Bool}{t1 t2:Nat}
  (hF:F=lv 0 (fun res h'=>∃rows,h'=rows.map .live/\∃(p:Int)(gr:Bool)(fr:List Bool),res= .t (.agg [.view V,.J gap,.J inner,.B gr,.own 0,.own 1,.J p])/\rows=[⟨t1,1,vw ak D⟩,⟨t2,1,vw mY fr⟩]))
  (h1:nth eh 1=some (.rw ⟨t1,1,z⟩)) (h2:nth eh 2=some (.rw ⟨t2,1,r⟩)) (hz:z=vw ak D) (hr:r=vw mY fr):F [.agg [.view V,.J gap,.J inner,.B gr,.own 1,.own 2,.J p]] eh:=by
 subst hF hz hr
 exact .inl ⟨.t (.agg [.view V,.J gap,.J inner,.B gr,.own 0,.own 1,.J p]),toH [.rw ⟨t1,1,vw ak D⟩,.rw ⟨t2,1,vw mY fr⟩],[some 1,some 2],
  wkG [some 1,some 2] ⟨.inr zr7,zpt⟩ ⟨⟨_,_,f9 h1,rfl,rfl,rfl,.inl ⟨rfl,aD _ _⟩⟩,⟨_,_,f9 h2,rfl,rfl,rfl,.inl ⟨rfl,aD _ _⟩⟩,zpt⟩ (by decide) aB,_,rfl,p,gr,fr,rfl,rfl⟩
theorem yf(xs:List af)(gap inner:Int)(hl:xs.length<=1048576):PC0 328 [.c (.view (vw af.c xs)),ai gap,ai inner] (.t (abl (DF xs gap inner))):=by
 obtain⟨V,hV⟩:=nmE (vw af.c xs)
 have ha:=lmV hV
 have c1:=iB xs hl
 have c2:=fH xs (xs.map hyp) gap hl (by simpa using hl)
 obtain⟨H,hH⟩:=nmE (vw ak (xs.map hyp))
 have iH:=imV hH
 have kH:=kmV (k:=1) hH fun _=>rfl
 have dH:=dmV hH
 obtain⟨O,hO⟩:=nmE (wrap64 (iz xs (xs.map hyp) gap))
 rw [<-hV,<-hH]at c1 c2
 rw [<-hO]at c2
 rw [<-hV]
 refine aV func328 fun g F hg hF=> ?_
 cbv
 first|(refine bH hg c1 (bn rfl) iH ?_;cbv)|(refine bU hg c1 (bn rfl) iH ?_;cbv)
 first|(refine gC hg c2 (aj (av rfl) (aj (aX (ab:=⟨_,_,H⟩) rfl kH dH) (aj (av rfl) (az)))) rfl ?_;cbv)|(refine fy hg c2 (aj (av rfl) (aj (aX (ab:=⟨_,_,H⟩) rfl kH dH) (aj (av rfl) (az)))) rfl ?_;cbv)
 exact bm hF (by rw [ba hg,DF,hO])
theorem wL(xs:List af)(gap inner:Int)(hl:xs.length<=1048576):bS prog 311 [.c (.view (vw af.c xs)),ai gap,ai inner] fun res hw=>∃(p:Int)(gr:Bool)(fr:List Bool),
  res= .t (.agg [.view (vw af.c xs),.J gap,.J inner,.B gr,.own 0,.own 1,.J p])/\hw=[⟨3,1,vw ak (flx xs gap inner)⟩,⟨4,1,vw mY fr⟩]:=by
 have c1:=iB xs hl
 have c2:=jB xs hl
 have c3:=yf xs gap inner hl
 obtain⟨V,hV⟩:=nmE (vw af.c xs)
 have hW:=lmV hV
 obtain⟨Z,hZ⟩:=nmE (vw ak (xs.map hyp))
 have iZ:=imV hZ
 have pZ:ay Z=true:=ff iZ
 obtain⟨D,hD⟩:=nmE (flx xs gap inner)
 obtain⟨IO,ho⟩:=nmE (er xs)
 obtain⟨G,hG⟩:=nmE (DF xs gap inner)
 rw [<-hV]at c1 c2 c3
 rw [<-hZ]at c1
 rw [<-ho]at c2
 rw [<-hG]at c3
 rw [<-hV,<-hD]
 refine aV func311 fun g F hg hF=> ?_
 cbv
 first|(refine bH hg c1 (bn rfl) iZ ?_;cbv)|(refine bU hg c1 (bn rfl) iZ ?_;cbv)
 refine GI hg (by decide) (by omega) ?_
 cbv
 generalize hM:g .rp (g .ln V) _=M0
 replace hM:M0=vw mY (List.replicate xs.length false):=by
  rw [<-hM,zy hg,bz hg,hV,aU,F8]
  rfl
 have pM:=pmV hM
 have hI:=HM G xs
 obtain⟨HL,hC⟩:=nmE (xs.map (nM G))
 rw [<-hC]at hI
 repeat'(first|(refine bA hg c2 rfl (fun R0 hp=> ?_);cases R0<;>cbv))
 ·exact Fu hF rfl rfl (by rw [hZ,hD,flx,if_neg (by rw [<-ho,<-hp];simp)]) hM
 (refine bA hg (eD _ _ _) rfl (fun I1 hm=> ?_));cbv
 cases I1<;>cbv
 ·exact Fu hF rfl rfl (by rw [hZ,hD,flx,if_neg (by rw [inL,<-hm];simp)]) hM
 (refine bA hg (eD _ _ _) rfl (fun I2 hH=> ?_));cbv
 cases I2<;>cbv
 ·exact Fu hF rfl rfl (by rw [hZ,hD,flx,if_neg (by rw [inL,inL,<-hm,<-hH];simp)]) hM
 have hu:(er xs&&inL gap&&inL inner)=true:=by rw [inL,inL,<-hm,<-hH,<-ho,<-hp];rfl
 first|(refine bA hg c3 rfl (fun R hR=> ?_);cbv)|(refine bf hg c3 rfl (fun R hR=> ?_);cbv)
 obtain rfl:G=R:=hR.symm
 refine aQ hg bq (by kernel_rfl) V (fun x=>lc (af.c x)) xs hV hl (fun z(s:Int×List Bool×LLA)=>[(6,.p 0),(7,.p 3),(39,.v V),(40,.i (g .ln V)),(41,.i (z))]) (fun z(s:Int×List Bool×LLA)=>[.bx 289 7 [.N,.J 0,.J 0,.B false,.N,.N,.J 0],.rw ⟨3,1,Z⟩,.rw ⟨4,1,s.2.2⟩,.bx 289 7 [.view V,.J gap,.J inner,.B G,.own 1,.own 2,.J 0]]) (fun z(s:Int×List Bool×LLA)=>s.1=z/\s.2.2=vw mY s.2.1/\s.2.1.length=xs.length) (fun(s:Int×List Bool×LLA) rest=>hgo G s.1 s.2.1 rest) (HL) (0,_,M0) hI ⟨rfl,hM,by simp⟩ (Wk.weak (wkG [some 0,some 1,some 2,some 3] zr5 ⟨wqB rfl ⟨zr7,zpt⟩,wqE rfl pZ,wqE rfl pM,wqB rfl ⟨zr7,zpt⟩,zpt⟩ (by decide) aB)) (fun z s B hz h0 hi he=> ?_) (fun z s x rest B z0 z1 z2 hx hy h0 hi hc e1 hB=> ?_)
 rotate_left
 ·obtain⟨i,w,eR⟩:=s
  obtain⟨k1,k2,k3⟩:=hi
  dsimp only at k1 k2 k3 h0
  subst k1
  have hQ:aN V=(xs.length:Int):=by rw [hV,aU]
  have hh:i<aN eR:=by rw [k2,aU,k3,<-hQ];exact z1
  have hk:i.toNat<w.length:=by rw [k3];omega
  have sR:∀b b':Bool,b=b'->eR.set i.toNat [.B b]=vw mY (w.set i.toNat b'):=fun b b' h=>by rw [jb,k2,h];rfl
  rw [hgo]at h0
  obtain⟨y0,y1,y2,y3,y4,y5,y6,y7,y8⟩:=x
  obtain⟨HV,hE⟩:=nmE (nM G ⟨y0,y1,y2,y3,y4,y5,y6,y7,y8⟩)
  have ha:HV=if wgt G ⟨y0,y1,y2,y3,y4,y5,y6,y7,y8⟩=0 then true else if G then decide (hyp ⟨y0,y1,y2,y3,y4,y5,y6,y7,y8⟩<y0)else decide (y0<hyp ⟨y0,y1,y2,y3,y4,y5,y6,y7,y8⟩):=hE
  rw [<-hE]at h0
  cbv;rw [hc];cbv;refine goX hg _ z0 hy rfl ?_;cbv
  (refine aY hg (qc ⟨y0,y1,y2,y3,y4,y5,y6,y7,y8⟩) rfl (fun HY hO=> ?_));cbv
  (refine aJ hg (iW ⟨y0,y1,y2,y3,y4,y5,y6,y7,y8⟩ G) rfl (fun Q0 hP=> ?_));cbv
  rw [<-hO,<-hP]at ha
  have t0:g .q .eql Q0 0=decide (Q0=0):=by rw [bj hg];rfl
  by_cases hq:Q0=0
  ·rw [t0,zqu hq]
   rw [if_pos hq]at ha
   cbv
   have s1:=sR (true) HV (ha.symm)
   refine goY hg z0 hh fun j hj ht=> ?_
   cbv
   refine goN hg ⟨_,by rw [hj,k2];exact aZ (zqc hk),rfl⟩ ?_
   cbv
   rw [e1]
   simp only [jC hg]
   subst hj
   exact hB ((i+1,w.set i.toNat HV,_)) _ _ ⟨h0,⟨rfl,s1,by simpa using k3⟩⟩ (Wk.weak (wkG [some 0,some 1,some 2,some 3] zr5 ⟨wqB rfl ⟨zr7,zpt⟩,wqE rfl pZ,wqE rfl (s1.symm▸aD _ _),wqB rfl ⟨zr7,zpt⟩,zpt⟩ (by decide) aB))
  ·rw [t0,zqt hq]
   rw [if_neg hq]at ha
   cases hGc:G
   ·rw [hGc]at ha
    cbv
    have s1:=sR (g .q .lss y0 HY) HV (by rw [ba hg];exact ha.symm)
    refine goY hg z0 hh fun j hj ht=> ?_
    cbv
    refine goN hg ⟨_,by rw [hj,k2];exact aZ (zqc hk),rfl⟩ ?_
    cbv
    rw [e1]
    simp only [jC hg]
    subst hj
    exact hB ((i+1,w.set i.toNat HV,_)) _ _ ⟨h0,⟨rfl,s1,by simpa using k3⟩⟩ (Wk.weak (wkG [some 0,some 1,some 2,some 3] zr5 ⟨wqB rfl ⟨zr7,zpt⟩,wqE rfl pZ,wqE rfl (s1.symm▸aD _ _),wqB rfl ⟨⟨rfl,rfl,rfl,(by rw [hGc];exact rfl),rfl,rfl,rfl,zpt⟩,zpt⟩,zpt⟩ (by decide) aB))
   ·rw [hGc]at ha
    cbv
    cases hqq:g .q .gtr y0 HY
    ·cbv
     have s1:=sR (false) HV (by rw [ha];rw [dm hg]at hqq;exact hqq.symm)
     refine goY hg z0 hh fun j hj ht=> ?_
     cbv
     refine goN hg ⟨_,by rw [hj,k2];exact aZ (zqc hk),rfl⟩ ?_
     cbv
     rw [e1]
     simp only [jC hg]
     subst hj
     exact hB ((i+1,w.set i.toNat HV,_)) _ _ ⟨h0,⟨rfl,s1,by simpa using k3⟩⟩ (Wk.weak (wkG [some 0,some 1,some 2,some 3] zr5 ⟨wqB rfl ⟨zr7,zpt⟩,wqE rfl pZ,wqE rfl (s1.symm▸aD _ _),wqB rfl ⟨⟨rfl,rfl,rfl,(by rw [hGc];exact rfl),rfl,rfl,rfl,zpt⟩,zpt⟩,zpt⟩ (by decide) aB))
    ·cbv
     have s1:=sR (true) HV (by rw [ha];rw [dm hg]at hqq;exact hqq.symm)
     refine goY hg z0 hh fun j hj ht=> ?_
     cbv
     refine goN hg ⟨_,by rw [hj,k2];exact aZ (zqc hk),rfl⟩ ?_
     cbv
     rw [e1]
     simp only [jC hg]
     subst hj
     exact hB ((i+1,w.set i.toNat HV,_)) _ _ ⟨h0,⟨rfl,s1,by simpa using k3⟩⟩ (Wk.weak (wkG [some 0,some 1,some 2,some 3] zr5 ⟨wqB rfl ⟨zr7,zpt⟩,wqE rfl pZ,wqE rfl (s1.symm▸aD _ _),wqB rfl ⟨⟨rfl,rfl,rfl,(by rw [hGc];exact rfl),rfl,rfl,rfl,zpt⟩,zpt⟩,zpt⟩ (by decide) aB))
 ·obtain⟨i,w,eR⟩:=s
  obtain⟨k1,k2,k3⟩:=hi
  dsimp only at k1 k2 k3 h0
  rw [hgo]at h0
  obtain rfl:HL=w:=h0.symm
  have pR:=pmV k2
  obtain⟨X,hX⟩:=nmE (Fx.of xs gap inner)
  have hs:er X.xs=true:=by
   rw [hX]
   simp only [zqs]at hu
   exact hu.1.1
  have hv:=(fq hs).2
  have hb:X.xs=xs:=by rw [hX];rfl
  obtain⟨r,hr1,hY⟩:=Fx.run_some hs 13 (xs.map hyp) HL (by rw [hb];exact k3) (by have:=kD HL 0;rw [hb]at hv;omega)
  have hN:D=r:=by rw [hD,flx,if_pos hu,<-hG,<-hC,<-hX,hr1];rfl
  cbv;rw [he];cbv
  refine Dn hg bq (by kernel_rfl) (fun s:(List Int×List Bool×Int)×LLA×LLA=>[(6,.p 0),(7,.p 3)]) (fun s=>[.bx 289 7 [.N,.J 0,.J 0,.B false,.N,.N,.J 0],.rw ⟨3,1,s.2.1⟩,.rw ⟨4,1,s.2.2⟩,.bx 289 7 [.view V,.J gap,.J inner,.B G,.own 1,.own 2,.J s.1.2.2]])
   (fun s=>s.2.1=vw ak s.1.1/\s.2.2=vw mY s.1.2.1/\s.1.1.length=xs.length/\s.1.2.1.length=xs.length) (fun k s=>X.runI k s.1.1 s.1.2.1) r 13 ((xs.map hyp,HL,0),Z,eR) hr1 ⟨hZ,k2,by simp,k3⟩ (Wk.weak (wkG [some 0,some 1,some 2,some 3] zr2 ⟨wqB rfl ⟨zr7,zpt⟩,wqE rfl pZ,wqE rfl pR,wqB rfl ⟨zr7,zpt⟩,zpt⟩ (by decide) aB)) (fun s k B h0 hi hB=> ?_)
  obtain⟨⟨sz,fr,p⟩,eZ,eR⟩:=s
  obtain⟨k1,k2,k3,k4⟩:=hi
  dsimp only at k1 k2 k3 k4 h0
  cases k with
  |zero=>cases h0
  |succ k=>
   rw [Fx.runI]at h0
   have cp:=m9 X hs sz fr (by rw [hb];exact k3) (by rw [hb];exact k4) p
   have qZ:=pmV k1
   have qR:=pmV k2
   have hS:X.gap=gap:=by rw [hX];rfl
   have hT:X.inner=inner:=by rw [hX];rfl
   have hU:X.gr=G:=by rw [hX,hG];rfl
   simp only [Fx.bx,hb,hS,hT,hU,<-hV,<-k1,<-k2]at cp
   cbv
   refine D0 hg [3,1,2] cp (by decide) (fun r hr=>by simp only [zph,List.not_mem_nil,or_false]at hr;simp only [zqx,List.length_nil];omega) ⟨⟨_,_,rfl,rfl,rfl,rfl,.inr ⟨zr7,zpt⟩⟩,⟨_,_,rfl,rfl,rfl,rfl,.inl ⟨rfl,qZ⟩⟩,⟨_,_,rfl,rfl,rfl,rfl,.inl ⟨rfl,qR⟩⟩,zpt⟩ zr1 fun res eh hq=> ?_
   obtain⟨p',hL,hA,rfl,rfl,h1,h2⟩:=hq
   obtain⟨Z',hf⟩:=nmE (vw ak hL)
   obtain⟨R',hd⟩:=nmE (vw mY hA)
   have hK:=pmV hf
   have hJ:=pmV hd
   rw [<-hf,<-hd]
   simp only [dp,EE.mv,wj hK,wj hJ]
   by_cases hn:fre 0 fr=[]
   ·rw [if_pos hn]at h0 h1 h2
    rw [show decide (fre 0 fr≠[])=false by simp [hn]]
    cbv
    subst h1 h2
    exact Fu hF rfl rfl (by rw [hf,hN];cases h0;rfl) hd
   ·rw [if_neg hn]at h0 h1 h2
    rw [show decide (fre 0 fr≠[])=true by simp [hn]]
    cbv
    refine hB k ((hL,hA,p'),Z',R') _ _ (Nat.lt_succ_self k) (by rw [h1,h2];exact h0) ⟨hf,hd,by rw [h1,n6];exact k3,by rw [h2,n7];exact k4⟩ (Wk.weak (wkG [some 0,some 1,some 2,some 3] zr2 ⟨wqB rfl ⟨zr7,zpt⟩,wqE rfl (hK),wqE rfl (hJ),wqB rfl ⟨zr7,zpt⟩,zpt⟩ (by decide) aB))
theorem sI(xs:List af)(gap inner:Int)(hl:xs.length<=1048576):bS prog 288 [.c (.view (vw af.c xs)),ai gap,ai inner] fun res ha=>res= .o 0/\ha=[⟨3,1,vw ak (flx xs gap inner)⟩]:=by
 have cf:=wL xs gap inner hl
 obtain⟨V,hV⟩:=nmE (vw af.c xs)
 obtain⟨D,hD⟩:=nmE (vw ak (flx xs gap inner))
 have pD:=pmV hD
 rw [<-hV,<-hD]at cf
 rw [<-hV,<-hD]
 refine aV func288 fun g F hg hF=> ?_
 cbv
 refine sT hg (fO cf rfl fun res ha hq=> ?_)
 obtain⟨p,gr,fr,rfl,rfl⟩:=hq
 obtain⟨R,hR⟩:=nmE (vw mY fr)
 have pR:=pmV hR
 rw [<-hR]
 refine⟨[.rw ⟨3,1,D⟩,.rw ⟨4,1,R⟩],by simp only [zqA,List.map_nil,fY (ab:=⟨3,1,D⟩) pD,fY (ab:=⟨4,1,R⟩) pR];rfl,?_⟩
 cbv
 exact bN hF rfl pD
theorem HU(xs:List af)(gap inner:Int):(flx xs gap inner).length=xs.length:=by
 unfold flx
 split
 ·rename_i h
  simp only [zqs]at h
  have hX:er (Fx.of xs gap inner).xs=true:=h.1.1
  have hb:=(fq hX).2
  obtain⟨r,hr1,ha⟩:=Fx.run_some hX 13 (xs.map hyp) (xs.map (nM (DF xs gap inner))) (by simp;rfl) (by have:=kD (xs.map (nM (DF xs gap inner))) 0;rw [zql]at this;have e:(Fx.of xs gap inner).xs.length=xs.length:=rfl;omega)
  rw [hr1]
  simpa using ha
 ·simp
def BO(h:AH):List AC->List AC->Prop
 | [],[]=>True
 |c::cs,d::ds=>qj h c d/\BO h cs ds
 |_,_=>False
variable {h:AH}
theorem BO.at_:∀(cs ds:List AC),BO h cs ds->cs.length=ds.length/\∀(j:Nat)(c d:AC),cs[j]? =some c->ds[j]? =some d->qj h c d
 | [],[],_=>⟨rfl,fun j c d hc=>by simp at hc⟩
 |c::cs,d::ds,hr=>by
  obtain⟨h1,h2⟩:=BO.at_ cs ds hr.2
  refine⟨by simp [h1],fun j x y hx hy=> ?_⟩
  cases j with
  |zero=>simp only [zqw,zqy]at hx hy;subst hx hy;exact hr.1
  |succ j=>exact h2 j x y (by simpa using hx) (by simpa using hy)
 | [],_::_,hr=>hr.elim
 |_::_,[],hr=>hr.elim
theorem AF{r off:Nat}{t k:Nat}{cs ds:List AC}(hr:h[r]? =some (.live ⟨t,k,[cs]⟩))(hl:BO h cs ds):Ec h (.ptr r 0 off) (.eptr ds off):=
 .ptr r 0 off ⟨t,k,[cs]⟩ cs ds hr rfl (BO.at_ cs ds hl).1 (BO.at_ cs ds hl).2
structure S4 where
 i:Int
 p:List Int
 w:List Int
 a:Int
def S4.go(gr:Bool):S4->List (af×Bool)->S4
 |s,[]=>s
 |s,(x,f)::r=>S4.go gr (if f then⟨s.i+1,s.p,s.w,s.a⟩else⟨s.i+1,s.p++[s.i],s.w++[wgt gr x],wrap64 (s.a+wgt gr x)⟩) r
theorem S4.go_eq(X:Fx):∀(xs:List af)(fr:List Bool)(n:Nat)(p w:List Int)(a:Int),fr.length=xs.length->(∀j:Nat,j<xs.length->itA X.xs ((n:Int)+(j:Int))=xs[j]?.getD ⟨0,0,0,0,0,0,0,false,false⟩)->
  S4.go X.gr ⟨n,p,w,a⟩ (xs.zip fr)=⟨(n:Int)+xs.length,p++fre n fr,w++(fre n fr).map fun i=>wgt X.gr (itA X.xs i),pJ a ((fre n fr).map fun i=>wgt X.gr (itA X.xs i))⟩
 | [],[],n,p,w,a,_,_=>by simp [S4.go,fre,pJ]
 | [],_::_,_,_,_,_,h,_=>by simp at h
 |_::_,[],_,_,_,_,h,_=>by simp at h
 |x::xs,b::fr,n,p,w,a,h1,h3=>by
  have hx:itA X.xs (n:Int)=x:=by have:=h3 0 (by simp);simpa using this
  have h4:∀j:Nat,j<xs.length->itA X.xs (((n+1:Nat):Int)+(j:Int))=xs[j]?.getD ⟨0,0,0,0,0,0,0,false,false⟩:=fun j hj=>by
   have:=h3 (j+1) (by simp;omega)
   simp only [List.getElem?_cons_succ]at this
   rw [<-this]
   congr 1
   omega
  have ih:=fun p w a=>S4.go_eq X xs fr (n+1) p w a (by simpa using h1) h4
  have en:((n+1:Nat):Int)=(n:Int)+1:=by omega
  rw [List.zip_cons_cons]
  cases b with
  |true=>
   simp only [S4.go,if_true,fre]
   have:=ih p w a
   rw [en]at this
   rw [this,zqx]
   congr 1
   omega
  |false=>
   simp only [S4.go,Bool.false_eq_true,if_false,fre]
   have:=ih (p++[(n:Int)]) (w++[wgt X.gr x]) (wrap64 (a+wgt X.gr x))
   rw [en]at this
   rw [this,zqx,zqA,pJ,hx,zqC,zqC]
   congr 1
   omega
theorem S4.all_(X:Fx)(hf:fr.length=X.xs.length):S4.go X.gr ⟨0,[],[],0⟩ (X.xs.zip fr)=⟨X.xs.length,fre 0 fr,X.ws fr,X.all fr⟩:=by
 have:=S4.go_eq X X.xs fr 0 [] [] 0 hf (fun j hj=>by simp [itA])
 simpa [Fx.all,Fx.ws]using this
theorem k8(xs:List af)(gr:Bool)(i:Int)(h0:0<=i)(h1:i<xs.length)(c1 c2 c4 c5 c6:AC):PC0 333 [.c (.eptr [.view (vw af.c xs),c1,c2,.B gr,c4,c5,c6] 0),ai i] (.i (wgt gr (itA xs i))):=by
 obtain⟨y,hb⟩:=nmE (itA xs i)
 obtain⟨V,hV⟩:=nmE (vw af.c xs)
 have ha:V[i.toNat]? =some (lc (af.c y)):=by rw [hV,hb];exact aZ (qa h0 h1)
 rw [<-hV,<-hb]
 obtain⟨y0,y1,y2,y3,y4,y5,y6,y7,y8⟩:=y
 cases gr
 ·refine aV func333 fun g F hg hF=> ?_
  cbv
  refine goX hg _ h0 ha rfl ?_
  cbv
  refine goX hg _ h0 ha rfl ?_
  cbv
  exact aO hF (by rw [gA hg];rfl)
 ·refine aV func333 fun g F hg hF=> ?_
  cbv
  refine goX hg _ h0 ha rfl ?_
  cbv
  exact aO hF rfl
theorem tB(xs:List af)(sz:List Int)(gap inner:Int)(gr:Bool)(hx:xs.length<=1048576)(hs:sz.length<=1048576)(c4 c6:AC):PC0 338 [.c (.eptr [.view (vw af.c xs),.J gap,.J inner,.B gr,c4,.view (vw ak sz),c6] 0)] (.i (xl xs sz gap inner gr)):=by
 have co:=gH xs sz gap hx hs
 obtain⟨V,hV⟩:=nmE (vw af.c xs)
 obtain⟨Z,hZ⟩:=nmE (vw ak sz)
 obtain⟨r,hr⟩:=nmE (xl xs sz gap inner gr)
 rw [<-hV,<-hZ]at co⊢
 rw [<-hr]
 rw [xl]at hr
 cases gr
 ·refine aV func338 fun g F hg hF=> ?_
  cbv
  (refine aJ hg (co) rfl (fun OV ha=> ?_));cbv
  obtain⟨n,hn⟩:∃n,n=g .w .sub .i64 inner OV:=⟨_,rfl⟩
  rw [<-hn]
  rw [cu hg,ha]at hn
  cases hq:g .q .gtr n 0<;>cbv
  all_goals rw [dm hg]at hq
  ·(refine aY hg (cV _) rfl (fun Q hQ=> ?_));cbv
   exact aO hF (by rw [hQ,hr,<-hn,if_neg (by simpa using hq)])
  ·exact aO hF (by rw [hr,<-hn,if_pos (by simpa using hq)])
 ·refine aV func338 fun g F hg hF=> ?_
  cbv
  (refine aJ hg (co) rfl (fun OV ha=> ?_));cbv
  obtain⟨n,hn⟩:∃n,n=g .w .sub .i64 inner OV:=⟨_,rfl⟩
  rw [<-hn]
  rw [cu hg,ha]at hn
  cases hq:g .q .lss n 0<;>cbv
  all_goals rw [ba hg]at hq
  ·(refine aY hg (cV _) rfl (fun Q hQ=> ?_));cbv
   exact aO hF (by rw [hQ,hr,<-hn,if_neg (by simpa using hq)])
  ·exact aO hF (by rw [hr,<-hn,if_pos (by simpa using hq)])
structure S5 where
 d:List Int
 s:Int
 b:Bool
def S5.go(X:Fx)(A r:Int):S5->List (Int×Int)->S5
 |s,[]=>s
 |s,(i,_)::is=>S5.go X A r ⟨s.d++[ovr X.gr A r (itA X.xs i)],wrap64 (s.s+ovr X.gr A r (itA X.xs i)),s.b||(ovr X.gr A r (itA X.xs i) !=0)⟩ is
theorem S5.go_eq(X:Fx)(A r:Int):∀(is:List Int)(ws:List Int)(s:S5),ws.length=is.length->S5.go X A r s (is.zip ws)=⟨s.d++is.map (fun i=>ovr X.gr A r (itA X.xs i)),pJ s.s (is.map fun i=>ovr X.gr A r (itA X.xs i)),s.b||(is.map fun i=>ovr X.gr A r (itA X.xs i)).any fun o=>o !=0⟩
 | [],_,s,_=>by simp [S5.go,pJ]
 |i::is,w::ws,s,h=>by
  rw [List.zip_cons_cons,S5.go,S5.go_eq X A r is ws _ (by simpa using h)]
  simp only [zqA,pJ,List.any_cons,zqC,List.singleton_append,Bool.or_assoc]
 |_::_,[],_,h=>by simp at h
theorem Hu(d:List Int)(m k:Nat)(v:Int)(hk:k=d.length):(d++List.replicate (m+1) 0).set k v=(d++[v])++List.replicate m 0:=by
 subst hk
 simp [List.replicate_succ]
def J2(X:Fx)(so:Bool)(sum:Int)(p:Int×Int×Int):Option (Int×Int):=
 if so=false then some (p.1,cl (wrap64 ((itA X.xs p.1).base+p.2.2)))
 else if 0<p.2.1/\0<=sum then some (p.1,(itA X.xs p.1).least)
 else if p.2.1<0/\sum<=0 then some (p.1,xx (itA X.xs p.1))else none
theorem Fx.setS_eq(X:Fx)(fr:List Bool)(rest:Int):X.setS fr rest=((fre 0 fr).zip ((X.ovs fr rest).zip (shr rest (X.ws fr)))).filterMap (J2 X ((X.ovs fr rest).any fun o=>o !=0) (pJ 0 (X.ovs fr rest))):=rfl
theorem tx(X:Fx)(hX:er X.xs=true)(sz:List Int)(fr:List Bool)(hs:sz.length=X.xs.length)(hf:fr.length=X.xs.length)(p:Int):
  Con prog 334 (toH [.bx 304 7 (X.bx p),.rw ⟨4,1,vw mY fr⟩,.rw ⟨3,1,vw ak sz⟩]) [.c (.ptr 0 0 0)] fun res h'=>∃eh,toH eh=h'/\∃p' sz' fr',
   res= .t (abl (decide (fre 0 fr≠[])))/\eh=[.bx 304 7 (X.bx p'),.rw ⟨4,1,vw mY fr'⟩,.rw ⟨3,1,vw ak sz'⟩]/\
   sz'=(if fre 0 fr=[]then sz else qv (X.setS fr (xl X.xs sz X.gap X.inner X.gr)) sz)/\fr'=(if fre 0 fr=[]then fr else pX ((X.setS fr (xl X.xs sz X.gap X.inner X.gr)).map (·.1)) fr):=by
 have hk:=S4.all_ X hf
 obtain⟨yd,yc⟩:=fq hX
 obtain⟨zs,xa⟩:=nmE (X.xs.zip fr)
 have hV:vw af.c X.xs=zs.map fun t=>lc (af.c t.1):=by
  rw [xa,vw]
  conv=>lhs;rw [<-List.map_fst_zip (l₁:=X.xs) (l₂:=fr) (by omega)]
  rw [List.map_map];rfl
 have x7:zs.length<=1048576:=by rw [xa,zqB];omega
 rw [<-xa]at hk
 obtain⟨rt,x1⟩:=nmE (xl X.xs sz X.gap X.inner X.gr)
 have cw:=fun(i:Int)(h0:0<=i)(h1:i<X.xs.length)(c1 c2 c4 c5 c6:AC)=>k8 X.xs X.gr i h0 h1 c1 c2 c4 c5 c6
 have xb:=fun(c4 c6:AC)=>tB X.xs sz X.gap X.inner X.gr (by omega) (by omega) c4 c6
 obtain⟨V,hN⟩:=nmE (vw af.c X.xs)
 obtain⟨Z,hZ⟩:=nmE (vw ak sz)
 have yb:=lmV hZ
 have kZ:=kmV (k:=1) hZ fun _=>rfl
 have dZ:=dmV hZ
 obtain⟨R,hR⟩:=nmE (vw mY fr)
 obtain⟨FR,ha⟩:=nmE (fre 0 fr)
 obtain⟨WS,hQ⟩:=nmE (X.ws fr)
 obtain⟨AL,xz⟩:=nmE (X.all fr)
 obtain⟨GR,hM⟩:=nmE X.gr
 have pZ:=pmV hZ
 have pR:=pmV hR
 have kR:=kmV (k:=1) hR fun _=>rfl
 have dR:=dmV hR
 have xR:aN R=(X.xs.length:Int):=by rw [hR,aU,hf]
 simp only [<-x1]at xb⊢
 simp only [Fx.bx,<-hN,<-hZ,<-hR,<-hM]at cw xb⊢
 rw [<-hN]at hV
 rw [<-ha,<-hQ,<-xz]at hk
 rw [<-ha]
 have xh:aN V=(X.xs.length:Int):=by rw [hN,aU]
 obtain⟨R1,xC⟩:=nmE (S4.mk (X.xs.length:Int) FR WS AL)
 rw [<-xC]at hk
 refine px (c:=jD f334) bq func334 (by kernel_rfl) (by kernel_rfl) (bl (by rfl)) (by kernel_rfl) fun g F hg hF=> ?_
 replace hg:g=G0 prog 3 f334.ntmps:=hg
 replace hF:F=lv 3 _:=hF
 cbv
 refine aQ hg bq (by kernel_rfl) V (fun t=>lc (af.c t.1)) zs hV x7 (fun z(s:S4×LLA×LLA)=>[(0,.p 0),(3,.o 3),(4,.o 4),(5,.i (s.1.a)),(6,.i (z))]) (fun z(s:S4×LLA×LLA)=>[.bx 304 7 [.view V,.J X.gap,.J X.inner,.B GR,.own 1,.own 2,.J p],.rw ⟨4,1,R⟩,.rw ⟨3,1,Z⟩,.rw ⟨3,1,s.2.1⟩,.rw ⟨3,1,s.2.2⟩]) (fun z(s:S4×LLA×LLA)=>s.2.1=vw ak s.1.w/\s.2.2=vw ak s.1.p/\s.1.i=z/\(s.1.w.length:Int)<=z/\(s.1.p.length:Int)<=z) (fun(s:S4×LLA×LLA) rest=>S4.go X.gr s.1 rest) (R1) (⟨0,[],[],0⟩,[],[]) hk ⟨rfl,rfl,rfl,by simp,by simp⟩ (Wk.weak (wkG [some 0,some 1,some 2,some 3,some 4] zr5 ⟨wqB rfl ⟨zr7,zpt⟩,wqE rfl pR,wqE rfl pZ,wqE rfl rfl,wqE rfl rfl,zpt⟩)) (fun z s B hz h0 hi he=> ?_) (fun z s x rest B z0 z1 z2 hx hy h0 hi hc e1 hB=> ?_)
 rotate_left
 ·obtain⟨⟨i,pl,w,a⟩,eW,eP⟩:=s
  obtain⟨b1,b2,b3,b4,b5⟩:=hi
  dsimp only at b1 b2 b3 b4 b5 h0
  subst b3
  obtain⟨x,b⟩:=x
  have hu:=hx
  rw [xa,List.getElem?_zip_eq_some]at hu
  obtain⟨q1,q2⟩:=hu
  have ya:aN V=(X.xs.length:Int):=xh
  have lW:eW.length<=1048576:=by rw [b1,ar];omega
  have lP:eP.length<=1048576:=by rw [b2,ar];omega
  have pW:=pmV b1
  have pP:=pmV b2
  have xc:=fun c1 c2 c4 c5 c6=>cw i z0 (xh▸z1) c1 c2 c4 c5 c6
  have xU:itA X.xs i=x:=by unfold itA;rw [q1];rfl
  obtain⟨w0,xu⟩:=nmE (wgt GR (itA X.xs i))
  simp only [<-xu]at xc
  rw [xU,hM]at xu
  have aP:eP++[[.J i]]=vw ak (pl++[i]):=by rw [bk,b2];rfl
  have aW:eW++[[.J w0]]=vw ak (w++[w0]):=by rw [bk,b1];rfl
  have hW:i<aN R:=by rw [xR,<-xh];exact z1
  cbv
  rw [hc]
  cbv
  refine goY hg z0 hW fun j hj h5=> ?_
  cbv
  refine⟨_,by rw [hj,hR];exact aZ q2,?_⟩
  cases b<;>cbv
  ·refine dg hg rfl (by decide) lP ?_
   cbv
   refine gC hg (xc _ _ (.view R) (.view Z) _) (dz (AF rfl ⟨av rfl,av rfl,av rfl,av rfl,aX (ab:=⟨_,_,R⟩) rfl kR dR,aX (ab:=⟨_,_,Z⟩) rfl kZ dZ,av rfl,zpt⟩) (aj (av rfl) az)) rfl ?_
   cbv
   refine dg hg rfl (by decide) lW ?_
   cbv
   refine gC hg (xc _ _ (.view R) (.view Z) _) (dz (AF rfl ⟨av rfl,av rfl,av rfl,av rfl,aX (ab:=⟨_,_,R⟩) rfl kR dR,aX (ab:=⟨_,_,Z⟩) rfl kZ dZ,av rfl,zpt⟩) (aj (av rfl) az)) rfl ?_
   cbv
   rw [e1]
   simp only [fI hg,aG hg]
   exact hB ((⟨i+1,pl++[i],w++[w0],wrap64 (a+w0)⟩,_,_)) _ _ ⟨(by simpa [S4.go,xu,hM]using h0),⟨aW,aP,rfl,by simp;omega,by simp;omega⟩⟩ (Wk.weak (wkG [some 0,some 1,some 2,some _,some _] zr5 ⟨wqB rfl ⟨zr7,zpt⟩,wqE rfl pR,wqE rfl pZ,wqE rfl (aW.symm▸aD _ _),wqE rfl (aP.symm▸aD _ _),zpt⟩))
  ·rw [e1]
   exact hB ((⟨i+1,pl,w,a⟩,eW,eP)) _ _ ⟨(by simpa [S4.go]using h0),⟨b1,b2,rfl,by dsimp only;omega,by dsimp only;omega⟩⟩ (Wk.weak (wkG [some 0,some 1,some 2,some 3,some 4] zr5 ⟨wqB rfl ⟨zr7,zpt⟩,wqE rfl pR,wqE rfl pZ,wqE rfl pW,wqE rfl pP,zpt⟩))
 obtain⟨⟨i,pl,w,a⟩,eW,eP⟩:=s
 obtain⟨b1,b2,b3,b4,b5⟩:=hi
 dsimp only at b1 b2 h0
 rw [xC]at h0
 simp only [S4.go,S4.mk.injEq]at h0
 obtain⟨-,h2,h3,h4⟩:=h0
 obtain rfl:FR=pl:=h2.symm
 obtain rfl:WS=w:=h3.symm
 obtain rfl:AL=a:=h4.symm
 have pW:=pmV b1
 have x8:=kmV (k:=1) b2 fun _=>rfl
 have xM:=dmV b2
 have xK:=kmV (k:=1) b1 fun _=>rfl
 have xy:=dmV b1
 have x9:FR.length<=12:=by have:=kD fr 0;rw [<-ha,hf]at this;omega
 have xH:WS.length=FR.length:=by rw [hQ,ha,Fx.ws,zql]
 cbv;rw [he];cbv
 by_cases hn:FR=[]
 ·have e:g .q .eql (g .ln eP) 0=true:=by rw [bj hg,bz hg,b2,hn];rfl
  rw [e]
  cbv
  exact zE hF rfl rfl rfl zr7 pR pZ rfl ⟨_,rfl,p,sz,fr,by simp [hn],by rw [hZ,hR],by simp [hn],by simp [hn]⟩
 have e:g .q .eql (g .ln eP) 0=false:=by
  rw [bj hg,bz hg,b2,aU]
  have:FR.length≠0:=fun h=>hn (zqv h)
  simp;omega
 rw [e]
 cbv
 obtain⟨p1,xZ⟩:∃p1,p1=g .w .add .i64 p 1:=⟨_,rfl⟩
 rw [<-xZ]
 refine gC hg (xb (.view R) _) (dz (AF rfl ⟨av rfl,av rfl,av rfl,av rfl,aX (ab:=⟨_,_,R⟩) rfl kR dR,aX (ab:=⟨_,_,Z⟩) rfl kZ dZ,av rfl,zpt⟩) az) rfl ?_
 cbv
 refine GI hg (by decide) (by rw [b2,ar];omega) ?_
 cbv
 generalize hO:g .rp (g .ln eP) _=O0
 replace hO:O0=vw ak (List.replicate FR.length 0):=by
  rw [<-hO,zy hg,bz hg,b2,aU,F8]
  rfl
 have pO:=pmV hO
 obtain⟨qs,h9⟩:=nmE (FR.zip WS)
 have xi:eP=qs.map fun t=>lc (ak t.1):=by
  rw [b2,h9,vw]
  conv=>lhs;rw [<-List.map_fst_zip (l₁:=FR) (l₂:=WS) (by omega)]
  rw [List.map_map];rfl
 have x0:qs.length<=1048576:=by rw [h9,zqB];omega
 obtain⟨hq,hD⟩:=nmE (X.ovs fr rt)
 obtain⟨SM,xG⟩:=nmE (pJ 0 hq)
 obtain⟨SB,xF⟩:=nmE (hq.any fun o=>o !=0)
 obtain⟨R2,xD⟩:=nmE (S5.mk hq SM SB)
 have xO:S5.go X AL rt ⟨[],0,false⟩ qs=R2:=by
  rw [h9,S5.go_eq X AL rt FR WS _ xH,xD,xG,xF,hD,Fx.ovs,<-ha,<-xz]
  simp
 have xQ:hq.length=FR.length:=by rw [hD,Fx.ovs,<-ha,zql]
 refine aQ hg bq (by kernel_rfl) eP (fun t=>lc (ak t.1)) qs xi x0 (fun z(s:S5×LLA)=>[(0,.p 0),(3,.o 3),(4,.v eP),(5,.i (AL)),(7,.i (rt)),(8,.o 4),(9,.i (s.1.s)),(10,.t (abl (s.1.b))),(11,.i (z))]) (fun z(s:S5×LLA)=>[.bx 304 7 [.view V,.J X.gap,.J X.inner,.B GR,.own 1,.own 2,.J p1],.rw ⟨4,1,R⟩,.rw ⟨3,1,Z⟩,.rw ⟨3,1,eW⟩,.rw ⟨3,1,s.2⟩]) (fun z(s:S5×LLA)=>s.2=vw ak (s.1.d++List.replicate (FR.length-s.1.d.length) 0)/\(s.1.d.length:Int)=z) (fun(s:S5×LLA) rest=>S5.go X AL rt s.1 rest) (R2) (⟨[],0,false⟩,O0) xO ⟨by simpa using hO,rfl⟩ (bK (sl1 4 eP) (jL rfl x8 xM) (Wk.weak (wkG [some 0,some 1,some 2,some 3,some 5] zr9 ⟨wqB rfl ⟨zr7,zpt⟩,⟨_,_,rfl,rfl,rfl,rfl,.inl (bJ pR)⟩,⟨_,_,rfl,rfl,rfl,rfl,.inl (bJ pZ)⟩,⟨_,_,rfl,rfl,rfl,rfl,.inl (bJ pW)⟩,⟨_,_,rfl,rfl,rfl,rfl,.inl (bJ pO)⟩,zpt⟩))) (fun z s B hz h0 hi he=> ?_) (fun z s x rest B z0 z1 z2 hx hy h0 hi hc e1 hB=> ?_)
 rotate_left
 ·obtain⟨⟨d,s,b⟩,eO⟩:=s
  obtain⟨i1,i2⟩:=hi
  dsimp only at i1 i2 h0
  obtain⟨x,w⟩:=x
  have hu:=hx
  rw [h9,List.getElem?_zip_eq_some]at hu
  obtain⟨q1,q2⟩:=hu
  have x4:z.toNat<FR.length:=(zqb.1 q1).1
  have hG:x∈fre 0 fr:=ha▸zqd q1
  have hU:=ik fr 0 (zpc 0) x hG
  have x3:=hU.1
  have hC:eP[z.toNat]? =some (lc (ak x)):=by rw [b2];exact aZ q1
  have xe:eW[z.toNat]? =some (lc (ak w)):=by rw [b1];exact aZ q2
  have x6:z<aN eW:=by rw [b1,aU,xH];omega
  have hK:z<aN eO:=by rw [i1,aU];simp only [zqe,zpw];omega
  obtain⟨y,hJ⟩:=nmE (itA X.xs x)
  have hP:V[x.toNat]? =some (lc (af.c y)):=by rw [hN,hJ];exact aZ (qa hU.1 (by rw [<-hf];omega))
  have hw:w=wgt GR y:=by
   rw [hQ,Fx.ws,<-ha,zqi,q1,Option.map_some,zqy,<-hM,<-hJ]at q2
   exact q2.symm
  obtain⟨v,hv⟩:=nmE (ovr GR AL rt y)
  have hgo:S5.go X AL rt ⟨d++[v],wrap64 (s+v),b||(v !=0)⟩ rest=R2:=by rw [hv,hJ,hM];exact h0
  have xr:FR.length-d.length=FR.length-(d.length+1)+1:=by omega
  have xv:z.toNat=d.length:=by omega
  have hp:(d++List.replicate (FR.length-d.length) 0).set z.toNat v=(d++[v])++List.replicate (FR.length-(d.length+1)) 0:=by
   rw [show FR.length-d.length=FR.length-(d.length+1)+1 by omega]
   exact Hu d _ _ v (by omega)
  have hS:(d++List.replicate (FR.length-d.length) 0)[z.toNat]? =some 0:=by
   rw [xr,List.replicate_succ,xv]
   simp
  have xI:((d++[v])++List.replicate (FR.length-(d.length+1)) 0)[z.toNat]? =some v:=by
   rw [show z.toNat=d.length by omega]
   simp
  have xJ:((d++[v]).length:Int)=z+1:=by simp;omega
  obtain⟨y0,y1,y2,y3,y4,y5,y6,y7,y8⟩:=y
  have hr:v=if qX GR AL rt ⟨y0,y1,y2,y3,y4,y5,y6,y7,y8⟩then wrap64 (wrap64 (y1*AL)-tgt GR AL rt ⟨y0,y1,y2,y3,y4,y5,y6,y7,y8⟩)else if 0<=y2/\wrap64 (xx ⟨y0,y1,y2,y3,y4,y5,y6,y7,y8⟩*AL)<tgt GR AL rt ⟨y0,y1,y2,y3,y4,y5,y6,y7,y8⟩then wrap64 (wrap64 (xx ⟨y0,y1,y2,y3,y4,y5,y6,y7,y8⟩*AL)-tgt GR AL rt ⟨y0,y1,y2,y3,y4,y5,y6,y7,y8⟩)else 0:=hv
  cbv
  rw [hc]
  cbv
  refine goX hg _ z0 hC rfl ?_
  cbv
  refine goX hg _ x3 hP rfl ?_
  cbv
  refine goY hg z0 x6 fun jw xY xX=> ?_
  cbv
  refine⟨_,by rw [xY];exact xe,?_⟩
  cbv
  have hT:g .w .add .i64 (g .w .mul .i64 y0 AL) (g .w .mul .i64 rt w)=tgt GR AL rt ⟨y0,y1,y2,y3,y4,y5,y6,y7,y8⟩:=by simp only [aG hg,gA hg,hw];rfl
  have xS:g .q .lss (g .w .add .i64 (g .w .mul .i64 y0 AL) (g .w .mul .i64 rt w)) (g .w .mul .i64 y1 AL)=qX GR AL rt ⟨y0,y1,y2,y3,y4,y5,y6,y7,y8⟩:=by rw [hT];simp only [ba hg,gA hg];rfl
  rw [xS]
  cases hl:qX GR AL rt ⟨y0,y1,y2,y3,y4,y5,y6,y7,y8⟩
  case' false=>
   rw [hl]at hr
   simp only [Bool.false_eq_true,if_false]at hr
   cbv
   cases h2:g .q .geq y2 0
   case' false=>
    have h6:v=0:=by
     rw [i6 hg]at h2
     have:=of_decide_eq_false h2
     rw [hr,if_neg (by omega)]
    cbv
    obtain⟨E1,hL⟩:=nmE eO
    have hh:E1=vw ak ((d++[v])++List.replicate (FR.length-(d.length+1)) 0):=by
     rw [hL,i1,<-hp,h6]
     congr 1
     rw [xr,List.replicate_succ,xv]
     simp
    rw [<-hL]
    cbv
   case' true=>
    cbv
    have xN:0<=y2:=by rw [i6 hg]at h2;exact of_decide_eq_true h2
    (first|refine aY hg (eG ⟨y0,y1,y2,y3,y4,y5,y6,y7,y8⟩) rfl (fun Q1 xA=> ?_)|refine aJ hg (eG ⟨y0,y1,y2,y3,y4,y5,y6,y7,y8⟩) rfl (fun Q1 xA=> ?_));cbv
    have xT:g .q .gtr (g .w .add .i64 (g .w .mul .i64 y0 AL) (g .w .mul .i64 rt w)) (g .w .mul .i64 Q1 AL)=decide (wrap64 (xx ⟨y0,y1,y2,y3,y4,y5,y6,y7,y8⟩*AL)<tgt GR AL rt ⟨y0,y1,y2,y3,y4,y5,y6,y7,y8⟩):=by rw [hT];simp only [dm hg,gA hg,xA]
    rw [xT]
    by_cases h3:wrap64 (xx ⟨y0,y1,y2,y3,y4,y5,y6,y7,y8⟩*AL)<tgt GR AL rt ⟨y0,y1,y2,y3,y4,y5,y6,y7,y8⟩
    case' pos=>
     rw [zqu h3]
     have h6:v=wrap64 (wrap64 (xx ⟨y0,y1,y2,y3,y4,y5,y6,y7,y8⟩*AL)-tgt GR AL rt ⟨y0,y1,y2,y3,y4,y5,y6,y7,y8⟩):=by rw [hr,if_pos ⟨xN,h3⟩]
     cbv
     (first|refine aY hg (eG ⟨y0,y1,y2,y3,y4,y5,y6,y7,y8⟩) rfl (fun Q2 xB=> ?_)|refine aJ hg (eG ⟨y0,y1,y2,y3,y4,y5,y6,y7,y8⟩) rfl (fun Q2 xB=> ?_));cbv
     refine goY hg z0 hK fun j hj h5=> ?_
     cbv
     refine goN hg ⟨_,by rw [hj,i1];exact aZ hS,rfl⟩ ?_
     cbv
     generalize hG1:g .st _ _ _=E1
     have hh:E1=vw ak ((d++[v])++List.replicate (FR.length-(d.length+1)) 0):=by
      rw [<-hG1,jC hg,hj,show g .w .sub .i64 (g .w .mul .i64 Q2 AL) (g .w .add .i64 (g .w .mul .i64 y0 AL) (g .w .mul .i64 rt w))=v by rw [hT,h6,xB];simp only [cu hg,gA hg]]
      have:=jb ak (d++List.replicate (FR.length-d.length) 0) z.toNat v
      rw [<-hp,this,i1]
      rfl
    case' neg=>
     rw [zqt h3]
     have h6:v=0:=by rw [hr,if_neg (fun h=>h3 h.2)]
     cbv
     obtain⟨E1,hL⟩:=nmE eO
     have hh:E1=vw ak ((d++[v])++List.replicate (FR.length-(d.length+1)) 0):=by
      rw [hL,i1,<-hp,h6]
      congr 1
      rw [xr,List.replicate_succ,xv]
      simp
     rw [<-hL]
     cbv
  case' true=>
   rw [hl]at hr
   simp only [if_true]at hr
   cbv
   refine goY hg z0 hK fun j hj h5=> ?_
   cbv
   refine goN hg ⟨_,by rw [hj,i1];exact aZ hS,rfl⟩ ?_
   cbv
   generalize hG1:g .st _ _ _=E1
   have hh:E1=vw ak ((d++[v])++List.replicate (FR.length-(d.length+1)) 0):=by
    rw [<-hG1,jC hg,hj,show g .w .sub .i64 (g .w .mul .i64 y1 AL) (g .w .add .i64 (g .w .mul .i64 y0 AL) (g .w .mul .i64 rt w))=v by rw [hT,hr];simp only [cu hg,gA hg]]
    have:=jb ak (d++List.replicate (FR.length-d.length) 0) z.toNat v
    rw [<-hp,this,i1]
    rfl
  all_goals
   have xL:=pmV hh
   have hY:E1=vw ak ((d++[v])++List.replicate (FR.length-(d++[v]).length) 0):=by rw [hh];simp
   refine goY hg z0 (by rw [hh,aU];simp only [zqe,zpw,zqm];omega) fun j1 xV xW=> ?_
   cbv
   refine⟨_,by rw [xV,hh];exact aZ xI,?_⟩
   cbv
   cases hb:b
   ·cbv
    refine goY hg z0 (by rw [hh,aU];simp only [zqe,zpw,zqm];omega) fun j2 hd hE=> ?_
    cbv
    refine⟨_,by rw [hd,hh];exact aZ xI,?_⟩
    cbv
    rw [e1,bC hg,aG hg]
    exact hB ((⟨d++[v],wrap64 (s+v),(v !=0)⟩,E1)) _ _ ⟨(by rw [hb]at hgo;exact hgo),⟨hY,xJ⟩⟩ (Wk.weak (wkG [some 0,some 1,some 2,some 3,some 4] zr9 ⟨wqB rfl ⟨zr7,zpt⟩,wqE rfl pR,wqE rfl pZ,wqE rfl pW,wqE rfl xL,zpt⟩))
   ·cbv
    rw [e1,aG hg]
    exact hB ((⟨d++[v],wrap64 (s+v),true⟩,E1)) _ _ ⟨(by rw [hb]at hgo;exact hgo),⟨hY,xJ⟩⟩ (Wk.weak (wkG [some 0,some 1,some 2,some 3,some 4] zr9 ⟨wqB rfl ⟨zr7,zpt⟩,wqE rfl pR,wqE rfl pZ,wqE rfl pW,wqE rfl xL,zpt⟩))
 obtain⟨⟨d,s,b⟩,eO⟩:=s
 obtain⟨i1,i2⟩:=hi
 dsimp only at i1 i2 h0
 rw [xD]at h0
 simp only [S5.go,S5.mk.injEq]at h0
 obtain⟨h2,h3,h4⟩:=h0
 obtain rfl:hq=d:=h2.symm
 obtain rfl:SM=s:=h3.symm
 obtain rfl:SB=b:=h4.symm
 have xf:eO=vw ak hq:=by rw [i1,xQ,Nat.sub_self];simp
 have pO:=pmV xf
 have x2:(shr rt WS).length=FR.length:=by rw [hQ,ha];exact X.shr_len hX hf rt
 have cs:=nT rt WS (by omega)
 obtain⟨SH,xg⟩:=nmE (shr rt WS)
 obtain⟨ES,h7⟩:=nmE (vw ak SH)
 have xw:=imV h7
 have hH:ay ES=true:=ff xw
 rw [<-xg,<-b1,<-h7]at cs
 rw [<-xg]at x2
 obtain⟨q3,h8⟩:=nmE (FR.zip (hq.zip SH))
 have xi:eP=q3.map fun t=>lc (ak t.1):=by
  rw [b2,h8,vw]
  conv=>lhs;rw [<-List.map_fst_zip (l₁:=FR) (l₂:=hq.zip SH) (by rw [zqB];omega)]
  rw [List.map_map];rfl
 have xt:q3.length<=1048576:=by rw [h8,zqB];omega
 obtain⟨R3,xE⟩:=nmE (S3.mk (qv (X.setS fr rt) sz) (pX ((X.setS fr rt).map (·.1)) fr))
 have xP:S3.go ⟨sz,fr⟩ (q3.filterMap (J2 X SB SM))=R3:=by rw [xE,X.setS_eq,<-ha,<-hD,<-hQ,<-xg,<-xF,<-xG,<-h8];rfl
 cbv;rw [he];cbv
 first|(refine bH hg cs (aj (av rfl) (aj (aX (ab:=⟨_,_,eW⟩) rfl xK xy) (az))) xw ?_;cbv)|(refine bU hg cs (aj (av rfl) (aj (aX (ab:=⟨_,_,eW⟩) rfl xK xy) (az))) xw ?_;cbv)
 refine aQ hg bq (by kernel_rfl) eP (fun t=>lc (ak t.1)) q3 xi xt (fun z(s:S3×LLA×LLA)=>[(0,.p 0),(4,.v eP),(8,.o 3),(9,.i (SM)),(10,.t (abl (SB))),(14,.o 4),(15,.i (z))]) (fun z(s:S3×LLA×LLA)=>[.bx 304 7 [.view V,.J X.gap,.J X.inner,.B GR,.own 1,.own 2,.J p1],.rw ⟨4,1,s.2.2⟩,.rw ⟨3,1,s.2.1⟩,.rw ⟨3,1,eO⟩,.rw ⟨3,1,ES⟩]) (fun z(s:S3×LLA×LLA)=>s.2.1=vw ak s.1.s/\s.2.2=vw mY s.1.f/\s.1.s.length=X.xs.length/\s.1.f.length=X.xs.length) (fun(s:S3×LLA×LLA) rest=>S3.go s.1 (rest.filterMap (J2 X SB SM))) (R3) (⟨sz,fr⟩,Z,R) xP ⟨hZ,hR,hs,hf⟩ (Wk.weak (wkG [some 0,some 1,some 2,some 4,some 5] zr7 ⟨wqB rfl ⟨zr7,zpt⟩,wqE rfl pR,wqE rfl pZ,wqE rfl pO,wqE rfl hH,zpt⟩)) (fun z s B hz h0 hi he=> ?_) (fun z s x rest B z0 z1 z2 hx hy h0 hi hc e1 hB=> ?_)
 rotate_left
 ·obtain⟨⟨q,u⟩,eZ,eR⟩:=s
  obtain⟨k1,k2,k3,k4⟩:=hi
  dsimp only at k1 k2 k3 k4 h0
  obtain⟨x,o,sh⟩:=x
  have hu:=hx
  rw [h8,List.getElem?_zip_eq_some,List.getElem?_zip_eq_some]at hu
  obtain⟨q1,q2,q4⟩:=hu
  have x4:z.toNat<FR.length:=(zqb.1 q1).1
  have hG:x∈fre 0 fr:=ha▸zqd q1
  have hU:=ik fr 0 (zpc 0) x hG
  have ho:=hU.1
  have hC:eP[z.toNat]? =some (lc (ak x)):=by rw [b2];exact aZ q1
  have hA:eO[z.toNat]? =some (lc (ak o)):=by rw [xf];exact aZ q2
  have xd:ES[z.toNat]? =some (lc (ak sh)):=by rw [h7];exact aZ q4
  have hK:z<aN eO:=by rw [xf,aU];omega
  have x5:z<aN ES:=by rw [h7,aU];omega
  obtain⟨y,hJ⟩:=nmE (itA X.xs x)
  have hP:V[x.toNat]? =some (lc (af.c y)):=by rw [hN,hJ];exact aZ (qa hU.1 (by rw [<-hf];omega))
  have hW:x<aN eR:=by rw [k2,aU,k4,<-hf];omega
  have xj:x<aN eZ:=by rw [k1,aU,k3,<-hf];omega
  have xm:x.toNat<u.length:=by rw [k4,<-hf];omega
  have xk:x.toNat<q.length:=by rw [k3,<-hf];omega
  have sR:eR.set x.toNat [.B true]=vw mY (u.set x.toNat true):=by rw [jb,k2];rfl
  have sZ:∀v:Int,eZ.set x.toNat [.J v]=vw ak (q.set x.toNat v):=fun v=>by rw [jb,k1];rfl
  have pq:=pmV k1
  have pu:=pmV k2
  have ht:J2 X SB SM (x,o,sh)=if SB=false then some (x,cl (wrap64 (y.base+sh)))else if 0<o/\0<=SM then some (x,y.least)else if o<0/\SM<=0 then some (x,xx y)else none:=by rw [hJ];rfl
  obtain⟨y0,y1,y2,y3,y4,y5,y6,y7,y8⟩:=y
  dsimp only at ht
  cbv
  rw [hc]
  cbv
  refine goX hg _ z0 hC rfl ?_
  cbv
  cases hSBc:SB
  ·cbv
   refine goX hg _ ho hP rfl ?_
   cbv
   refine goY hg z0 x5 fun j3 xn xp=> ?_
   cbv
   refine⟨_,by rw [xn];exact xd,?_⟩
   cbv
   (first|refine aY hg (aI _) rfl (fun Q0 hI=> ?_)|refine aJ hg (aI _) rfl (fun Q0 hI=> ?_));cbv
   rw [aG hg]at hI
   refine goY hg ho xj fun j2 hd hE=> ?_
   cbv
   refine goN hg ⟨_,by rw [hd,k1];exact aZ (zqc xk),rfl⟩ ?_
   cbv
   refine goY hg ho hW fun j hj h5=> ?_
   cbv
   refine goN hg ⟨_,by rw [hj,k2];exact aZ (zqc xm),rfl⟩ ?_
   cbv
   rw [e1]
   simp only [jC hg]
   subst hj hd
   exact hB ((⟨q.set x.toNat (Q0),u.set x.toNat true⟩,_,_)) _ _ ⟨(by rw [List.filterMap_cons_some (b:=(x,Q0)) (by rw [ht,if_pos hSBc,hI])]at h0;exact h0),⟨sZ _,sR,by simpa using k3,by simpa using k4⟩⟩ (Wk.weak (wkG [some 0,some 1,some 2,some 3,some 4] ⟨rfl,rfl,rfl,rfl,(by rw [hSBc];exact rfl),rfl,rfl,zpt⟩ ⟨wqB rfl ⟨zr7,zpt⟩,wqE rfl (sR.symm▸aD _ _),wqE rfl ((sZ _).symm▸aD _ _),wqE rfl pO,wqE rfl hH,zpt⟩))
  ·rw [if_neg (by rw [hSBc];simp)]at ht
   cbv
   refine goY hg z0 hK fun j3 xn xp=> ?_
   cbv
   refine⟨_,by rw [xn];exact hA,?_⟩
   cbv
   have tg:g .q .gtr o 0=decide (0<o):=by rw [dm hg]
   have tl:g .q .lss o 0=decide (o<0):=ba hg _ _
   have tm:g .q .geq SM 0=decide (0<=SM):=by rw [i6 hg]
   have tn:g .q .leq SM 0=decide (SM<=0):=ja hg _ _
   by_cases c1:0<o
   ·rw [tg,zqu c1]
    cbv
    by_cases c2:0<=SM
    ·rw [tm,zqu c2]
     cbv
     refine goX hg _ ho hP rfl ?_
     cbv
     refine goY hg ho xj fun j2 hd hE=> ?_
     cbv
     refine goN hg ⟨_,by rw [hd,k1];exact aZ (zqc xk),rfl⟩ ?_
     cbv
     refine goY hg ho hW fun j hj h5=> ?_
     cbv
     refine goN hg ⟨_,by rw [hj,k2];exact aZ (zqc xm),rfl⟩ ?_
     cbv
     rw [e1]
     simp only [jC hg]
     subst hj hd
     exact hB ((⟨q.set x.toNat (y1),u.set x.toNat true⟩,_,_)) _ _ ⟨(by rw [List.filterMap_cons_some (b:=(x,y1)) (by rw [ht,if_pos ⟨c1,c2⟩])]at h0;exact h0),⟨sZ _,sR,by simpa using k3,by simpa using k4⟩⟩ (Wk.weak (wkG [some 0,some 1,some 2,some 3,some 4] ⟨rfl,rfl,rfl,rfl,(by rw [hSBc];exact rfl),rfl,rfl,zpt⟩ ⟨wqB rfl ⟨zr7,zpt⟩,wqE rfl (sR.symm▸aD _ _),wqE rfl ((sZ _).symm▸aD _ _),wqE rfl pO,wqE rfl hH,zpt⟩))
    ·rw [tm,zqt c2]
     cbv
     refine goY hg z0 hK fun j4 xo xq=> ?_
     cbv
     refine⟨_,by rw [xo];exact hA,?_⟩
     cbv
     rw [tl,zqt (by omega)]
     cbv
     rw [e1]
     exact hB ((⟨q,u⟩,eZ,eR)) _ _ ⟨(by rw [List.filterMap_cons_none (by rw [ht,if_neg (fun h=>c2 h.2),if_neg (by omega)])]at h0;exact h0),⟨k1,k2,k3,k4⟩⟩ (Wk.weak (wkG [some 0,some 1,some 2,some 3,some 4] ⟨rfl,rfl,rfl,rfl,(by rw [hSBc];exact rfl),rfl,rfl,zpt⟩ ⟨wqB rfl ⟨zr7,zpt⟩,wqE rfl pu,wqE rfl pq,wqE rfl pO,wqE rfl hH,zpt⟩))
   ·rw [tg,zqt c1]
    cbv
    refine goY hg z0 hK fun j4 xo xq=> ?_
    cbv
    refine⟨_,by rw [xo];exact hA,?_⟩
    cbv
    by_cases c3:o<0
    ·rw [tl,zqu c3]
     cbv
     by_cases c4:SM<=0
     ·rw [tn,zqu c4]
      cbv
      refine goX hg _ ho hP rfl ?_
      cbv
      (first|refine aY hg (eG ⟨y0,y1,y2,y3,y4,y5,y6,y7,y8⟩) rfl (fun Q0 hI=> ?_)|refine aJ hg (eG ⟨y0,y1,y2,y3,y4,y5,y6,y7,y8⟩) rfl (fun Q0 hI=> ?_));cbv
      refine goY hg ho xj fun j2 hd hE=> ?_
      cbv
      refine goN hg ⟨_,by rw [hd,k1];exact aZ (zqc xk),rfl⟩ ?_
      cbv
      refine goY hg ho hW fun j hj h5=> ?_
      cbv
      refine goN hg ⟨_,by rw [hj,k2];exact aZ (zqc xm),rfl⟩ ?_
      cbv
      rw [e1]
      simp only [jC hg]
      subst hj hd
      exact hB ((⟨q.set x.toNat (Q0),u.set x.toNat true⟩,_,_)) _ _ ⟨(by rw [List.filterMap_cons_some (b:=(x,Q0)) (by rw [ht,if_neg (fun h=>c1 h.1),if_pos ⟨c3,c4⟩,hI])]at h0;exact h0),⟨sZ _,sR,by simpa using k3,by simpa using k4⟩⟩ (Wk.weak (wkG [some 0,some 1,some 2,some 3,some 4] ⟨rfl,rfl,rfl,rfl,(by rw [hSBc];exact rfl),rfl,rfl,zpt⟩ ⟨wqB rfl ⟨zr7,zpt⟩,wqE rfl (sR.symm▸aD _ _),wqE rfl ((sZ _).symm▸aD _ _),wqE rfl pO,wqE rfl hH,zpt⟩))
     ·rw [tn,zqt c4]
      cbv
      rw [e1]
      exact hB ((⟨q,u⟩,eZ,eR)) _ _ ⟨(by rw [List.filterMap_cons_none (by rw [ht,if_neg (fun h=>c1 h.1),if_neg (fun h=>c4 h.2)])]at h0;exact h0),⟨k1,k2,k3,k4⟩⟩ (Wk.weak (wkG [some 0,some 1,some 2,some 3,some 4] ⟨rfl,rfl,rfl,rfl,(by rw [hSBc];exact rfl),rfl,rfl,zpt⟩ ⟨wqB rfl ⟨zr7,zpt⟩,wqE rfl pu,wqE rfl pq,wqE rfl pO,wqE rfl hH,zpt⟩))
    ·rw [tl,zqt c3]
     cbv
     rw [e1]
     exact hB ((⟨q,u⟩,eZ,eR)) _ _ ⟨(by rw [List.filterMap_cons_none (by rw [ht,if_neg (fun h=>c1 h.1),if_neg (fun h=>c3 h.1)])]at h0;exact h0),⟨k1,k2,k3,k4⟩⟩ (Wk.weak (wkG [some 0,some 1,some 2,some 3,some 4] ⟨rfl,rfl,rfl,rfl,(by rw [hSBc];exact rfl),rfl,rfl,zpt⟩ ⟨wqB rfl ⟨zr7,zpt⟩,wqE rfl pu,wqE rfl pq,wqE rfl pO,wqE rfl hH,zpt⟩))
 obtain⟨⟨q,u⟩,eZ,eR⟩:=s
 obtain⟨k1,k2,k3,k4⟩:=hi
 dsimp only at k1 k2 k3 k4 h0
 cbv;rw [he];cbv
 have hm:S3.mk q u=R3:=h0
 rw [xE]at hm
 simp only [S3.mk.injEq]at hm
 exact zE hF rfl rfl rfl zr7 (by rw [k2];exact aD _ _) (by rw [k1];exact aD _ _) rfl ⟨_,rfl,p1,q,u,by simp [hn],by rw [k1,k2],by rw [if_neg hn];exact hm.1,by rw [if_neg hn];exact hm.2⟩
def szo(G:Bool)(x:af):Int:=if nM G x then hyp x else x.base
theorem CH(G:Bool):∀(xs:List af),mix xs (xs.map (nM G)) (xs.map hyp)=xs.map (szo G)
 | []=>rfl
 |x::xs=>by simp only [zqA,mix,CH G xs];rfl
theorem Bn{eh:EH}{z:LLA}{p:Int}{t r:Nat}
  (hF:F=lv 0 (fun res h'=>∃rows,h'=rows.map .live/\∃(p:Int),res= .tup [.c (.own 0),.c (.J p)]/\rows=[⟨t,1,vw ak D⟩]))
  (h1:nth eh r=some (.rw ⟨t,1,z⟩)) (hz:z=vw ak D):F [.c (.own r),.c (.J p)] eh:=by
 subst hF hz
 exact .inl ⟨.tup [.c (.own 0),.c (.J p)],toH [.rw ⟨t,1,vw ak D⟩],[some r],
  wkG [some r] ⟨zr2,zpt⟩ ⟨⟨_,_,f9 h1,rfl,rfl,rfl,.inl ⟨rfl,aD _ _⟩⟩,zpt⟩ (by simp) aB,_,rfl,p,rfl,rfl⟩
theorem xE(xs:List af)(gap inner:Int)(hl:xs.length<=1048576):PC0 332 [.c (.view (vw af.c xs)),ai gap,ai inner] (.t (abl (DF xs gap inner))):=by
 obtain⟨V,hV⟩:=nmE (vw af.c xs)
 have ha:=lmV hV
 have c1:=jn xs hl
 have c2:=gH xs (xs.map hyp) gap hl (by simpa using hl)
 obtain⟨H,hH⟩:=nmE (vw ak (xs.map hyp))
 have iH:=imV hH
 have kH:=kmV (k:=1) hH fun _=>rfl
 have dH:=dmV hH
 obtain⟨O,hO⟩:=nmE (wrap64 (iz xs (xs.map hyp) gap))
 rw [<-hV,<-hH]at c1 c2
 rw [<-hO]at c2
 rw [<-hV]
 refine aV func332 fun g F hg hF=> ?_
 cbv
 first|(refine bH hg c1 (bn rfl) iH ?_;cbv)|(refine bU hg c1 (bn rfl) iH ?_;cbv)
 first|(refine gC hg c2 (aj (av rfl) (aj (aX (ab:=⟨_,_,H⟩) rfl kH dH) (aj (av rfl) (az)))) rfl ?_;cbv)|(refine fy hg c2 (aj (av rfl) (aj (aX (ab:=⟨_,_,H⟩) rfl kH dH) (aj (av rfl) (az)))) rfl ?_;cbv)
 exact bm hF (by rw [ba hg,DF,hO])
theorem tC(xs:List af)(gap inner:Int)(hl:xs.length<=1048576):bS prog 314 [.c (.view (vw af.c xs)),ai gap,ai inner] fun res hI=>∃(p:Int),res= .tup [.c (.own 0),.c (.J p)]/\hI=[⟨3,1,vw ak (flx xs gap inner)⟩]:=by
 have c1:=jn xs hl
 have c2:=jq xs hl
 have c3:=xE xs gap inner hl
 have cw:=fun(gr:Bool)(i:Int)(h0:0<=i)(h1:i<xs.length)(c1 c2 c4 c5 c6:AC)=>k8 xs gr i h0 h1 c1 c2 c4 c5 c6
 obtain⟨V,hV⟩:=nmE (vw af.c xs)
 have h6:=lmV hV
 obtain⟨Z,hZ⟩:=nmE (vw ak (xs.map hyp))
 have iZ:=imV hZ
 obtain⟨D,hD⟩:=nmE (flx xs gap inner)
 obtain⟨IO,ht⟩:=nmE (er xs)
 obtain⟨G,hG⟩:=nmE (DF xs gap inner)
 simp only [<-hV]at c1 c2 c3 cw
 rw [<-hZ]at c1
 rw [<-ht]at c2
 rw [<-hG]at c3
 rw [<-hV,<-hD]
 obtain⟨HL,hk⟩:=nmE (xs.map (nM G))
 obtain⟨SL,hA⟩:=nmE (xs.map (szo G))
 refine aV func314 fun g F hg hF=> ?_
 cbv
 repeat'(first|(refine bA hg c2 rfl (fun R0 hw=> ?_);cases R0<;>cbv))
 ·first|(refine bH hg c1 (bn rfl) iZ ?_;cbv)|(refine bU hg c1 (bn rfl) iZ ?_;cbv)
  exact Bn hF rfl (by rw [hZ,hD,flx,if_neg (by rw [<-ht,<-hw];simp)])
 (refine bA hg (db _ _ _) rfl (fun I1 hs=> ?_));cbv
 cases I1<;>cbv
 ·first|(refine bH hg c1 (bn rfl) iZ ?_;cbv)|(refine bU hg c1 (bn rfl) iZ ?_;cbv)
  exact Bn hF rfl (by rw [hZ,hD,flx,if_neg (by rw [inL,<-hs];simp)])
 (refine bA hg (db _ _ _) rfl (fun I2 hM=> ?_));cbv
 cases I2<;>cbv
 ·first|(refine bH hg c1 (bn rfl) iZ ?_;cbv)|(refine bU hg c1 (bn rfl) iZ ?_;cbv)
  exact Bn hF rfl (by rw [hZ,hD,flx,if_neg (by rw [inL,inL,<-hs,<-hM];simp)])
 have hC:(er xs&&inL gap&&inL inner)=true:=by rw [inL,inL,<-hs,<-hM,<-ht,<-hw];rfl
 first|(refine bA hg c3 rfl (fun R hR=> ?_);cbv)|(refine bf hg c3 rfl (fun R hR=> ?_);cbv)
 obtain rfl:G=R:=hR.symm
 refine aQ hg bq (by kernel_rfl) V (fun x=>lc (af.c x)) xs hV hl (fun z(s:Int×(List Bool×List Int)×LLA×LLA)=>[(0,.v V),(8,.p 0),(9,.i (z))]) (fun z(s:Int×(List Bool×List Int)×LLA×LLA)=>[.bx 304 7 [.view V,.J gap,.J inner,.B G,.own 1,.own 2,.J 0],.rw ⟨4,1,s.2.2.1⟩,.rw ⟨3,1,s.2.2.2⟩]) (fun z(s:Int×(List Bool×List Int)×LLA×LLA)=>s.1=z/\s.2.2.1=vw mY s.2.1.1/\s.2.2.2=vw ak s.2.1.2/\(s.2.1.1.length:Int)=z/\(s.2.1.2.length:Int)=z) (fun(s:Int×(List Bool×List Int)×LLA×LLA) rest=>(s.2.1.1++rest.map (nM G),s.2.1.2++rest.map (szo G))) ((HL,SL)) (0,([],[]),[],[]) (by rw [hk,hA];rfl) ⟨rfl,rfl,rfl,rfl,rfl⟩ (Wk.weak (wkG [some 0,none,none] zr3 ⟨wqB rfl ⟨zr7,zpt⟩,⟨_,rfl,rfl⟩,⟨_,rfl,rfl⟩,zpt⟩ (by decide) aB)) (fun z s B hz h0 hi he=> ?_) (fun z s x rest B z0 z1 z2 hx hy h0 hi hc e1 hB=> ?_)
 rotate_left
 ·obtain⟨i,⟨H,S⟩,eH,eS⟩:=s
  obtain⟨k1,k2,k3,k4,k5⟩:=hi
  dsimp only at k1 k2 k3 k4 k5 h0
  subst k1
  have hT:aN V=(xs.length:Int):=by rw [hV,aU]
  have hH:i<(xs.length:Int):=hT▸z1
  have pH:=pmV k2
  have pS:=pmV k3
  have lH:eH.length<=1048576:=by rw [k2,ar];omega
  have lS:eS.length<=1048576:=by rw [k3,ar];omega
  have kH:=kmV (k:=1) k2 fun _=>rfl
  have dH:=dmV k2
  have kS:=kmV (k:=1) k3 fun _=>rfl
  have dS:=dmV k3
  have hJ:=fun c1 c2 c4 c5 c6=>cw G i z0 hH c1 c2 c4 c5 c6
  have h3:itA xs i=x:=by unfold itA;rw [hx];rfl
  obtain⟨Q0,hu⟩:=nmE (wgt G (itA xs i))
  simp only [<-hu]at hJ
  rw [h3]at hu
  obtain⟨y0,y1,y2,y3,y4,y5,y6,y7,y8⟩:=x
  obtain⟨HV,hh⟩:=nmE (nM G ⟨y0,y1,y2,y3,y4,y5,y6,y7,y8⟩)
  obtain⟨SV,hj⟩:=nmE (szo G ⟨y0,y1,y2,y3,y4,y5,y6,y7,y8⟩)
  have hb:HV=if wgt G ⟨y0,y1,y2,y3,y4,y5,y6,y7,y8⟩=0 then true else if G then decide (hyp ⟨y0,y1,y2,y3,y4,y5,y6,y7,y8⟩<y0)else decide (y0<hyp ⟨y0,y1,y2,y3,y4,y5,y6,y7,y8⟩):=hh
  have hd:SV=if HV then hyp ⟨y0,y1,y2,y3,y4,y5,y6,y7,y8⟩else y0:=by rw [hj,szo,<-hh]
  cbv
  rw [hc]
  cbv
  refine goX hg _ z0 hy rfl ?_
  cbv
  (refine aY hg (pT ⟨y0,y1,y2,y3,y4,y5,y6,y7,y8⟩) rfl (fun HY hL=> ?_));cbv
  refine goX hg _ z0 hy rfl ?_
  cbv
  refine gC hg (hJ _ _ (.view eH) (.view eS) _) (dz (AF rfl ⟨av rfl,av rfl,av rfl,av rfl,aX (ab:=⟨_,_,eH⟩) rfl kH dH,aX (ab:=⟨_,_,eS⟩) rfl kS dS,av rfl,zpt⟩) (aj (av rfl) az)) rfl ?_
  cbv
  rw [<-hL,<-hu]at hb
  rw [<-hL]at hd
  have t0:g .q .eql Q0 0=decide (Q0=0):=by rw [bj hg];rfl
  by_cases hq:Q0=0
  ·rw [t0,zqu hq]
   rw [if_pos hq]at hb
   rw [hb,if_pos rfl]at hd
   cbv
   have s1:eH++[[.B (true)]]=vw mY (H++[HV]):=by rw [bk,k2,hb];rfl
   have s2:eS++[[.J HY]]=vw ak (S++[SV]):=by rw [bk,k3,hd];rfl
   refine dg hg rfl (by decide) lH ?_
   cbv
   refine dg hg rfl (by decide) lS ?_
   cbv
   rw [e1]
   simp only [fI hg]
   exact hB ((i+1,(H++[HV],S++[SV]),_,_)) _ _ ⟨(by simpa [hh,hj]using h0),⟨rfl,s1,s2,by simp;omega,by simp;omega⟩⟩ (Wk.weak (wkG [some _,some _,some _] zr3 ⟨wqB rfl ⟨zr7,zpt⟩,wqE rfl (s1.symm▸aD _ _),wqE rfl (s2.symm▸aD _ _),zpt⟩ (by decide) aB))
  ·rw [t0,zqt hq]
   rw [if_neg hq]at hb
   cases hGc:G
   ·rw [hGc]at hb
    cbv
    cases hqq:g .q .lss y0 HY
    ·have ha:HV=false:=by rw [hb];rw [ba hg]at hqq;exact hqq
     rw [ha]at hd
     cbv
     have s1:eH++[[.B (false)]]=vw mY (H++[HV]):=by rw [bk,k2,ha];rfl
     have s2:eS++[[.J y0]]=vw ak (S++[SV]):=by rw [bk,k3,hd];rfl
     refine dg hg rfl (by decide) lH ?_
     cbv
     refine dg hg rfl (by decide) lS ?_
     cbv
     rw [e1]
     simp only [fI hg]
     exact hB ((i+1,(H++[HV],S++[SV]),_,_)) _ _ ⟨(by simpa [hh,hj]using h0),⟨rfl,s1,s2,by simp;omega,by simp;omega⟩⟩ (Wk.weak (wkG [some _,some _,some _] zr3 ⟨wqB rfl ⟨⟨rfl,rfl,rfl,(by rw [hGc];exact rfl),rfl,rfl,rfl,zpt⟩,zpt⟩,wqE rfl (s1.symm▸aD _ _),wqE rfl (s2.symm▸aD _ _),zpt⟩ (by decide) aB))
    ·have ha:HV=true:=by rw [hb];rw [ba hg]at hqq;exact hqq
     rw [ha]at hd
     cbv
     have s1:eH++[[.B (true)]]=vw mY (H++[HV]):=by rw [bk,k2,ha];rfl
     have s2:eS++[[.J HY]]=vw ak (S++[SV]):=by rw [bk,k3,hd];rfl
     refine dg hg rfl (by decide) lH ?_
     cbv
     refine dg hg rfl (by decide) lS ?_
     cbv
     rw [e1]
     simp only [fI hg]
     exact hB ((i+1,(H++[HV],S++[SV]),_,_)) _ _ ⟨(by simpa [hh,hj]using h0),⟨rfl,s1,s2,by simp;omega,by simp;omega⟩⟩ (Wk.weak (wkG [some _,some _,some _] zr3 ⟨wqB rfl ⟨⟨rfl,rfl,rfl,(by rw [hGc];exact rfl),rfl,rfl,rfl,zpt⟩,zpt⟩,wqE rfl (s1.symm▸aD _ _),wqE rfl (s2.symm▸aD _ _),zpt⟩ (by decide) aB))
   ·rw [hGc]at hb
    cbv
    cases hqq:g .q .gtr y0 HY
    ·have ha:HV=false:=by rw [hb];rw [dm hg]at hqq;exact hqq
     rw [ha]at hd
     cbv
     have s1:eH++[[.B (false)]]=vw mY (H++[HV]):=by rw [bk,k2,ha];rfl
     have s2:eS++[[.J y0]]=vw ak (S++[SV]):=by rw [bk,k3,hd];rfl
     refine dg hg rfl (by decide) lH ?_
     cbv
     refine dg hg rfl (by decide) lS ?_
     cbv
     rw [e1]
     simp only [fI hg]
     exact hB ((i+1,(H++[HV],S++[SV]),_,_)) _ _ ⟨(by simpa [hh,hj]using h0),⟨rfl,s1,s2,by simp;omega,by simp;omega⟩⟩ (Wk.weak (wkG [some _,some _,some _] zr3 ⟨wqB rfl ⟨⟨rfl,rfl,rfl,(by rw [hGc];exact rfl),rfl,rfl,rfl,zpt⟩,zpt⟩,wqE rfl (s1.symm▸aD _ _),wqE rfl (s2.symm▸aD _ _),zpt⟩ (by decide) aB))
    ·have ha:HV=true:=by rw [hb];rw [dm hg]at hqq;exact hqq
     rw [ha]at hd
     cbv
     have s1:eH++[[.B (true)]]=vw mY (H++[HV]):=by rw [bk,k2,ha];rfl
     have s2:eS++[[.J HY]]=vw ak (S++[SV]):=by rw [bk,k3,hd];rfl
     refine dg hg rfl (by decide) lH ?_
     cbv
     refine dg hg rfl (by decide) lS ?_
     cbv
     rw [e1]
     simp only [fI hg]
     exact hB ((i+1,(H++[HV],S++[SV]),_,_)) _ _ ⟨(by simpa [hh,hj]using h0),⟨rfl,s1,s2,by simp;omega,by simp;omega⟩⟩ (Wk.weak (wkG [some _,some _,some _] zr3 ⟨wqB rfl ⟨⟨rfl,rfl,rfl,(by rw [hGc];exact rfl),rfl,rfl,rfl,zpt⟩,zpt⟩,wqE rfl (s1.symm▸aD _ _),wqE rfl (s2.symm▸aD _ _),zpt⟩ (by decide) aB))
 ·obtain⟨i,⟨H,S⟩,eH,eS⟩:=s
  obtain⟨k1,k2,k3,k4,k5⟩:=hi
  dsimp only at k1 k2 k3 k4 k5 h0
  simp only [List.map_nil,zpr,Prod.mk.injEq]at h0
  obtain rfl:HL=H:=h0.1.symm
  obtain rfl:SL=S:=h0.2.symm
  have pH:=pmV k2
  have pS:=pmV k3
  have hp:HL.length=xs.length:=by rw [hk,zql]
  have hS:SL.length=xs.length:=by rw [hA,zql]
  obtain⟨X,hX⟩:=nmE (Fx.of xs gap inner)
  have hm:er X.xs=true:=by
   rw [hX]
   simp only [zqs]at hC
   exact hC.1.1
  have hE:=(fq hm).2
  have hf:X.xs=xs:=by rw [hX];rfl
  obtain⟨r,hr1,h7⟩:=Fx.run_some hm 13 (xs.map hyp) HL (by rw [hf];exact hp) (by have:=kD HL 0;rw [hf]at hE;omega)
  have hQ:D=r:=by rw [hD,flx,if_pos hC,<-hG,<-hk,<-hX,hr1];rfl
  have h4:X.runS 13 SL HL=some r:=by
   have:=Fx.run_eq hm 13 (xs.map hyp) HL (by rw [hf];exact hp) (by rw [hf,zql])
   rw [hr1,hf,hk,CH,<-hA,<-hk]at this
   exact this
  cbv;rw [he];cbv
  refine Dn hg bq (by kernel_rfl) (fun s:(List Int×List Bool×Int)×LLA×LLA=>[(8,.p 0)]) (fun s=>[.bx 304 7 [.view V,.J gap,.J inner,.B G,.own 1,.own 2,.J s.1.2.2],.rw ⟨4,1,s.2.2⟩,.rw ⟨3,1,s.2.1⟩])
   (fun s=>s.2.1=vw ak s.1.1/\s.2.2=vw mY s.1.2.1/\s.1.1.length=xs.length/\s.1.2.1.length=xs.length) (fun k s=>X.runS k s.1.1 s.1.2.1) r 13 ((SL,HL,0),eS,eH) h4 ⟨k3,k2,hS,hp⟩ (Wk.weak (wkG [some 0,some 1,some 2] zr1 ⟨wqB rfl ⟨zr7,zpt⟩,wqE rfl pH,wqE rfl pS,zpt⟩ (by decide) aB)) (fun s k B h0 hi hB=> ?_)
  obtain⟨⟨sz,fr,p⟩,eZ,eR⟩:=s
  obtain⟨k1,k2,k3,k4⟩:=hi
  dsimp only at k1 k2 k3 k4 h0
  cases k with
  |zero=>cases h0
  |succ k=>
   rw [Fx.runS]at h0
   have cp:=tx X hm sz fr (by rw [hf];exact k3) (by rw [hf];exact k4) p
   have qZ:=pmV k1
   have qR:=pmV k2
   obtain⟨rt,h5⟩:=nmE (xl X.xs sz X.gap X.inner X.gr)
   have hU:X.gap=gap:=by rw [hX];rfl
   have hW:X.inner=inner:=by rw [hX];rfl
   have hY:X.gr=G:=by rw [hX,hG];rfl
   rw [<-h5]at cp h0
   simp only [Fx.bx,hf,hU,hW,hY,<-hV,<-k1,<-k2]at cp
   cbv
   refine D0 hg [0,1,2] cp (by decide) (fun r hr=>by simp only [zph,List.not_mem_nil,or_false]at hr;simp only [zqx,List.length_nil];omega) ⟨⟨_,_,rfl,rfl,rfl,rfl,.inr ⟨zr7,zpt⟩⟩,⟨_,_,rfl,rfl,rfl,rfl,.inl ⟨rfl,qR⟩⟩,⟨_,_,rfl,rfl,rfl,rfl,.inl ⟨rfl,qZ⟩⟩,zpt⟩ zr1 fun res eh hq=> ?_
   obtain⟨p',hP,hK,rfl,rfl,h1,h2⟩:=hq
   obtain⟨Z',ho⟩:=nmE (vw ak hP)
   obtain⟨R',hv⟩:=nmE (vw mY hK)
   have hO:=pmV ho
   have hN:=pmV hv
   rw [<-ho,<-hv]
   simp only [dp,EE.mv,wj hO,wj hN]
   by_cases hn:fre 0 fr=[]
   ·rw [if_pos hn]at h0 h1 h2
    rw [show decide (fre 0 fr≠[])=false by simp [hn]]
    cbv
    subst h1 h2
    exact Bn hF rfl (by rw [ho,hQ];cases h0;rfl)
   ·rw [if_neg hn]at h0 h1 h2
    rw [show decide (fre 0 fr≠[])=true by simp [hn]]
    cbv
    refine hB k ((hP,hK,p'),Z',R') _ _ (Nat.lt_succ_self k) (by rw [h1,h2];exact h0) ⟨ho,hv,by rw [h1,n6];exact k3,by rw [h2,n7];exact k4⟩ (Wk.weak (wkG [some 0,some 1,some 2] zr1 ⟨wqB rfl ⟨zr7,zpt⟩,wqE rfl (hN),wqE rfl (hO),zpt⟩ (by decide) aB))
theorem rE(xs:List af)(gap inner:Int)(hl:xs.length<=1048576):bS prog 296 [.c (.view (vw af.c xs)),ai gap,ai inner] fun res ha=>res= .o 0/\ha=[⟨3,1,vw ak (flx xs gap inner)⟩]:=by
 have cf:=tC xs gap inner hl
 obtain⟨V,hV⟩:=nmE (vw af.c xs)
 obtain⟨D,hD⟩:=nmE (vw ak (flx xs gap inner))
 have pD:=pmV hD
 rw [<-hV,<-hD]at cf
 rw [<-hV,<-hD]
 refine aV func296 fun g F hg hF=> ?_
 cbv
 refine sT hg (fO cf rfl fun res ha hq=> ?_)
 obtain⟨p,rfl,rfl⟩:=hq
 refine⟨[.rw ⟨3,1,D⟩],by simp only [zqA,List.map_nil,fY (ab:=⟨3,1,D⟩) pD];rfl,?_⟩
 cbv
 exact bN hF rfl pD
theorem xt(a:Int):wrap64 (wrap64 a)=wrap64 a:=by unfold wrap64;omega
theorem dQ(a b:Int):(a !=b)=decide (¬a=b):=by by_cases h:a=b<;>simp [h]
def elZ(l:List Int)(i:Int):Int:=if 0<=i then l[i.toNat]?.getD 0 else 0
def evm(many:Int):Nat:=if many<=64 then many.toNat else 0
def evn(n many:Int):List Int:=shr n (List.replicate (evm many) 1)
theorem Dh(m:Nat)(h:m<=64):Cz (List.replicate m 1)=true:=by
 simp only [Cz,zqs,zqp,zqf,zpw]
 exact⟨fun w hw=>by rw [List.eq_of_mem_replicate hw];decide,by omega⟩
theorem qf(many:Int):evm many<=64:=by unfold evm;split<;>omega
theorem oT{many:Int}(h0:0<=many)(h1:many<=64):(evm many:Int)=many:=by unfold evm;rw [if_pos h1];omega
theorem il(n many:Int):(evn n many).length=evm many:=by rw [evn,shr,if_pos (Dh _ (qf many)),yU,zpw]
variable {l:List Int}
theorem oV{i:Nat}{x:Int}(h:l[i]? =some x):elZ l (i:Int)=x:=by
 unfold elZ;rw [if_pos (by omega),Int.toNat_natCast,h];rfl
theorem DR{i:Int}(h:i<0\/(l.length:Int)<=i):elZ l i=0:=by
 unfold elZ
 split
 ·rw [zqz (by omega)];rfl
 ·rfl
theorem lq{i:Int}(h0:0<=i)(h1:i<(l.length:Int)):l[i.toNat]? =some (elZ l i):=by
 unfold elZ
 rw [if_pos h0,zqc (by omega)];rfl
theorem DS(i:Int):elZ [] i=0:=by unfold elZ;split<;>rfl
def led(free many js:Int):Int:=
 if rng many 1 12=false then 0 else if js=2 then free else if js=3 then fdv free 2
 else if js=5 then(if free<0 then fdv free 2 else elZ (evn free (2*many)) 0)
 else if js=6 then(if free<0 then fdv free 2 else elZ (evn free (many+1)) 0)else 0
def btw(free many js i:Int):Int:=
 if free<0 then 0 else if js=4 then elZ (evn free (many-1)) i
 else if js=5 then wrap64 (elZ (evn free (2*many)) (2*i+1)+elZ (evn free (2*many)) (2*i+2))
 else if js=6 then elZ (evn free (many+1)) (i+1)else 0
def auN:List af->Int
 | []=>0
 |x::r=>((if x.autoBefore then 1 else 0)+(if x.autoBehind then 1 else 0))+auN r
theorem BF:∀xs:List af,0<=auN xs/\auN xs<=2*xs.length
 | []=>by simp [auN]
 |x::r=>by
  obtain⟨h1,h2⟩:=BF r
  simp only [auN,zqx]
  split<;>split<;>omega
def auT(ex:List Int)(k:Int)(b:Bool):Int:=if b then elZ ex k else 0
def auK(k:Int)(b:Bool):Int:=if b then k+1 else k
def Kl(ex:List Int)(a k:Int)(x:af):Int:=wrap64 (a+wrap64 (x.before+auT ex k x.autoBefore))
def KR(ex:List Int)(sp:Int->Int)(gap many i a k:Int)(x:af)(s:Int):Int:=
 let q:=wrap64 (Kl ex a k x+wrap64 (wrap64 (s+x.behind)+auT ex (auK k x.autoBefore) x.autoBehind))
 if i+1<many then wrap64 (wrap64 (q+gap)+sp i)else q
def yI(ex:List Int)(sp:Int->Int)(gap many:Int):Int->Int->Int->List (af×Int)->List Int
 |_,_,_,[]=>[]
 |i,a,k,(x,s)::r=>Kl ex a k x::yI ex sp gap many (i+1) (KR ex sp gap many i a k x s) (auK (auK k x.autoBefore) x.autoBehind) r
def al5(xs:List af)(ss:List Int)(gap inner:Int):Bool:=ss.all (fun s=>rng s 0 1048576)&&(er xs&&(decide (ss.length=xs.length)&&(rng gap 0 1048576&&rng inner 0 1048576)))
def alF(xs:List af)(ss:List Int)(gap inner:Int):Int:=sg (wrap64 (inner-wrap64 (iz xs ss gap)))
def alE(xs:List af)(ss:List Int)(gap inner:Int):List Int:=if 0<auN xs/\0<alF xs ss gap inner then evn (alF xs ss gap inner) (auN xs)else []
def alS(xs:List af)(free js i:Int):Int:=if auN xs=0 then btw free (xs.length:Int) js i else 0
def al0(xs:List af)(free js:Int):Int:=if auN xs=0 then led free (xs.length:Int) js else 0
def alg(xs:List af)(ss:List Int)(gap inner js:Int):List Int:=
 if al5 xs ss gap inner=false then []else yI (alE xs ss gap inner) (alS xs (alF xs ss gap inner) js) gap (xs.length:Int) 0 (al0 xs (alF xs ss gap inner) js) 0 (xs.zip ss)
def BR:Int->List Int->Int
 |a,[]=>a
 |a,c::r=>BR (wrap64 (a+sg c)) r
def crt(cs:List Int)(gap:Int):Int:=if cs=[]then 0 else wrap64 (BR 0 cs+wrap64 (gap*((cs.length:Int)-1)))
def acr(cs:List Int)(gap inner:Int):Bool:=cs.all (fun c=>rng c 0 1048576)&&(decide ((cs.length:Int)<=12)&&(rng gap 0 1048576&&rng inner 0 1048576))
def yE(cs:List Int)(gap inner ct:Int):List Int:=if acr cs gap inner=true/\ct=1/\0<wrap64 (inner-crt cs gap)then(cs.zip (evn (wrap64 (inner-crt cs gap)) (cs.length:Int))).map (fun p=>wrap64 (p.1+p.2))else cs
def plG(sp:Int->Int)(gap:Int):Int->Int->List Int->List Int
 |_,_,[]=>[]
 |i,a,c::r=>a::plG sp gap (i+1) (wrap64 (a+wrap64 (wrap64 (c+gap)+sp i))) r
def pll(cs:List Int)(gap inner ct:Int):List Int:=
 if acr cs gap inner=false then []else plG (btw (sg (wrap64 (inner-crt cs gap))) (cs.length:Int) (xm ct)) gap 0 (led (sg (wrap64 (inner-crt cs gap))) (cs.length:Int) (xm ct)) cs
def Eo:Int->Bool->List aw->Int
 |m,_,[]=>m
 |m,f,x::r=>if onB x=true/\(f=false\/m<wrap64 (x.before+x.base))then Eo (wrap64 (x.before+x.base)) true r else Eo m f r
def bas(xs:List aw):Int:=Eo 0 false xs
def mx2(a b:Int):Int:=if a<b then b else a
def KM(b:Int)(x:aw):Int:=if onB x then wrap64 (wrap64 (wrap64 (b+x.size)+x.behind)-x.base)else wrap64 (wrap64 (x.size+x.before)+x.behind)
def GQ(b:Int):Int->List aw->Int
 |m,[]=>m
 |m,x::r=>GQ b (mx2 m (KM b x)) r
def cro(xs:List aw):Int:=if(decide ((xs.length:Int)<=12)&&xs.all vM)=false then 0 else cl (GQ (bas xs) 0 xs)
def cr2:Int->Int->Bool->List aw->Int×Int×Bool
 |n,b,s,[]=>(n,b,s)
 |n,b,s,x::r=>if onB x then cr2 n (if s=false\/b<wrap64 (wrap64 (x.size+x.behind)-x.base)then wrap64 (wrap64 (x.size+x.behind)-x.base)else b) true r
  else cr2 (if n<wrap64 (wrap64 (x.size+x.before)+x.behind)then wrap64 (wrap64 (x.size+x.before)+x.behind)else n) b s r
theorem siB{x:aw}(h:vM x=true):(0<=x.size/\x.size<=1048576)/\(0<=x.base/\x.base<=1048576)/\(-1048576<=x.before/\x.before<=1048576)/\ -1048576<=x.behind/\x.behind<=1048576:=by
 simp only [vM,rng,zqs,zqp]at h
 omega
theorem zP:∀(xs:List aw)(m:Int)(f:Bool),xs.all vM=true-> -2097152<=m->m<=2097152-> -2097152<=Eo m f xs/\Eo m f xs<=2097152
 | [],m,f,_,h1,h2=>⟨h1,h2⟩
 |x::r,m,f,h,h1,h2=>by
  simp only [zqD,zqs]at h
  have hb:=siB h.1
  have e:=aq (x.before+x.base) (by omega)
  simp only [Eo]
  split
  ·exact zP r _ true h.2 (by omega) (by omega)
  ·exact zP r m f h.2 h1 h2
theorem DW(b:Int)(hb: -2097152<=b/\b<=2097152):∀(xs:List aw)(n be:Int)(s:Bool),xs.all vM=true-> -4194304<=be->be<=4194304->
  (if(cr2 n be s xs).2.2=true/\(cr2 n be s xs).1<wrap64 (b+(cr2 n be s xs).2.1)then wrap64 (b+(cr2 n be s xs).2.1)else(cr2 n be s xs).1)=GQ b (if s=true/\n<wrap64 (b+be)then wrap64 (b+be)else n) xs
 | [],n,be,s,_,_,_=>rfl
 |x::r,n,be,s,h,h1,h2=>by
  simp only [zqD,zqs]at h
  have hx:=siB h.1
  have e1:=aq (x.size+x.behind) (by omega)
  have e2:=aq (x.size+x.behind-x.base) (by omega)
  have e3:=aq (b+be) (by omega)
  have e4:=aq (b+x.size) (by omega)
  have e5:=aq (b+x.size+x.behind) (by omega)
  have e6:=aq (b+x.size+x.behind-x.base) (by omega)
  have e7:=aq (b+(x.size+x.behind-x.base)) (by omega)
  simp only [cr2,GQ,KM,mx2]
  rcases Bool.eq_false_or_eq_true (onB x)with ho|ho
  ·simp only [ho,if_true]
   rw [DW b hb r _ _ _ h.2 (by rw [e1,e2];split<;>omega) (by rw [e1,e2];split<;>omega)]
   congr 1
   simp only [e1,e2,e3,e4,e5,e6]
   cases s
   ·simp only [Bool.false_eq_true,false_and,if_false,true_or,if_true,true_and,e7]
    split<;>split<;>omega
   ·simp only [Bool.true_eq_false,false_or,true_and]
    by_cases hc:be<x.size+x.behind-x.base
    ·rw [if_pos hc,e7];split<;>split<;>(try split)<;>omega
    ·rw [if_neg hc,e3];split<;>split<;>(try split)<;>omega
  ·simp only [ho,Bool.false_eq_true,if_false]
   rw [DW b hb r _ _ _ h.2 h1 h2]
   congr 1
   cases s
   ·simp
   ·simp only [true_and,e3]
    split<;>split<;>(try split)<;>(try split)<;>omega
theorem H9{xs:List aw}(h:xs.all vM=true):(if(cr2 0 0 false xs).2.2=true/\(cr2 0 0 false xs).1<wrap64 (bas xs+(cr2 0 0 false xs).2.1)then wrap64 (bas xs+(cr2 0 0 false xs).2.1)else(cr2 0 0 false xs).1)=GQ (bas xs) 0 xs:=by
 have:=DW (bas xs) (zP xs 0 false h (by omega) (by omega)) xs 0 0 false h (by omega) (by omega)
 simpa using this
def lit(xs:List af)(ln:List Int):List af:=ln.filterMap fun i=>if 0<=i then xs[i.toNat]? else none
def lou(xs:List af)(gap:Int)(ln:List Int):Int:=wrap64 (iz (lit xs ln) ((lit xs ln).map hyp) gap)
def lnS(xs:List af)(gap room:Int)(one:Bool)(out:List (List Int))(i:Int):List (List Int):=
 match out.getLast? with
 |some ln=>if one=true\/lou xs gap (ln++[i])<=room then out.dropLast++[ln++[i]]else out++[[i]]
 |none=>[[i]]
def lnG(xs:List af)(gap room:Int)(one:Bool):List (List Int)->Int->List af->List (List Int)
 |out,_,[]=>out
 |out,i,_::r=>lnG xs gap room one (lnS xs gap room one out i) (i+1) r
def lns(xs:List af)(gap room:Int)(wr:Bool):List (List Int):=lnG xs gap room (!wr||(decide (room<0)|| !er xs)) [] 0 xs
def lng(xs:List af)(gap room:Int)(wr:Bool):Int:=(lns xs gap room wr).foldl (fun m l=>mx2 m (lou xs gap l)) 0
def lsz(xs:List af)(gap room:Int)(wr:Bool)(inner:Int):List Int:=(lns xs gap room wr).flatMap fun l=>flx (lit xs l) gap inner
def ixs:Int->Nat->List Int
 |_,0=>[]
 |i,n+1=>i::ixs (i+1) n
theorem bX:∀(n:Nat)(i:Int),(ixs i n).length=n
 |0,_=>rfl
 |n+1,i=>by simp [ixs,bX n]
theorem mj:∀(n:Nat)(i j:Int),j∈ixs i n↔i<=j/\j<i+n
 |0,i,j=>by simp only [ixs,List.not_mem_nil,false_iff];omega
 |n+1,i,j=>by simp only [ixs,zph,mj n];omega
theorem kv:∀(a b:Nat)(i:Int),ixs i (a+b)=ixs i a++ixs (i+a) b
 |0,b,i=>by simp [ixs]
 |a+1,b,i=>by
  rw [show a+1+b=a+b+1 by omega]
  simp only [ixs,List.cons_append]
  rw [kv a b (i+1),show i+1+(a:Int)=i+((a+1:Nat):Int) by omega]
theorem wm(xs:List af)(gap room:Int)(one:Bool)(out:List (List Int))(i:Int):(lnS xs gap room one out i).flatten=out.flatten++[i]/\((∀l∈out,l≠[])->∀l∈lnS xs gap room one out i,l≠[]):=by
 unfold lnS
 rcases List.eq_nil_or_concat out with rfl|⟨o,y,rfl⟩
 ·simp
 ·rw [List.concat_eq_append,List.getLast?_append,List.getLast?_singleton]
  simp only [Option.some_or]
  split
  ·rw [List.dropLast_concat]
   refine⟨by simp,fun h l hl=> ?_⟩
   rcases List.mem_append.1 hl with h1|h1
   ·exact h l (by simp [h1])
   ·rw [zpa.1 h1];simp
  ·refine⟨by simp,fun h l hl=> ?_⟩
   rcases List.mem_append.1 hl with h1|h1
   ·exact h l h1
   ·rw [zpa.1 h1];simp
theorem wn(xs:List af)(gap room:Int)(one:Bool):∀(r:List af)(out:List (List Int))(i:Int),(lnG xs gap room one out i r).flatten=out.flatten++ixs i r.length/\((∀l∈out,l≠[])->∀l∈lnG xs gap room one out i r,l≠[])
 | [],out,i=>by simp [lnG,ixs]
 |x::r,out,i=>by
  obtain⟨h1,h2⟩:=wm xs gap room one out i
  obtain⟨h3,h4⟩:=wn xs gap room one r (lnS xs gap room one out i) (i+1)
  refine⟨?_,fun h=>h4 (h2 h)⟩
  simp only [lnG,zqx,ixs]
  rw [h3,h1];simp
theorem km(xs:List af)(gap room:Int)(wr:Bool):(lns xs gap room wr).flatten=ixs 0 xs.length:=by
 have:=(wn xs gap room (!wr||(decide (room<0)|| !er xs)) xs [] 0).1
 simpa [lns]using this
theorem Jh(xs:List af)(gap room:Int)(wr:Bool):∀l∈lns xs gap room wr,l≠[]:=(wn xs gap room _ xs [] 0).2 (by simp)
variable {gap room:Int}
theorem wl{wr:Bool}(hl:l∈lns xs gap room wr){i:Int}(hi:i∈l):0<=i/\i<(xs.length:Int):=by
 have:i∈(lns xs gap room wr).flatten:=List.mem_flatten.2 ⟨l,hl,hi⟩
 rw [km,mj]at this
 omega
theorem kF:∀(ls:List (List Int)),(∀l∈ls,l≠[])->ls.length<=ls.flatten.length
 | [],_=>by simp
 |l::ls,h=>by
  have h1:=kF ls (fun x hx=>h x (zpe _ hx))
  have h2:0<l.length:=List.length_pos_iff.2 (h l (zpd ..))
  simp only [List.flatten_cons,zqe,zqx]
  omega
theorem mf(xs:List af)(gap room:Int)(wr:Bool):(lns xs gap room wr).length<=xs.length:=by
 have:=kF _ (Jh xs gap room wr)
 rwa [km,bX]at this
theorem nI{ls:List (List Int)}(hl:l∈ls):l.length<=ls.flatten.length:=by
 induction ls with
 |nil=>simp at hl
 |cons a ls ih=>
  simp only [List.flatten_cons,zqe]
  rcases zph.1 hl with rfl|h
  ·omega
  ·have:=ih h;omega
theorem kl{wr:Bool}(hl:l∈lns xs gap room wr):l.length<=xs.length:=by
 have:=nI hl
 rwa [km,bX]at this
theorem zm{xs:List af}:∀{ln:List Int},(∀i∈ln,0<=i/\i<(xs.length:Int))->(lit xs ln).length=ln.length
 | [],_=>rfl
 |i::ln,h=>by
  have h1:=h i (zpd ..)
  have:=zm (ln:=ln) fun j hj=>h j (zpe _ hj)
  unfold lit at this⊢
  rw [List.filterMap_cons,if_pos h1.1,zqc (by omega)]
  simp [this]
variable {ln:List Int}
theorem sm:(lit xs ln).length<=ln.length:=by unfold lit;exact List.length_filterMap_le _ _
theorem Du{x:af}(h:x∈lit xs ln):x∈xs:=by
 unfold lit at h
 obtain⟨i,_,hi⟩:=List.mem_filterMap.1 h
 split at hi
 ·exact zqd hi
 ·cases hi
theorem zl(xs:List af)(gap room:Int)(wr:Bool)(inner:Int):(lsz xs gap room wr inner).length=xs.length:=by
 have ha:∀ls:List (List Int),(∀l∈ls,∀i∈l,0<=i/\i<(xs.length:Int))->(ls.flatMap fun l=>flx (lit xs l) gap inner).length=ls.flatten.length:=by
  intro ls
  induction ls with
  |nil=>intro _;rfl
  |cons l ls ih=>
   intro h
   simp only [List.flatMap_cons,List.flatten_cons,zqe]
   rw [ih fun x hx=>h x (zpe _ hx),HU,zm (h l (zpd ..))]
 unfold lsz
 rw [ha _ fun l hl i hi=>wl hl hi,km,bX]
theorem oE(n:Nat)(i:Int):ixs i (n+1)=ixs i n++[i+n]:=by rw [kv n 1 i];rfl
theorem yd:∀(n j:Nat)(i:Int),j<n->(ixs i n)[j]? =some (i+j)
 |0,_,_,h=>by omega
 |n+1,0,i,_=>by simp [ixs]
 |n+1,j+1,i,h=>by
  simp only [ixs,List.getElem?_cons_succ]
  rw [yd n j (i+1) (by omega)]
  congr 1;omega
def spc(free many js:Int):List Int:=(ixs 0 many.toNat).map fun i=>if i+1<many then btw free many js i else 0
def spL(b:Int->Int)(m z:Nat):List Int:=(ixs 0 z).map b++List.replicate (m-z) 0
variable {m z:Nat}
theorem Hm(b:Int->Int)(h:z<=m):(spL b m z).length=m:=by simp [spL,bX];omega
theorem yT(b:Int->Int)(h:z<m):spL b m z=(ixs 0 z).map b++0::List.replicate (m-(z+1)) 0:=by
 rw [spL,show m-z=(m-(z+1))+1 by omega,List.replicate_succ]
theorem Ah(b:Int->Int)(h:z<m):spL b m (z+1)=(ixs 0 z).map b++b z::List.replicate (m-(z+1)) 0:=by
 rw [spL,oE,List.map_append,zqC];simp
theorem Hl(b:Int->Int)(h:z<m):(spL b m z).set z (b z)=spL b m (z+1):=by
 rw [yT b h,Ah b h,List.set_append_right _ _ (by simp [bX])]
 simp [bX]
theorem Ey(b:Int->Int)(h:z<m)(hb:b z=0):spL b m z=spL b m (z+1):=by rw [yT b h,Ah b h,hb]
theorem IM(b:Int->Int)(h:z<m):(spL b m z)[z]? =some 0:=by
 rw [yT b h,zqg (by simp [bX])]
 simp [bX]
theorem Hk(free many js:Int){z:Nat}(h0:0<=many)(hz:z=0\/(z:Int)<many)(h:¬(z:Int)+1<many):spL (btw free many js) many.toNat z=spc free many js:=by
 have ha:∀n:Nat,(n:Int)+1<=many->(ixs 0 n).map (btw free many js)=(ixs 0 n).map fun i=>if i+1<many then btw free many js i else 0:=fun n hn=>
  zpl fun i hi=>by rw [mj]at hi;rw [if_pos (by omega)]
 unfold spc
 by_cases hm:many=0
 ·subst hm
  obtain rfl:z=0:=by omega
  simp [spL,ixs]
 obtain rfl:many=(z:Int)+1:=by omega
 rw [show((z:Int)+1).toNat=z+1 by omega,oE,List.map_append,spL,ha z (by omega)]
 simp
theorem Hj(free many js:Int)(h:free<0):spc free many js=List.replicate many.toNat 0:=by
 unfold spc
 have:∀(n:Nat)(j:Int),(ixs j n).map (fun i=>if i+1<many then btw free many js i else 0)=List.replicate n 0:=by
  intro n
  induction n with
  |zero=>intro j;rfl
  |succ n ih=>
   intro j
   simp only [ixs,zqA,List.replicate_succ]
   rw [ih (j+1)]
   congr 1
   split
   ·unfold btw;rw [if_pos h]
   ·rfl
 exact this _ 0
theorem Gf(free many js:Int){i:Int}(h0:0<=i)(h1:i<many):(spc free many js)[i.toNat]? =some (if i+1<many then btw free many js i else 0):=by
 unfold spc
 rw [zqi,yd _ _ _ (show i.toNat<many.toNat by omega)]
 simp only [Option.map_some]
 rw [show(0:Int)+(i.toNat:Int)=i by omega]
def nx(lo:Nat)(bs:List Nat):Prop:=bs.Nodup/\∀b∈bs,lo<=b
theorem nx.mono{lo lo':Nat}{bs:List Nat}(h:lo<=lo')(hn:nx lo' bs):nx lo bs:=⟨hn.1,fun b hb=>zpb h (hn.2 b hb)⟩
theorem nx.nil(lo:Nat):nx lo []:=⟨List.nodup_nil,fun b hb=>by simp at hb⟩
theorem nx.app{lo lo':Nat}{ps bs:List Nat}(h:lo<=lo')(ha:nx lo ps)(hb:nx lo' bs)(hlt:∀b∈ps,b<lo'):nx lo (ps++bs):=
 ⟨List.nodup_append.2 ⟨ha.1,hb.1,fun a h1 b h2 he=>by have:=hlt a h1;have:=hb.2 b h2;omega⟩,fun b hc=>(List.mem_append.1 hc).elim (ha.2 b) fun h2=>zpb h (hb.2 b h2)⟩
variable {V:LLA}
theorem Bg(h:qd V=true):∀y∈V,∀c∈y,∃u,c= .imm u:=fun y hy c hc=>by
 unfold qd at h
 have:=zqf.1 (zqf.1 h y hy) c hc
 cases c<;>first|exact⟨_,rfl⟩|cases this
theorem Jp(h:qd V=true):V.map (·.map vwC)=V:=by
 refine(zpl (g:=id) fun x hx=> ?_).trans (List.map_id V)
 refine(zpl (g:=id) fun c hc=> ?_).trans (List.map_id x)
 obtain⟨u,rfl⟩:=Bg h x hx c hc
 rfl
theorem Jq(h:qd V=true):fpE V=[]:=by
 unfold fpE
 rw [List.flatMap_eq_nil_iff]
 intro y hy
 unfold fpL
 rw [List.flatMap_eq_nil_iff]
 intro c hc
 obtain⟨u,rfl⟩:=Bg h y hy c hc
 rfl
theorem zQ{e:List AC}(h:e.all ip=true):e.all dx=true:=zqf.2 fun c hc=>by
 have:=zqf.1 h c hc
 cases c<;>first|rfl|cases this
theorem bR{es:LLA}(h:∀e∈es,e.all ip=true):ay es=true:=zqf.2 fun e he=>zQ (h e he)
theorem BX{bl:Nat->Nat}{c:AC}(hb:ip c=true):xo bl h c c:=by
 cases c<;>first|exact .imm _|exact .fv _ _|cases hb
variable {r:Nat}{ab:AB}
theorem p6{bl:Nat->Nat}(hr:h[r]? =some (.live ab))(hb:∀e∈ab.es,e.all ip=true):xo bl h (.own r) (.fv (hd1 (bl r) ab.es++fpE ab.es) (ab.es.map (·.map vwC))):=
 .row r ab ab.es hr rfl (fun i x y hx hy=>by rw [hx]at hy;cases hy;rfl) fun i x y hx hy j c d hc hd=>by
  rw [hx]at hy
  cases hy
  rw [hc]at hd
  cases hd
  exact BX (zqf.1 (hb x (zqd hx)) c (zqd hc))
theorem rN{bl:Nat->Nat}(hr:h[r]? =some (.live ab))(hi:qd ab.es=true):xo bl h (.own r) (.fv (hd1 (bl r) ab.es) ab.es):=by
 have:=p6 (bl:=bl) hr (fun e he=>zqf.2 fun c hc=>by obtain⟨u,rfl⟩:=Bg hi e he c hc;rfl)
 rwa [Jp hi,Jq hi,zpr]at this
variable {lo:Nat}
theorem sU{bl:Nat->Nat}{xs:List AT}(hb:Ef lo bl h xs)(hr:h[r]? =some (.live ab)):nx lo (hd1 (bl r) ab.es):=by
 cases he:ab.es with
 |nil=>exact nx.nil lo
 |cons e es=>exact⟨by simp [hd1],fun b ha=>by simp only [hd1,zpa]at ha;subst ha;exact(hb r ab hr (by rw [he];simp)).1⟩
theorem Ig{bl:Nat->Nat}{xs:List AT}(hb:Ef lo bl h xs)(hr:h[r]? =some (.live ab))(hn:nx lo (fpE ab.es)):nx lo (hd1 (bl r) ab.es++fpE ab.es):=by
 refine⟨List.nodup_append.2 ⟨(sU hb hr).1,hn.1,fun a h1 b h2 he=> ?_⟩,fun b ha=>(List.mem_append.1 ha).elim ((sU hb hr).2 b) (hn.2 b)⟩
 subst he
 cases hes:ab.es with
 |nil=>rw [hes]at h1;simp [hd1]at h1
 |cons e es=>
  rw [hes]at h1
  simp only [hd1,zpa]at h1
  subst h1
  obtain⟨x,hx,ha⟩:=List.mem_flatMap.1 h2
  obtain⟨c,hc,hd⟩:=List.mem_flatMap.1 ha
  exact(hb r ab hr (by rw [hes];simp)).2.2.1 r ab hr x hx c hc hd
theorem FN{bl:Nat->Nat}{xs:List AT}(hb:Ef lo bl h xs)(hr:h[r]? =some (.live ab)){ps:List Nat}{ys:LLA}{x:AT}(hx:x∈xs)(hc: .fv ps ys∈x.cells)(hn:nx lo ps):nx lo (ps++hd1 (bl r) ab.es):=by
 refine⟨List.nodup_append.2 ⟨hn.1,(sU hb hr).1,fun a h1 b h2 he=> ?_⟩,fun b ha=>(List.mem_append.1 ha).elim (hn.2 b) ((sU hb hr).2 b)⟩
 subst he
 cases hes:ab.es with
 |nil=>rw [hes]at h2;simp [hd1]at h2
 |cons e es=>
  rw [hes]at h2
  simp only [hd1,zpa]at h2
  subst h2
  exact(hb r ab hr (by rw [hes];simp)).2.2.2 x hx _ hc h1
theorem DK:∀(es:LLA)(j:Nat)(y:List AC),j<es.length->(∀(i:Nat)(e:List AC),j<=i->es[i]? =some e->fpL e=[])->fpE (es.set j y)=fpE es++fpL y
 | [],j,y,hj,_=>by simp at hj
 |e::es,0,y,_,hz=>by
  have h1:fpE es=[]:=by
   unfold fpE
   rw [List.flatMap_eq_nil_iff]
   intro x hx
   obtain⟨i,hi,rfl⟩:=zpi hx
   exact hz (i+1) _ (zpn _) (by simp [hi])
  have h2:=hz 0 e (zpk _) rfl
  show fpL y++fpE es=fpL e++fpE es++fpL y
  rw [h1,h2];simp
 |e::es,j+1,y,hj,hz=>by
  have:=DK es j y (by simpa using hj) (fun i x hi hx=>hz (i+1) x (by omega) (by simpa using hx))
  show fpL e++fpE (es.set j y)=fpL e++fpE es++fpL y
  rw [this,zqC]
structure qP(k:Nat)(V es:LLA)(z:Int)(lo:Nat):Prop where
 z0:0<=z
 z1:z<=aN V
 len:es.length=V.length
 kk:∀e∈es,e.length=k
 bare:∀e∈es,e.all ip=true
 done:∀i:Nat,(i:Int)<z->(es[i]?).map (·.map vwC)=V[i]?
 zero:∀(i:Nat)(e:List AC),z<=(i:Int)->es[i]? =some e->fpL e=[]
 new:nx lo (fpE es)
variable {k:Nat}
theorem qP.start{row:List AC}{n:Int}(hk:row.length=k)(hi:qd [row]=true)(hn:n=aN V):qP k V (List.replicate n.toNat row) 0 lo:=by
 have ha:=Bg hi row (by simp)
 have hb:fpL row=[]:=by unfold fpL;rw [List.flatMap_eq_nil_iff];intro c hc;obtain⟨u,rfl⟩:=ha c hc;rfl
 rw [ao]at hn
 refine⟨zpc 0,by rw [ao];omega,by simp [hn],fun e he=> ?_,fun e he=> ?_,fun i hi=>by omega,fun i e _ he=> ?_,?_⟩
 ·rw [List.eq_of_mem_replicate he];exact hk
 ·rw [List.eq_of_mem_replicate he];exact zqf.2 fun c hc=>by obtain⟨u,rfl⟩:=ha c hc;rfl
 ·rw [List.eq_of_mem_replicate (zqd he)];exact hb
 ·have:fpE (List.replicate n.toNat row)=[]:=by unfold fpE;rw [List.flatMap_eq_nil_iff];intro e he;rw [List.eq_of_mem_replicate he];exact hb
  rw [this];exact nx.nil lo
theorem qP.step{V es:LLA}{z:Int}{lo lo' j:Nat}{y v:List AC}(hs:qP k V es z lo)(hc:z<aN V)(hj:j=z.toNat)(hv:V[z.toNat]? =some v)(hy:y.map vwC=v)(hk:y.length=k)(hb:y.all ip=true)(hlo:lo<=lo')(hn:nx lo' (fpL y))(hlt:∀b∈fpE es,b<lo'):qP k V (es.set j y) (z+1) lo:=by
 have h0:=hs.z0
 have ha:j<es.length:=by rw [hs.len];rw [ao]at hc;omega
 subst hj
 refine⟨by omega,by omega,by simp [hs.len],fun e he=> ?_,fun e he=> ?_,fun i hi=> ?_,fun i e hi he=> ?_,?_⟩
 ·rcases List.mem_or_eq_of_mem_set he with h|h
  ·exact hs.kk e h
  ·rw [h];exact hk
 ·rcases List.mem_or_eq_of_mem_set he with h|h
  ·exact hs.bare e h
  ·rw [h];exact hb
 ·by_cases hiz:i=z.toNat
  ·subst hiz
   rw [zpm ha,Option.map_some,hv,hy]
  ·rw [List.getElem?_set_ne (fun h=>hiz h.symm)]
   exact hs.done i (by omega)
 ·rw [List.getElem?_set_ne (by omega)]at he
  exact hs.zero i e (by omega) he
 ·rw [DK es z.toNat y ha (fun i e hi he=>hs.zero i e (by omega) he)]
  exact nx.app hlo hs.new hn hlt
theorem qP.all{V es:LLA}{z:Int}(hs:qP k V es z lo)(hz:¬z<aN V):es.map (·.map vwC)=V:=by
 refine List.ext_getElem? fun i=> ?_
 rw [zqi]
 by_cases hi:i<V.length
 ·exact hs.done i (by rw [ao]at hz;omega)
 ·rw [zqz (by rw [hs.len];omega),zqz (by omega)];rfl
theorem qP.mem{V es:LLA}{z:Int}{lo j:Nat}(hs:qP k V es z lo)(hj:j<es.length):∃e,es[j]? =some e/\e.length=k:=⟨es[j],zqc hj,hs.kk _ (List.getElem_mem hj)⟩
variable {P:Program}{g:Gd}
theorem zx{n0 N:Nat}{β:BP}(hg:g=G0 P n0 N){xs:LLA}{z:Int}{j k:Nat}{K:Nat->Prop}(hz:0<=z)(hj:j=z.toNat)(hy:j<xs.length)(hK:K j):g .Y k xs z K:=by subst hg hj;exact⟨hz,hy,hK⟩
structure fJ(G es:LLA)(z:Int):Prop where
 z0:0<=z
 z1:z<=aN G
 eq:es=G.take z.toNat
section
variable {P:Program}{n0 N:Nat}{g:Gd}
theorem DG(hg:g=G0 P n0 N){xs:LLA}{z:Int}{j k:Nat}{K:Nat->Prop}(hz:0<=z)(hj:j=z.toNat)(hy:j<xs.length)(hK:K j):g .Y k xs z K:=by subst hg hj;exact⟨hz,hy,hK⟩
theorem zk{es:LLA}{z:Int}{j:Nat}(h0:0<=z)(hc:z<aN es)(hj:j=z.toNat):j<es.length:=by subst hj;rw [ao]at hc;omega
theorem wk1{T:Nat->AV}{h h':AH}{l':List (Nat×AV)}(hs:EI h [0] h')(hk:rnK [some 0] h' T l'):Wk 1 T h l' h' [some 0]:=by
 match h',hs with
 | [e],hs=>
  have h1:=rG (h':=[e]) [0] [e] [] hs
  obtain⟨⟨ab,h2,rfl,h3⟩,_⟩:=hs
  refine⟨zpk _,fun i hi hg=> ?_,by simp,?_,hk⟩
  ·obtain rfl:i=0:=by omega
   rw [h2]at hg;cases hg
  ·simp only [rnH,zqw,h2]
   exact⟨fun _=>by first|trivial|rfl|exact .inr trivial|exact .inr rfl,⟨by first|trivial|rfl,by first|trivial|rfl,.inl ⟨by first|trivial|rfl,h3⟩⟩,zpt⟩
variable {l:List (Nat×AV)}
theorem sk{tab:List (TypeId×TI)}(hg:g=G0 P 1 N)(hfit:fL P tab){S:Type}{c:Code}{Q:Exit->List (Nat×AV)->EH->Prop}{h:EH}(hok:fS N c=true)(Tf:S->List (Nat×AV))(hf:S->EH)(ok:S->Prop)(μ:S->Nat)(s0:S)(ρ0:List (Option Nat))(h0:ok s0)
  (hw:Wk 1 (lkT l) (toH h) (Tf s0) (toH (hf s0)) ρ0)
  (hb:∀(s:S)(B:List (Nat×AV)->EH->Prop),ok s->B=(fun l' h'=>∃s' ρ,ok s'/\μ s'<μ s/\Wk 1 (lkT l') (toH h') (Tf s') (toH (hf s')) ρ)->vV g tab c (fun e l h=>match e with| .normal=>B l h|e=>Q e l h) (Tf s) (hf s)):g .L c Q l h:=
 bQ hg hfit hok Tf hf ok μ s0 ρ0 h0 hw hb
theorem Ij{S:Type}{ok:S->Prop}{μ:S->Nat}{s:S}{Tf:S->List (Nat×AV)}{hf:S->EH}{B:List (Nat×AV)->EH->Prop}{h:EH}
  (hB:B=fun l' h'=>∃s' ρ,ok s'/\μ s'<μ s/\Wk 1 (lkT l') (toH h') (Tf s') (toH (hf s')) ρ) (s':S) (ρ:List (Option Nat)) (hw:Wk 1 (lkT l) (toH h) (Tf s') (toH (hf s')) ρ) (h1:ok s') (h2:μ s'<μ s):B l h:=by
 subst hB;exact⟨s',ρ,h1,h2,hw⟩
theorem Ft{F:List AT->EH->Prop}{Post:AV->AH->Prop}{x:AC}{ab:AB}(hF:F=lv 1 Post)(hp:ay ab.es=true)(hpost:Post (.t (.c x)) (toH [.rw ab]))(hx:dx x=true:=by rfl):F [.c x] [.rw ab]:=by
 subst hF
 refine .inl ⟨.t (.c x),toH [.rw ab],[some 0],?_,hpost⟩
 exact wk1 (h:=toH [.rw ab]) ⟨⟨ab,rfl,rfl,hp⟩,zpt⟩ ⟨iR (x:= .t (.c x)) hx,zpt⟩
theorem EY{c:AC}(hp:dx c=true)(s:Nat->Nat):c.mv s=c:=by cases c<;>first|rfl|cases hp
theorem Jb{ab:AB}(h:ay ab.es=true)(s:Nat->Nat):AB.mv s ab=ab:=by
 obtain⟨t,k,es⟩:=ab
 refine congrArg (AB.mk t k) ?_
 refine(zpl fun x hx=> ?_).trans (List.map_id es)
 refine(zpl fun c hc=> ?_).trans (List.map_id x)
 exact EY (zqf.1 (zqf.1 h x hx) c hc) s
end
def fC(k0:Int)(n:Nat):List ag:=(List.range n).map fun i:Nat=>⟨(k0+5*(i:Int)),(k0+5*(i:Int))+1,(k0+5*(i:Int))+2,(k0+5*(i:Int))+3,(k0+5*(i:Int))+4⟩
variable {n:Nat}{M:Int}
theorem ox{k0 z kc:Int}(hM:M=(n:Int))(h0:0<=z)(h1:z<M)(hk:kc=k0+5*z):(vw ag.c (fC k0 n))[z.toNat]? =some ([.J kc,.J (kc+1),.J (kc+2),.J (kc+3),.J (kc+4)]):=by
 subst hk
 have hz:z.toNat<n:=by rw [hM]at h1;omega
 refine(aZ (x:=⟨(k0+5*z),(k0+5*z)+1,(k0+5*z)+2,(k0+5*z)+3,(k0+5*z)+4⟩) ?_).trans rfl
 rw [fC,zqi,List.getElem?_range hz,Option.map_some,Int.toNat_of_nonneg h0]
theorem pn(k0:Int)(es:LLA)(hk:∀e∈es,e.length=5)(hp:ay es=true)(hl:es.length<=1048576)(hk0:0<=k0)(hk1:k0<=1152921504606846976)(ty:TypeId:=45):
  Con prog 25 (toH [.rw ⟨ty,5,es⟩]) [.c (.own 0),ai k0] fun res h'=>∃eh,toH eh=h'/\(res= .i (k0+5*aN es)/\eh=[.rw ⟨ty,5,vw ag.c (fC k0 es.length)⟩]):=by
 obtain⟨V,hV⟩:=nmE (vw ag.c (fC k0 es.length))
 have hx:V.length=es.length:=by rw [hV,ar,fC];simp
 have hw:aN V=aN es:=by rw [ao,ao,hx]
 have hG:aN V<=1048576:=by rw [ao];omega
 have pV:=pmV hV
 have hE:0<=aN V:=by rw [ao];omega
 have hH:aN V=(es.length:Int):=by rw [hw,ao]
 have hN:rj 5 V es 0:=⟨zpc 0,hE,hx.symm,hk,hp,fun i hi=>by simp at hi⟩
 rw [<-hV,<-hw]
 refine px (c:=jD f25) bq func25 (by kernel_rfl) (by kernel_rfl) (bl (by rfl)) (by kernel_rfl) fun g F hg hF=> ?_
 cbv
 refine sk hg bq (by kernel_rfl) (fun s:Int×Int×LLA=>[(0,.o 0),(1,.i s.2.1),(5,.i s.1)]) (fun s=>[.rw ⟨ty,5,s.2.2⟩]) (fun s=>rj 5 V s.2.2 s.1/\s.2.1=k0+5*s.1) (fun s=>(aN V).toNat-s.1.toNat)
  (0,k0,es) [some 0] ⟨hN,by simp only;omega⟩ (wk1 ⟨⟨_,rfl,rfl,hp⟩,zpt⟩ zr3) (fun s B hs hB=> ?_)
 obtain⟨z,kc,E⟩:=s
 obtain⟨hs,hA⟩:=hs
 simp only at hs hA
 have h0:=hs.z0
 have h1:=hs.z1
 have hO:=hs.len
 have hb:aN E=aN V:=by rw [ao,ao,hs.len]
 cbv
 cases hc:g .q .lss z (g .ln E)
 ·rw [ba hg,bz hg,hb,zqo]at hc
  cbv
  obtain rfl:=hs.done hc
  refine Ft hF pV ⟨_,rfl,?_,rfl⟩
  show AV.t (ai kc)=_
  rw [show kc=k0+5*aN E by omega]
 ·rw [ba hg,bz hg,hb,zqp]at hc
  cbv
  obtain⟨j,hj⟩:=nmE z.toNat
  have hz:j<E.length:=zk h0 (by rw [hb];exact hc) hj
  obtain⟨e,he,hI⟩:=hs.mem hz
  have hP:e.all dx=true:=zqf.1 hs.pl e (zqd he)
  obtain⟨b0,b1,b2,b3,b4,rfl⟩:∃b0 b1 b2 b3 b4,e=[b0,b1,b2,b3,b4]:=by
   match e,hI with
   | [b0,b1,b2,b3,b4],_=>exact⟨b0,b1,b2,b3,b4,rfl⟩
  have hy:=ox hH h0 hc hA
  rw [<-hV]at hy
  obtain⟨E0,ha⟩:=nmE E
  have l0:j<E0.length:=by rw [ha];exact hz
  have hf:=he
  rw [<-ha]at hf⊢
  obtain⟨q0,hJ⟩:=nmE (kc+1)
  obtain⟨q1,hK⟩:=nmE (kc+2)
  obtain⟨q2,hL⟩:=nmE (kc+3)
  obtain⟨q3,hM⟩:=nmE (kc+4)
  obtain⟨q4,hQ⟩:=nmE (kc+5)
  have e0:g .w .add .i64 kc 1=q0:=by rw [aG hg,aq _ (by omega)];omega
  have e1:g .w .add .i64 q0 1=q1:=by rw [aG hg,aq _ (by omega)];omega
  have e2:g .w .add .i64 q1 1=q2:=by rw [aG hg,aq _ (by omega)];omega
  have e3:g .w .add .i64 q2 1=q3:=by rw [aG hg,aq _ (by omega)];omega
  have e4:g .w .add .i64 q3 1=q4:=by rw [aG hg,aq _ (by omega)];omega
  refine DG hg h0 hj l0 ?_
  cbv
  refine⟨[b0,b1,b2,b3,b4],hf,?_⟩
  cbv
  generalize hG1:g .st _ _ _=E1
  have hq:E1=g .st E0 j [.J kc,b1,b2,b3,b4]:=hG1.symm
  have hh:E1[j]? =some [.J kc,b1,b2,b3,b4]:=by rw [hq,jC hg];exact zpm l0
  have l1:j<E1.length:=(zqb.1 hh).1
  try rw [e0]
  cbv
  refine DG hg h0 hj l1 ?_
  cbv
  refine⟨[.J kc,b1,b2,b3,b4],hh,?_⟩
  cbv
  generalize hG2:g .st _ _ _=E2
  have hr:E2=g .st E1 j [.J kc,.J q0,b2,b3,b4]:=hG2.symm
  have hm:E2[j]? =some [.J kc,.J q0,b2,b3,b4]:=by rw [hr,jC hg];exact zpm l1
  have l2:j<E2.length:=(zqb.1 hm).1
  try rw [e1]
  cbv
  refine DG hg h0 hj l2 ?_
  cbv
  refine⟨[.J kc,.J q0,b2,b3,b4],hm,?_⟩
  cbv
  generalize hG3:g .st _ _ _=E3
  have ht:E3=g .st E2 j [.J kc,.J q0,.J q1,b3,b4]:=hG3.symm
  have hn:E3[j]? =some [.J kc,.J q0,.J q1,b3,b4]:=by rw [ht,jC hg];exact zpm l2
  have l3:j<E3.length:=(zqb.1 hn).1
  try rw [e2]
  cbv
  refine DG hg h0 hj l3 ?_
  cbv
  refine⟨[.J kc,.J q0,.J q1,b3,b4],hn,?_⟩
  cbv
  generalize hG4:g .st _ _ _=E4
  have hu:E4=g .st E3 j [.J kc,.J q0,.J q1,.J q2,b4]:=hG4.symm
  have ho:E4[j]? =some [.J kc,.J q0,.J q1,.J q2,b4]:=by rw [hu,jC hg];exact zpm l3
  have l4:j<E4.length:=(zqb.1 ho).1
  try rw [e3]
  cbv
  refine DG hg h0 hj l4 ?_
  cbv
  refine⟨[.J kc,.J q0,.J q1,.J q2,b4],ho,?_⟩
  cbv
  generalize hG5:g .st _ _ _=E5
  have hv:E5=g .st E4 j [.J kc,.J q0,.J q1,.J q2,.J q3]:=hG5.symm
  have hD:E5[j]? =some [.J kc,.J q0,.J q1,.J q2,.J q3]:=by rw [hv,jC hg];exact zpm l4
  have l5:j<E5.length:=(zqb.1 hD).1
  try rw [e4]
  cbv
  have ez:g .w .add .i64 z 1=z+1:=by rw [aG hg,aq _ (by omega)]
  rw [ez]
  have hd:E5=E.set j [.J kc,.J q0,.J q1,.J q2,.J q3]:=by rw [hv,hu,ht,hr,hq,ha];simp only [jC hg,List.set_set]
  rw [hd]
  have hC:=hs.step hc hj hy rfl rfl
  subst hJ hK hL hM
  exact Ij hB (z+1,q4,_) [some 0] (wk1 ⟨⟨_,rfl,rfl,hC.pl⟩,zpt⟩ zr3) ⟨hC,by simp only;omega⟩ (by show(aN V).toNat-(z+1).toNat<(aN V).toNat-z.toNat;omega)
theorem po(k0:Int)(n:Nat)(hl:n<=1048576)(hk0:0<=k0)(hk1:k0<=1152921504606846976):PC0 26 [.c (.view (vw ag.c (fC k0 n))),ai k0] (.i (k0+5*(n:Int))):=by
 obtain⟨V,hV⟩:=nmE (vw ag.c (fC k0 n))
 have hd:V.length=n:=by rw [hV,ar,fC];simp
 obtain⟨M,hM⟩:∃M:Int,M=(n:Int):=⟨_,rfl⟩
 have ha:aN V=M:=by rw [ao,hd,hM]
 have hj:M<=1048576:=by omega
 have hb:0<=M:=by omega
 rw [<-hV,<-hM]
 refine aV func26 fun g F hg hF=> ?_
 cbv
 refine bQ hg bq (by kernel_rfl) (fun s:Int×Int=>[(0,.v V),(1,.i s.2),(5,.i s.1)]) (fun _=>[]) (fun s=>0<=s.1/\s.1<=M/\s.2=k0+5*s.1) (fun s=>M.toNat-s.1.toNat)
  (0,k0) [] ⟨zpc 0,hb,by simp only;omega⟩ (wk0 zr3) (fun s B hs hB=> ?_)
 obtain⟨z,kc⟩:=s
 obtain⟨h0,h1,h2⟩:=hs
 simp only at h0 h1 h2
 cbv
 cases hc:g .q .lss z (g .ln V)
 ·rw [ba hg,bz hg,ha,zqo]at hc
  cbv
  exact aO hF (by rw [h2,show z=M by omega])
 ·rw [ba hg,bz hg,ha,zqp]at hc
  cbv
  have hy:=ox hM h0 hc h2
  rw [<-hV]at hy
  obtain⟨q0,he⟩:=nmE (kc+1)
  obtain⟨q1,hf⟩:=nmE (kc+2)
  obtain⟨q2,hh⟩:=nmE (kc+3)
  obtain⟨q3,hi⟩:=nmE (kc+4)
  obtain⟨q4,hk⟩:=nmE (kc+5)
  have e0:g .w .add .i64 kc 1=q0:=by rw [aG hg,aq _ (by omega)];omega
  have n0:g .q .neq kc kc=false:=by rw [bC hg];simp
  have e1:g .w .add .i64 q0 1=q1:=by rw [aG hg,aq _ (by omega)];omega
  have n1:g .q .neq q0 q0=false:=by rw [bC hg];simp
  have e2:g .w .add .i64 q1 1=q2:=by rw [aG hg,aq _ (by omega)];omega
  have n2:g .q .neq q1 q1=false:=by rw [bC hg];simp
  have e3:g .w .add .i64 q2 1=q3:=by rw [aG hg,aq _ (by omega)];omega
  have n3:g .q .neq q2 q2=false:=by rw [bC hg];simp
  have e4:g .w .add .i64 q3 1=q4:=by rw [aG hg,aq _ (by omega)];omega
  have n4:g .q .neq q3 q3=false:=by rw [bC hg];simp
  rw [<-he,<-hf,<-hh,<-hi]at hy
  refine goX hg _ h0 hy rfl ?_
  cbv
  rw [n0]
  cbv
  rw [e0]
  cbv
  refine goX hg _ h0 hy rfl ?_
  cbv
  rw [n1]
  cbv
  rw [e1]
  cbv
  refine goX hg _ h0 hy rfl ?_
  cbv
  rw [n2]
  cbv
  rw [e2]
  cbv
  refine goX hg _ h0 hy rfl ?_
  cbv
  rw [n3]
  cbv
  rw [e3]
  cbv
  refine goX hg _ h0 hy rfl ?_
  cbv
  rw [n4]
  cbv
  rw [e4]
  have ez:g .w .add .i64 z 1=z+1:=by rw [aG hg,aq _ (by omega)]
  rw [ez]
  exact iE hB (z+1,q4) [] (wk0 zr3) ⟨by simp only;omega,by simp only;omega,by simp only;omega⟩ (by show M.toNat-(z+1).toNat<M.toNat-z.toNat;omega)
def gM(k0:Int)(n:Nat):List Int:=(List.range n).map fun i:Nat=>k0+(i:Int)
theorem zh{k0 z kc:Int}(hM:M=(n:Int))(h0:0<=z)(h1:z<M)(hk:kc=k0+1*z):(vw ak (gM k0 n))[z.toNat]? =some ([.J kc]):=by
 subst hk
 have hz:z.toNat<n:=by rw [hM]at h1;omega
 refine(aZ (x:=k0+z) ?_).trans (by simp [lc,ak])
 rw [gM,zqi,List.getElem?_range hz,Option.map_some,Int.toNat_of_nonneg h0]
theorem sx(k0:Int)(es:LLA)(hk:∀e∈es,e.length=1)(hp:ay es=true)(hl:es.length<=1048576)(hk0:0<=k0)(hk1:k0<=1152921504606846976)(ty:TypeId:=3):
  Con prog 89 (toH [.rw ⟨ty,1,es⟩]) [.c (.own 0),ai k0] fun res h'=>∃eh,toH eh=h'/\(res= .i (k0+1*aN es)/\eh=[.rw ⟨ty,1,vw ak (gM k0 es.length)⟩]):=by
 obtain⟨V,hV⟩:=nmE (vw ak (gM k0 es.length))
 have hd:V.length=es.length:=by rw [hV,ar,gM];simp
 have hb:aN V=aN es:=by rw [ao,ao,hd]
 have ho:aN V<=1048576:=by rw [ao];omega
 have pV:=pmV hV
 have hn:0<=aN V:=by rw [ao];omega
 have hq:aN V=(es.length:Int):=by rw [hb,ao]
 have ht:rj 1 V es 0:=⟨zpc 0,hn,hd.symm,hk,hp,fun i hi=>by simp at hi⟩
 rw [<-hV,<-hb]
 refine px (c:=jD f89) bq func89 (by kernel_rfl) (by kernel_rfl) (bl (by rfl)) (by kernel_rfl) fun g F hg hF=> ?_
 cbv
 refine sk hg bq (by kernel_rfl) (fun s:Int×Int×LLA=>[(0,.o 0),(1,.i s.2.1),(5,.i s.1)]) (fun s=>[.rw ⟨ty,1,s.2.2⟩]) (fun s=>rj 1 V s.2.2 s.1/\s.2.1=k0+1*s.1) (fun s=>(aN V).toNat-s.1.toNat)
  (0,k0,es) [some 0] ⟨ht,by simp only;omega⟩ (wk1 ⟨⟨_,rfl,rfl,hp⟩,zpt⟩ zr3) (fun s B hs hB=> ?_)
 obtain⟨z,kc,E⟩:=s
 obtain⟨hs,hh⟩:=hs
 simp only at hs hh
 have h0:=hs.z0
 have h1:=hs.z1
 have hu:=hs.len
 have ha:aN E=aN V:=by rw [ao,ao,hs.len]
 cbv
 cases hc:g .q .lss z (g .ln E)
 ·rw [ba hg,bz hg,ha,zqo]at hc
  cbv
  obtain rfl:=hs.done hc
  refine Ft hF pV ⟨_,rfl,?_,rfl⟩
  show AV.t (ai kc)=_
  rw [show kc=k0+1*aN E by omega]
 ·rw [ba hg,bz hg,ha,zqp]at hc
  cbv
  obtain⟨j,hj⟩:=nmE z.toNat
  have hf:j<E.length:=zk h0 (by rw [ha];exact hc) hj
  obtain⟨e,he,hr⟩:=hs.mem hf
  have hv:e.all dx=true:=zqf.1 hs.pl e (zqd he)
  obtain⟨b0,rfl⟩:∃b0,e=[b0]:=by
   match e,hr with
   | [b0],_=>exact⟨b0,rfl⟩
  have hy:=zh hq h0 hc hh
  rw [<-hV]at hy
  obtain⟨q0,hw⟩:=nmE (kc+1)
  have e0:g .w .add .i64 kc 1=q0:=by rw [aG hg,aq _ (by omega)];omega
  refine DG hg h0 hj hf ?_
  cbv
  refine goN hg ⟨_,he,rfl⟩ ?_
  cbv
  rw [jC hg]
  rw [e0]
  have ez:g .w .add .i64 z 1=z+1:=by rw [aG hg,aq _ (by omega)]
  rw [ez]
  have hm:=hs.step hc hj hy rfl rfl
  exact Ij hB (z+1,q0,_) [some 0] (wk1 ⟨⟨_,rfl,rfl,hm.pl⟩,zpt⟩ zr3) ⟨hm,by simp only;omega⟩ (by show(aN V).toNat-(z+1).toNat<(aN V).toNat-z.toNat;omega)
def fG(k0:Int)(n:Nat):List aC:=(List.range n).map fun i:Nat=>⟨(k0+3*(i:Int)),(k0+3*(i:Int))+1,(k0+3*(i:Int))+2⟩
theorem xY{k0 z kc:Int}(hM:M=(n:Int))(h0:0<=z)(h1:z<M)(hk:kc=k0+3*z):(vw aC.c (fG k0 n))[z.toNat]? =some ([.J kc,.J (kc+1),.J (kc+2)]):=by
 subst hk
 have hz:z.toNat<n:=by rw [hM]at h1;omega
 refine(aZ (x:=⟨(k0+3*z),(k0+3*z)+1,(k0+3*z)+2⟩) ?_).trans rfl
 rw [fG,zqi,List.getElem?_range hz,Option.map_some,Int.toNat_of_nonneg h0]
theorem qA(k0:Int)(es:LLA)(hk:∀e∈es,e.length=3)(hp:ay es=true)(hl:es.length<=1048576)(hk0:0<=k0)(hk1:k0<=1152921504606846976)(ty:TypeId:=147):
  Con prog 90 (toH [.rw ⟨ty,3,es⟩]) [.c (.own 0),ai k0] fun res h'=>∃eh,toH eh=h'/\(res= .i (k0+3*aN es)/\eh=[.rw ⟨ty,3,vw aC.c (fG k0 es.length)⟩]):=by
 obtain⟨V,hV⟩:=nmE (vw aC.c (fG k0 es.length))
 have ht:V.length=es.length:=by rw [hV,ar,fG];simp
 have hr:aN V=aN es:=by rw [ao,ao,ht]
 have hA:aN V<=1048576:=by rw [ao];omega
 have pV:=pmV hV
 have hz:0<=aN V:=by rw [ao];omega
 have hC:aN V=(es.length:Int):=by rw [hr,ao]
 have hH:rj 3 V es 0:=⟨zpc 0,hz,ht.symm,hk,hp,fun i hi=>by simp at hi⟩
 rw [<-hV,<-hr]
 refine px (c:=jD f90) bq func90 (by kernel_rfl) (by kernel_rfl) (bl (by rfl)) (by kernel_rfl) fun g F hg hF=> ?_
 cbv
 refine sk hg bq (by kernel_rfl) (fun s:Int×Int×LLA=>[(0,.o 0),(1,.i s.2.1),(5,.i s.1)]) (fun s=>[.rw ⟨ty,3,s.2.2⟩]) (fun s=>rj 3 V s.2.2 s.1/\s.2.1=k0+3*s.1) (fun s=>(aN V).toNat-s.1.toNat)
  (0,k0,es) [some 0] ⟨hH,by simp only;omega⟩ (wk1 ⟨⟨_,rfl,rfl,hp⟩,zpt⟩ zr3) (fun s B hs hB=> ?_)
 obtain⟨z,kc,E⟩:=s
 obtain⟨hs,hv⟩:=hs
 simp only at hs hv
 have h0:=hs.z0
 have h1:=hs.z1
 have hI:=hs.len
 have hb:aN E=aN V:=by rw [ao,ao,hs.len]
 cbv
 cases hc:g .q .lss z (g .ln E)
 ·rw [ba hg,bz hg,hb,zqo]at hc
  cbv
  obtain rfl:=hs.done hc
  refine Ft hF pV ⟨_,rfl,?_,rfl⟩
  show AV.t (ai kc)=_
  rw [show kc=k0+3*aN E by omega]
 ·rw [ba hg,bz hg,hb,zqp]at hc
  cbv
  obtain⟨j,hj⟩:=nmE z.toNat
  have hu:j<E.length:=zk h0 (by rw [hb];exact hc) hj
  obtain⟨e,he,hD⟩:=hs.mem hu
  have hJ:e.all dx=true:=zqf.1 hs.pl e (zqd he)
  obtain⟨b0,b1,b2,rfl⟩:∃b0 b1 b2,e=[b0,b1,b2]:=by
   match e,hD with
   | [b0,b1,b2],_=>exact⟨b0,b1,b2,rfl⟩
  have hy:=xY hC h0 hc hv
  rw [<-hV]at hy
  obtain⟨E0,ha⟩:=nmE E
  have l0:j<E0.length:=by rw [ha];exact hu
  have hf:=he
  rw [<-ha]at hf⊢
  obtain⟨q0,hE⟩:=nmE (kc+1)
  obtain⟨q1,hG⟩:=nmE (kc+2)
  obtain⟨q2,hK⟩:=nmE (kc+3)
  have e0:g .w .add .i64 kc 1=q0:=by rw [aG hg,aq _ (by omega)];omega
  have e1:g .w .add .i64 q0 1=q1:=by rw [aG hg,aq _ (by omega)];omega
  have e2:g .w .add .i64 q1 1=q2:=by rw [aG hg,aq _ (by omega)];omega
  refine DG hg h0 hj l0 ?_
  cbv
  refine⟨[b0,b1,b2],hf,?_⟩
  cbv
  generalize hG1:g .st _ _ _=E1
  have hn:E1=g .st E0 j [.J kc,b1,b2]:=hG1.symm
  have hh:E1[j]? =some [.J kc,b1,b2]:=by rw [hn,jC hg];exact zpm l0
  have l1:j<E1.length:=(zqb.1 hh).1
  try rw [e0]
  cbv
  refine DG hg h0 hj l1 ?_
  cbv
  refine⟨[.J kc,b1,b2],hh,?_⟩
  cbv
  generalize hG2:g .st _ _ _=E2
  have ho:E2=g .st E1 j [.J kc,.J q0,b2]:=hG2.symm
  have hm:E2[j]? =some [.J kc,.J q0,b2]:=by rw [ho,jC hg];exact zpm l1
  have l2:j<E2.length:=(zqb.1 hm).1
  try rw [e1]
  cbv
  refine DG hg h0 hj l2 ?_
  cbv
  refine⟨[.J kc,.J q0,b2],hm,?_⟩
  cbv
  generalize hG3:g .st _ _ _=E3
  have hq:E3=g .st E2 j [.J kc,.J q0,.J q1]:=hG3.symm
  have hx:E3[j]? =some [.J kc,.J q0,.J q1]:=by rw [hq,jC hg];exact zpm l2
  have l3:j<E3.length:=(zqb.1 hx).1
  try rw [e2]
  cbv
  have ez:g .w .add .i64 z 1=z+1:=by rw [aG hg,aq _ (by omega)]
  rw [ez]
  have hd:E3=E.set j [.J kc,.J q0,.J q1]:=by rw [hq,ho,hn,ha];simp only [jC hg,List.set_set]
  rw [hd]
  have hw:=hs.step hc hj hy rfl rfl
  subst hE hG
  exact Ij hB (z+1,q2,_) [some 0] (wk1 ⟨⟨_,rfl,rfl,hw.pl⟩,zpt⟩ zr3) ⟨hw,by simp only;omega⟩ (by show(aN V).toNat-(z+1).toNat<(aN V).toNat-z.toNat;omega)
def m3(k:Int):Bool:=k.tmod 3==0
variable {j:Nat}{y:List AC}
theorem EG{E:LLA}(h:E[j]? =some y):E.set j y=E:=by
 refine List.ext_getElem? fun i=> ?_
 rw [List.getElem?_set]
 by_cases hi:j=i
 ·subst hi;rw [if_pos rfl,if_pos (zqb.1 h).1,h]
 ·rw [if_neg hi]
theorem ep{E:LLA}(h:ay E=true)(hy:y.all dx=true):ay (E.set j y)=true:=by
 rw [ay,zqf]at h⊢
 intro x hx
 rcases List.mem_or_eq_of_mem_set hx with hx|rfl
 ·exact h x hx
 ·exact hy
variable {E E1 E2:LLA}
theorem Aq{x y:List AC}(h:E2=E1.set j x)(hs:E1=E.set j y)(hl:j<E.length):E2=E.set j x/\E2[j]? =some x/\j<E2.length:=by
 rw [hs,List.set_set]at h
 subst h
 exact⟨rfl,zpm hl,by rw [List.length_set];exact hl⟩
theorem ib{n0 N:Nat}{β:BP}(hg:g=G0 P n0 N){x y:List AC}(h:g .st E1 j x=E2)(hs:E1=E.set j y)(hl:j<E.length):E2=E.set j x/\E2[j]? =some x/\j<E2.length:=by
 rw [jC hg,hs,List.set_set]at h
 subst h
 exact⟨rfl,zpm hl,by rw [List.length_set];exact hl⟩
theorem Ku{n0 N:Nat}{β:BP}(hg:g=G0 P n0 N){a b d c e C:Int}(h0:0<=a)(hM:a+C<=1152921504606846976)(hb:b=a+c)(hd:d=a+e)(he:e=c+1)(h1:0<=c)(h2:c<=C):g .w .add .i64 b 1=d:=by
 rw [aG hg,aq _ (by omega)];omega
theorem sB(k0:Int):PC0 89 [.c (.view []),ai k0] (.i k0):=by
 refine rU [] func89 fun g hc hd F ha hb hg hF=> ?_
 cbv
 refine gu [] [] ha hb hg bq (by kernel_rfl) (fun _:Unit=>[(0,.t (.c (.view []))),(1,.i k0),(5,.i 0)]) (fun _=>[]) (fun _=>True) (fun _=>0) () trivial (Wk.weak (wk0 zr3)) (fun s B _ hB=> ?_)
 cbv
 have e:g .q .lss 0 (g .ln [])=false:=by rw [ba hg,bz hg];rfl
 rw [e]
 cbv
 exact aO hF rfl
theorem sw(k0:Int)(bs:List Nat)(V:LLA)(hl:V.length<=1048576)(hk:∀y∈V,y.length=1)(hi:qd V=true)(hnd:bs.Nodup)(hk0:0<=k0)(hk1:k0<=1152921504606846976):
  Er prog 89 [.c (.fv bs V),ai k0] [(bs,V,vw ak (gM k0 V.length))] (.int .i64 (k0+1*(V.length:Int))):=by
 by_cases hne:V=[]
 ·subst hne
  have:k0+1*(([]:LLA).length:Int)=k0:=by simp
  rw [this]
  exact wk (sB k0)
 ·rw [<-ao]
  exact xX (by kernel_rfl) hne hk hi (xv _ _) hnd (by rw [ar];simp [gM]) fun ty=>sx k0 V hk (ff hi) hl hk0 hk1 ty
theorem qB(k0:Int):PC0 90 [.c (.view []),ai k0] (.i k0):=by
 refine rU [] func90 fun g hc hd F ha hb hg hF=> ?_
 cbv
 refine gu [] [] ha hb hg bq (by kernel_rfl) (fun _:Unit=>[(0,.t (.c (.view []))),(1,.i k0),(5,.i 0)]) (fun _=>[]) (fun _=>True) (fun _=>0) () trivial (Wk.weak (wk0 zr3)) (fun s B _ hB=> ?_)
 cbv
 have e:g .q .lss 0 (g .ln [])=false:=by rw [ba hg,bz hg];rfl
 rw [e]
 cbv
 exact aO hF rfl
theorem qz(k0:Int)(bs:List Nat)(V:LLA)(hl:V.length<=1048576)(hk:∀y∈V,y.length=3)(hi:qd V=true)(hnd:bs.Nodup)(hk0:0<=k0)(hk1:k0<=1152921504606846976):
  Er prog 90 [.c (.fv bs V),ai k0] [(bs,V,vw aC.c (fG k0 V.length))] (.int .i64 (k0+3*(V.length:Int))):=by
 by_cases hne:V=[]
 ·subst hne
  have:k0+3*(([]:LLA).length:Int)=k0:=by simp
  rw [this]
  exact wk (qB k0)
 ·rw [<-ao]
  exact xX (by kernel_rfl) hne hk hi (xv _ _) hnd (by rw [ar];simp [fG]) fun ty=>qA k0 V hk (ff hi) hl hk0 hk1 ty
section
variable {P:Program}{n0 N:Nat}{g:Gd}
theorem wW{F:List AT->EH->Prop}{w h b:Int}{r:Nat}{eh:EH}{ab:AB}(hF:F=lv 0 (fun res h'=>∃rows,h'=rows.map .live/\(res= .t (.agg [.J w,.J h,.J b,.own 0])/\rows=[ab])))(hr:nth eh r=some (.rw ab))(hp:ay ab.es=true):
  F [.agg [.J w,.J h,.J b,.own r]] eh:=by
 subst hF
 refine .inl ⟨.t (.agg [.J w,.J h,.J b,.own 0]),[.live ab],[some r],⟨zpn _,fun i hi=>absurd hi (zpq _),by simp,?_,?_⟩,[ab],rfl,rfl,rfl⟩
 ·simp only [rnH,zqw,f9 hr]
  exact⟨fun h=>absurd h (zpq _),⟨by first|trivial|rfl,by first|trivial|rfl,.inl ⟨by first|trivial|rfl,hp⟩⟩,zpt⟩
 ·exact⟨.inr zr4,zpt⟩
theorem xd{β:BP}(hg:g=G0 P n0 N){h:EH}{f:FuncId}{args:List AT}{K:AV->EH->Prop}{a b c:Int}{ab:AB}(hc:bS P f args fun res hb=>res= .t (.agg [.J a,.J b,.J c,.own 0])/\hb=[ab])(hd:i7 args=true)(hp:ay ab.es=true)
  (hK:K (.t (.agg [.J a,.J b,.J c,.own (mU h)])) (h++[.rw ab])):g .C f h args K:=
 sT hg (fO hc hd fun res hb ha=>by
  obtain⟨rfl,rfl⟩:=ha
  rw [dy]at hK
  refine⟨[.rw ab],by simp only [zqA,List.map_nil,fY hp];rfl,?_⟩
  rw [bV];exact hK)
end
def Jd(n:Int)(w h:aK)(rtl:Bool)(m:pI):Bool:=(m.node==n)&&decide (m.wide=w)&&decide (m.high=h)&&(m.rtl==rtl)
def HB(n:Int)(w h:aK)(rtl:Bool):List pI->jH×Bool
 | []=>(⟨0,0,0,[]⟩,false)
 |m::ms=>if Jd n w h rtl m then(m.box,true)else HB n w h rtl ms
end Go.Proofs.YtckchgoblpgpbaaGreat
