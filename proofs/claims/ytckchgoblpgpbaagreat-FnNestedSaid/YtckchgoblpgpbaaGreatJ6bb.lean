/- The program's passes over a line that flexes, as maps of data. -/
import Derived.Test.YtckchgoblpgpbaaGreatJ6ba
set_option linter.unusedVariables false
set_option linter.unusedSimpArgs false
set_option maxHeartbeats 3200000
namespace Go.Proofs.YtckchgoblpgpbaaGreat
open Go.ChangeShapes Go.WideShapes Go.ChangeAt Go.RowKit Am Go.Proofs.Tryz
set_option maxRecDepth 100000
abbrev ow:Bool->Array Value:=fun b=> #[.bool b]
def Fx.bx(X:Fx)(p:Int):List AC:=[.view (vw aj.c X.xs),.J X.gap,.J X.inner,.B X.gr,.own 1,.own 2,.J p]
structure S1 where
 i:Int
 f:List Int
 m:List Int
 a:Int
def S1.go(gr:Bool):S1->List (aj×Bool×Int)->S1
 |s,[]=>s
 |s,(x,f,_)::r=>S1.go gr (if f then⟨s.i+1,s.f,s.m,s.a⟩else⟨s.i+1,s.f++[s.i],s.m.set s.i.toNat x.base,wrap64 (s.a+wgt gr x)⟩) r
def vk(xs:List aj)(fr:List Bool)(sz:List Int):List (aj×Bool×Int):=xs.zip (fr.zip sz)
theorem jp{α:Type}(c:α->Array Value)(xs:List α)(j:Nat)(x:α):vw c (xs.set j x)=(vw c xs).set j (lc (c x)):=by simp [vw]
theorem S1.go_eq(X:Fx):∀(xs:List aj)(fr:List Bool)(sz:List Int)(dn:List Int)(f:List Int)(a:Int),fr.length=xs.length->sz.length=xs.length->(∀j:Nat,j<xs.length->itA X.xs ((dn.length:Int)+(j:Int))=xs[j]?.getD ⟨0,0,0,0,0,0,0,false,false⟩)->
  S1.go X.gr ⟨dn.length,f,dn++sz,a⟩ (vk xs fr sz)=⟨(dn.length:Int)+xs.length,f++fre dn.length fr,dn++mix xs fr sz,uj a ((fre dn.length fr).map fun i=>wgt X.gr (itA X.xs i))⟩
 | [],[],[],dn,f,a,_,_,_=>by simp [vk,S1.go,fre,mix,uj]
 | [],_::_,_,_,_,_,h,_,_=>by simp at h
 | [],[],_::_,_,_,_,_,h,_=>by simp at h
 |_::_,[],_,_,_,_,h,_,_=>by simp at h
 |_::_,_::_,[],_,_,_,_,h,_=>by simp at h
 |x::xs,b::fr,s::sz,dn,f,a,h1,h2,h3=>by
  have hx:itA X.xs (dn.length:Int)=x:=by have:=h3 0 (by simp);simpa using this
  have h4:∀v:Int,∀j:Nat,j<xs.length->itA X.xs (((dn++[v]).length:Int)+(j:Int))=xs[j]?.getD ⟨0,0,0,0,0,0,0,false,false⟩:=fun v j hj=>by
   have:=h3 (j+1) (by simp;omega)
   simp only [List.getElem?_cons_succ]at this
   rw [<-this]
   congr 1
   simp only [zqe,zqm]
   omega
  have ih:=fun v f a=>S1.go_eq X xs fr sz (dn++[v]) f a (by simpa using h1) (by simpa using h2) (h4 v)
  have el:∀v:Int,((dn++[v]).length:Int)=dn.length+1:=fun v=>by simp
  have ed:∀(v:Int)(l:List Int),(dn++[v])++l=dn++v::l:=fun v l=>by simp
  have hz:vk (x::xs) (b::fr) (s::sz)=(x,b,s)::vk xs fr sz:=rfl
  rw [hz]
  cases b with
  |true=>
   simp only [S1.go,if_true,fre,mix]
   have:=ih s f a
   rw [el,ed,ed]at this
   rw [this,zqx]
   congr 1
   omega
  |false=>
   simp only [S1.go,Bool.false_eq_true,if_false,fre,mix]
   have:=ih x.base (f++[(dn.length:Int)]) (wrap64 (a+wgt X.gr x))
   rw [el,ed,ed]at this
   have e1:(dn++s::sz).set ((dn.length:Int)).toNat x.base=dn++x.base::sz:=by simp
   rw [e1,this,zqx,zqA,uj,hx,zqC]
   congr 1
   omega
theorem S1.all_(X:Fx){fr:List Bool}{sz:List Int}(hf:fr.length=X.xs.length)(hs:sz.length=X.xs.length):S1.go X.gr ⟨0,[],sz,0⟩ (vk X.xs fr sz)=⟨X.xs.length,fre 0 fr,mix X.xs fr sz,X.all fr⟩:=by
 have:=S1.go_eq X X.xs fr sz [] [] 0 hf hs (fun j hj=>by simp [itA])
 simpa [Fx.all,Fx.ws]using this
structure S2 where
 l:List Int
 h:List Int
 v:Int
 w:List Int
def S2.go(X:Fx)(A r:Int):S2->List Int->S2
 |s,[]=>s
 |s,i::is=>S2.go X A r ⟨if n4 X.gr A r (itA X.xs i)then s.l++[i]else s.l,if !n4 X.gr A r (itA X.xs i)&&qH X.gr A r (itA X.xs i)then s.h++[i]else s.h,qG X.gr A r s.v (itA X.xs i),s.w++[wgt X.gr (itA X.xs i)]⟩ is
theorem S2.go_eq(X:Fx)(A r:Int):∀(is:List Int)(s:S2),S2.go X A r s is=⟨s.l++is.filter fun i=>n4 X.gr A r (itA X.xs i),s.h++is.filter fun i=> !n4 X.gr A r (itA X.xs i)&&qH X.gr A r (itA X.xs i),is.foldl (fun v i=>qG X.gr A r v (itA X.xs i)) s.v,s.w++is.map fun i=>wgt X.gr (itA X.xs i)⟩
 | [],s=>by simp [S2.go]
 |i::is,s=>by
  rw [S2.go,S2.go_eq X A r is]
  simp only [List.filter_cons,zqA,List.foldl_cons]
  congr 1
  ·split<;>simp_all
  ·split<;>simp_all
  ·simp
structure S3 where
 s:List Int
 f:List Bool
def S3.go(s:S3)(ps:List (Int×Int)):S3:=⟨vO ps s.s,ul (ps.map (·.1)) s.f⟩
theorem S3.go_cons(s:S3)(p:Int×Int)(ps:List (Int×Int)):S3.go s (p::ps)=S3.go ⟨s.s.set p.1.toNat p.2,s.f.set p.1.toNat true⟩ ps:=rfl
theorem pf:∀(xs:List aj)(fr:List Bool)(sz:List Int),fr.length=xs.length->sz.length=xs.length->(vk xs fr sz).map (·.1)=xs
 | [],_,_,_,_=>rfl
 |x::xs,b::fr,s::sz,h1,h2=>by
  show x::(vk xs fr sz).map (·.1)=_
  rw [pf xs fr sz (by simpa using h1) (by simpa using h2)]
 |_::_,[],_,h,_=>by simp at h
 |_::_,_::_,[],_,h=>by simp at h
theorem zO(xs:List aj)(fr:List Bool)(sz:List Int)(n:Nat)(x:aj)(b:Bool)(s:Int)(h:(vk xs fr sz)[n]? =some (x,b,s)):xs[n]? =some x/\fr[n]? =some b/\sz[n]? =some s:=by
 unfold vk at h
 rw [List.getElem?_zip_eq_some,List.getElem?_zip_eq_some]at h
 exact h
theorem rk{xs:List aj}{i:Int}(h0:0<=i)(h1:i<xs.length):xs[i.toNat]? =some (itA xs i):=by
 unfold itA
 rw [zqc (by omega)]
 rfl
theorem xH(a b:List (Int×Int))(l:List Int):vO (a++b) l=vO b (vO a l):=List.foldl_append ..
theorem xI(a b:List Int)(l:List Bool):ul (a++b) l=ul b (ul a l):=List.foldl_append ..
theorem Fx.setI_two(X:Fx)(fr:List Bool)(rt:Int)(sz:List Int)(h:¬(X.low fr rt=[]/\X.hig fr rt=[]))(A B:List (Int×Int))(hA:A=if 0<=X.vio fr rt then(X.low fr rt).map fun i=>(i,(itA X.xs i).least)else [])(hB:B=if X.vio fr rt<=0 then(X.hig fr rt).map fun i=>(i,nQ (itA X.xs i))else []):
  S3.go (S3.go ⟨sz,fr⟩ A) B=⟨vO (X.setI fr rt) sz,ul ((X.setI fr rt).map (·.1)) fr⟩:=by
 unfold Fx.setI
 rw [if_neg h,<-hA,<-hB,List.map_append,xH,xI]
 rfl
theorem xC{a b:List Int}(ha:a.length<=1048576)(hb:b.length<=1048576):(wrap64 ((a.length:Int)+(b.length:Int))==0)=decide (a=[]/\b=[]):=by
 have e:wrap64 ((a.length:Int)+(b.length:Int))=(a.length:Int)+(b.length:Int):=by unfold wrap64;omega
 rw [e]
 by_cases hc:a=[]/\b=[]
 ·rw [hc.1,hc.2];rfl
 ·rw [zqt hc,zqr]
  intro hz
  exact hc ⟨zqv (by omega),zqv (by omega)⟩
theorem fQ(ws:List Int)(hl:ws.length<=1048576):cj prog 287 [.c (.view (vw ak ws))] fun res ha=>res= .o 0/\ha=[⟨3,1,vw ak ws⟩]:=by
 obtain⟨V,hV⟩:=nmE (vw ak ws)
 have hb:=lmV hV
 have iV:=imV hV
 have kV:=kmV (k:=1) hV fun _=>rfl
 have dV:=dmV hV
 have pV:=pmV hV
 rw [<-hV]
 refine ae (aM f287) aB func287 fun g F hg hF=> ?_
 cbv
 refine goN hg ⟨kV,by omega,by omega⟩ ?_
 cbv
 rw [ig hg]
 exact db hF rfl pV
theorem jl(X:Fx)(hX:gl X.xs=true)(sz:List Int)(fr:List Bool)(hs:sz.length=X.xs.length)(hf:fr.length=X.xs.length)(p:Int):
  Con prog 330 (toH [.bx 289 7 (X.bx p),.rw ⟨3,1,vw ak sz⟩,.rw ⟨4,1,vw ow fr⟩]) [.c (.ptr 0 0 0)] fun res h'=>∃eh,toH eh=h'/\∃p' sz' fr',
   res= .t (abl (decide (fre 0 fr≠[])))/\eh=[.bx 289 7 (X.bx p'),.rw ⟨3,1,vw ak sz'⟩,.rw ⟨4,1,vw ow fr'⟩]/\
   sz'=(if fre 0 fr=[]then sz else vO (X.setI fr (X.rI fr sz)) sz)/\fr'=(if fre 0 fr=[]then fr else ul ((X.setI fr (X.rI fr sz)).map (·.1)) fr):=by
 have hw:=S1.all_ X hf hs
 obtain⟨x3,x2⟩:=ei hX
 obtain⟨zs,hY⟩:=nmE (vk X.xs fr sz)
 have hV:vw aj.c X.xs=zs.map fun t=>lc (aj.c t.1):=by
  rw [hY,vw,<-pf X.xs fr sz hf hs,List.map_map];simp [pf X.xs fr sz hf hs]
 have xU:zs.length<=1048576:=by rw [hY,vk];simp [hs,hf];omega
 rw [<-hY]at hw
 obtain⟨V,hD⟩:=nmE (vw aj.c X.xs)
 obtain⟨Z,hZ⟩:=nmE (vw ak sz)
 have x0:=lmV hZ
 have iZ:=imV hZ
 have kZ:=kmV (k:=1) hZ fun _=>rfl
 have dZ:=dmV hZ
 obtain⟨R,hR⟩:=nmE (vw ow fr)
 obtain⟨FR,hk⟩:=nmE (fre 0 fr)
 obtain⟨MX,h8⟩:=nmE (mix X.xs fr sz)
 obtain⟨AL,xe⟩:=nmE (X.all fr)
 obtain⟨rt,xr⟩:=nmE (X.rI fr sz)
 obtain⟨GR,hT⟩:=nmE X.gr
 have xZ:MX.length=X.xs.length:=by rw [h8];exact wC _ _ _ hf hs
 have pZ:=pmV hZ
 have pR:=pmV hR
 have xH:aC R=(X.xs.length:Int):=by rw [hR,bg,hf]
 have cc:=fQ sz (by omega)
 have co:=dN X.xs MX X.gap (by omega) (by omega)
 obtain⟨OV,xg⟩:=nmE (wrap64 (ji X.xs MX X.gap))
 simp only [Fx.bx,<-hD,<-hZ,<-hR,<-xg,<-hT]at cc co⊢
 rw [<-hD]at hV
 rw [<-hk,<-h8,<-xe]at hw
 rw [<-hk,<-xr]
 have xm:aC V=(X.xs.length:Int):=by rw [hD,bg]
 obtain⟨R1,xk⟩:=nmE (S1.mk (X.xs.length:Int) FR MX AL)
 rw [<-xk]at hw
 refine qv (c:=aM f330) aB func330 (by kernel_rfl) (by kernel_rfl) (bl (by rfl)) (by kernel_rfl) fun g F hg hF=> ?_
 replace hg:g=G0 prog 3 f330.ntmps:=hg
 replace hF:F=jS 3 _:=hF
 cbv
 first|(refine bQ hg cc (ay (bC (ab:=⟨_,_,Z⟩) rfl kZ dZ) (aP)) iZ ?_;cbv)|(refine dS hg cc (ay (bC (ab:=⟨_,_,Z⟩) rfl kZ dZ) (aP)) iZ ?_;cbv)
 refine aU hg aB (by kernel_rfl) V (fun t=>lc (aj.c t.1)) zs hV xU (fun z(s:S1×LLA×LLA)=>[(0,.p 0),(3,.o 3),(4,.o 4),(5,.i (s.1.a)),(33,.v V),(34,.i (g .ln V)),(35,.i (z))]) (fun z(s:S1×LLA×LLA)=>[.bx 289 7 [.view V,.J X.gap,.J X.inner,.B GR,.own 1,.own 2,.J p],.rw ⟨3,1,Z⟩,.rw ⟨4,1,R⟩,.rw ⟨3,1,s.2.1⟩,.rw ⟨3,1,s.2.2⟩]) (fun z(s:S1×LLA×LLA)=>s.2.1=vw ak s.1.f/\s.2.2=vw ak s.1.m/\s.1.i=z/\s.1.m.length=X.xs.length/\(s.1.f.length:Int)<=z) (fun(s:S1×LLA×LLA) rest=>S1.go X.gr s.1 rest) (R1) (⟨0,[],sz,0⟩,[],Z) hw ⟨rfl,hZ,rfl,hs,by simp⟩ (Wk.weak (wkG [some 0,some 1,some 2,none,some 3] zr7 ⟨⟨_,_,rfl,rfl,rfl,rfl,.inr ⟨zr7,trivial⟩⟩,wqE rfl pZ,wqE rfl pR,⟨_,rfl,rfl⟩,wqE rfl pZ,trivial⟩)) (fun z s B hz h0 hi he=> ?_) (fun z s x rest B z0 z1 z2 hx hy h0 hi hc e1 hB=> ?_)
 rotate_left
 ·obtain⟨⟨i,f,m,a⟩,eF,eM⟩:=s
  obtain⟨b1,b2,b3,b4,b5⟩:=hi
  dsimp only at b1 b2 b3 b4 b5 h0
  subst b3
  obtain⟨x,b,s⟩:=x
  obtain⟨q1,q2,q3⟩:=zO X.xs fr sz i.toNat x b s (by rw [<-hY];exact hx)
  have pF:=pmV b1
  have pM:=pmV b2
  have xK:aC V=(X.xs.length:Int):=xm
  have xN:eF.length<=1048576:=by
   rw [b1,ao]
   omega
  have xO:i<aC eM:=by rw [b2,bg,b4,<-xK];exact z1
  have xP:i.toNat<m.length:=by rw [b4];omega
  cbv;rw [hc];cbv;refine goX hg _ z0 hy rfl ?_;cbv
  refine goY hg z0 (by rw [xH,<-xm];exact z1) fun j hj hQ=> ?_
  cbv
  refine⟨_,by rw [hj,hR];exact bv q2,?_⟩
  cases b<;>cbv
  ·refine fR hg rfl (by decide) xN ?_
   cbv
   refine goY hg z0 xO fun j hj hQ=> ?_
   cbv
   refine goN hg ⟨_,by rw [hj,b2];exact bv (zqc xP),rfl⟩ ?_
   cbv
   (first|refine bk hg (cz x GR) rfl (fun Q0 hb=> ?_)|refine aD hg (cz x GR) rfl (fun Q0 hb=> ?_));cbv
   rw [e1,ig hg,qI hg,aJ hg]
   have xp:eM.set j [.J x.base]=vw ak (m.set i.toNat x.base):=by rw [jp,b2,hj];rfl
   have xo:eF++[[.J i]]=vw ak (f++[i]):=by rw [dy,b1];rfl
   exact hB ((⟨i+1,f++[i],m.set i.toNat x.base,wrap64 (a+Q0)⟩,_,_)) _ _ ⟨(by simpa [S1.go,hb,hT]using h0),⟨xo,xp,rfl,by simpa using b4,by simp;omega⟩⟩ (Wk.weak (wkG [some 0,some 1,some 2,some _,some _] zr7 ⟨⟨_,_,rfl,rfl,rfl,rfl,.inr ⟨zr7,trivial⟩⟩,wqE rfl pZ,wqE rfl pR,⟨_,_,rfl,rfl,rfl,rfl,.inl ⟨rfl,xo.symm▸aF _ _⟩⟩,⟨_,_,rfl,rfl,rfl,rfl,.inl ⟨rfl,xp.symm▸aF _ _⟩⟩,trivial⟩))
  ·rw [e1]
   exact hB ((⟨i+1,f,m,a⟩,eF,eM)) _ _ ⟨(by simpa [S1.go]using h0),⟨b1,b2,rfl,b4,by dsimp only;omega⟩⟩ (Wk.weak (wkG [some 0,some 1,some 2,some 3,some 4] zr7 ⟨⟨_,_,rfl,rfl,rfl,rfl,.inr ⟨zr7,trivial⟩⟩,wqE rfl pZ,wqE rfl pR,wqE rfl pF,wqE rfl pM,trivial⟩))
 obtain⟨⟨i,f,m,a⟩,eF,eM⟩:=s
 obtain⟨b1,b2,b3,b4,b5⟩:=hi
 dsimp only at b1 b2 h0
 rw [xk]at h0
 simp only [S1.go,S1.mk.injEq]at h0
 obtain⟨-,h2,h3,h4⟩:=h0
 obtain rfl:FR=f:=h2.symm
 obtain rfl:MX=m:=h3.symm
 obtain rfl:AL=a:=h4.symm
 have xW:=kmV (k:=1) b1 fun _=>rfl
 have xw:=kmV (k:=1) b2 fun _=>rfl
 have xz:=dmV b1
 have xc:=dmV b2
 have x4:=pmV b1
 rw [<-b2]at co
 cbv;rw [he];cbv
 by_cases hn:FR=[]
 ·have e:g .q .eql (g .ln eF) 0=true:=by rw [bA hg,bO hg,b1,hn];rfl
  rw [e]
  cbv
  exact wU hF rfl rfl rfl zr7 pZ pR rfl ⟨_,rfl,p,sz,fr,by simp [hn],by rw [hZ,hR],by simp [hn],by simp [hn]⟩
 have e:g .q .eql (g .ln eF) 0=false:=by
  rw [bA hg,bO hg,b1,bg]
  have:FR.length≠0:=fun h=>hn (zqv h)
  simp;omega
 rw [e]
 cbv
 first|(refine uW hg co (ay (be rfl) (ay (bC (ab:=⟨_,_,eM⟩) rfl xw xc) (ay (be rfl) (aP)))) rfl ?_;cbv)|(refine oZ hg co (ay (be rfl) (ay (bC (ab:=⟨_,_,eM⟩) rfl xw xc) (ay (be rfl) (aP)))) rfl ?_;cbv)
 obtain⟨p1,xQ⟩:∃p1,p1=g .w .add .i64 p 1:=⟨_,rfl⟩
 rw [<-xQ]
 obtain⟨n,h9⟩:∃n,n=g .w .sub .i64 X.inner OV:=⟨_,rfl⟩
 rw [<-h9]
 rw [dP hg]at h9
 have xq:rt=if(GR=true/\n<0)\/(GR=false/\0<n)then 0 else sg n:=by rw [hT,xr,Fx.rI,Ae,h9,xg,h8]
 have t0:g .q .gtr n 0=decide (0<n):=by rw [dD hg]
 have t1:g .q .lss n 0=decide (n<0):=bF hg _ _
 have s0:sg 0=0:=by decide
 have r0:∀q,g .q .gtr n 0=q->GR=false->rt=sg (if q then 0 else n):=fun q h1 h2=>by
  rw [t0]at h1
  rw [xq,h2]
  cases q
  ·have:=of_decide_eq_false h1
   rw [if_neg (by simp;omega)];rfl
  ·have:=of_decide_eq_true h1
   rw [if_pos (by simp;omega)];exact s0.symm
 have r1:∀q,g .q .lss n 0=q->GR=true->rt=sg (if q then 0 else n):=fun q h1 h2=>by
  rw [t1]at h1
  rw [xq,h2]
  cases q
  ·have:=of_decide_eq_false h1
   rw [if_neg (by simp;omega)];rfl
  ·have:=of_decide_eq_true h1
   rw [if_pos (by simp;omega)];exact s0.symm
 obtain⟨LO,hE⟩:=nmE (X.low fr rt)
 obtain⟨HI,hC⟩:=nmE (X.hig fr rt)
 obtain⟨VI,hH⟩:=nmE (X.vio fr rt)
 obtain⟨WS,hU⟩:=nmE (X.ws fr)
 obtain⟨R2,xl⟩:=nmE (S2.mk LO HI VI WS)
 have xD:S2.go X AL rt ⟨[],[],0,[]⟩ FR=R2:=by
  rw [S2.go_eq,xl,hE,hC,hH,hU,hk,xe]
  simp [Fx.low,Fx.hig,Fx.vio,Fx.ws]
 have xL:=b1
 have xY:FR.length<=12:=by have:=jM fr 0;rw [<-hk,hf]at this;omega
 have h6:FR.length<=1048576:=by omega
 cases hG:GR<;>cbv
 rotate_left
 cases hq:g .q .lss n 0
 rotate_left 2
 cases hq:g .q .gtr n 0
 all_goals
  cbv
  (first|refine bk hg (bu _) rfl (fun R0 xj=> ?_)|refine aD hg (bu _) rfl (fun R0 xj=> ?_));cbv
  obtain rfl:rt=R0:=by rw [xj];first|exact r0 _ hq hG|exact r1 _ hq hG
  refine aU hg aB (by kernel_rfl) eF (fun x=>lc (ak x)) FR xL h6 (fun z(s:S2×LLA×LLA×LLA)=>[(0,.p 0),(3,.v eF),(5,.i (AL)),(8,.i (rt)),(9,.o 3),(10,.o 4),(11,.i (s.1.v)),(12,.o 5),(112,.v eF),(113,.i (g .ln eF)),(114,.i (z))]) (fun z(s:S2×LLA×LLA×LLA)=>[.bx 289 7 [.view V,.J X.gap,.J X.inner,.B GR,.own 1,.own 2,.J p1],.rw ⟨3,1,Z⟩,.rw ⟨4,1,R⟩,.rw ⟨3,1,s.2.1⟩,.rw ⟨3,1,s.2.2.1⟩,.rw ⟨3,1,s.2.2.2⟩]) (fun z(s:S2×LLA×LLA×LLA)=>s.2.1=vw ak s.1.l/\s.2.2.1=vw ak s.1.h/\s.2.2.2=vw ak s.1.w/\(s.1.l.length:Int)<=z/\(s.1.h.length:Int)<=z/\(s.1.w.length:Int)<=z) (fun(s:S2×LLA×LLA×LLA) rest=>S2.go X AL rt s.1 rest) (R2) (⟨[],[],0,[]⟩,[],[],[]) xD ⟨rfl,rfl,rfl,by simp,by simp,by simp⟩ (bS (sl1 3 eF) (kP rfl xW xz) (Wk.weak (wkG [some 0,some 1,some 2,none,none,none] zN ⟨⟨_,_,rfl,rfl,rfl,rfl,.inr ⟨⟨rfl,rfl,rfl,(by rw [hG];exact rfl),rfl,rfl,rfl,trivial⟩,trivial⟩⟩,⟨_,_,rfl,rfl,rfl,rfl,.inl (ce pZ)⟩,⟨_,_,rfl,rfl,rfl,rfl,.inl (ce pR)⟩,⟨_,rfl,rfl⟩,⟨_,rfl,rfl⟩,⟨_,rfl,rfl⟩,trivial⟩))) (fun z s B hz h0 hi he=> ?_) (fun z s x rest B z0 z1 z2 hx hy h0 hi hc e1 hB=> ?_)
  rotate_left
  ·obtain⟨⟨lo,hA,v,ws⟩,eL,eH,eW⟩:=s
   obtain⟨c1,c2,c3,c4,c5,c6⟩:=hi
   dsimp only at c1 c2 c3 c4 c5 c6 h0
   have hd:x∈fre 0 fr:=hk▸zqd hx
   have ho:=jL fr 0 (Int.le_refl 0) x hd
   obtain⟨y,hp⟩:=nmE (itA X.xs x)
   have hu:V[x.toNat]? =some (lc (aj.c y)):=by rw [hD,hp];exact bv (rk ho.1 (by rw [<-hf];omega))
   have xT:=ho.1
   have lL:eL.length<=1048576:=by rw [c1,ao];omega
   have lH:eH.length<=1048576:=by rw [c2,ao];omega
   have lW:eW.length<=1048576:=by rw [c3,ao];omega
   obtain⟨y0,y1,y2,y3,y4,y5,y6,y7,y8⟩:=y
   have aL:eL++[[.J x]]=vw ak (lo++[x]):=by rw [dy,c1];rfl
   have aH:eH++[[.J x]]=vw ak (hA++[x]):=by rw [dy,c2];rfl
   have aW:eW++[[.J (wgt GR ⟨y0,y1,y2,y3,y4,y5,y6,y7,y8⟩)]]=vw ak (ws++[wgt GR ⟨y0,y1,y2,y3,y4,y5,y6,y7,y8⟩]):=by rw [dy,c3];rfl
   have pL:=pmV c1
   have pH:=pmV c2
   cbv;rw [hc];cbv;refine goX hg _ z0 hy rfl ?_;cbv
   refine goX hg _ xT hu rfl ?_
   cbv
   (first|refine bk hg (cz ⟨y0,y1,y2,y3,y4,y5,y6,y7,y8⟩ GR) rfl (fun Q0 hb=> ?_)|refine aD hg (cz ⟨y0,y1,y2,y3,y4,y5,y6,y7,y8⟩ GR) rfl (fun Q0 hb=> ?_));cbv
   refine fR hg rfl (by decide) lW ?_
   cbv
   have xI:g .q .lss (g .w .add .i64 (g .w .mul .i64 y0 AL) (g .w .mul .i64 rt Q0)) (g .w .mul .i64 y1 AL)=n4 GR AL rt ⟨y0,y1,y2,y3,y4,y5,y6,y7,y8⟩:=by simp only [bF hg,aJ hg,ic hg,hb];rfl
   rw [xI]
   have hgo:S2.go X AL rt ⟨if n4 GR AL rt ⟨y0,y1,y2,y3,y4,y5,y6,y7,y8⟩then lo++[x]else lo,if !n4 GR AL rt ⟨y0,y1,y2,y3,y4,y5,y6,y7,y8⟩&&qH GR AL rt ⟨y0,y1,y2,y3,y4,y5,y6,y7,y8⟩then hA++[x]else hA,qG GR AL rt v ⟨y0,y1,y2,y3,y4,y5,y6,y7,y8⟩,ws++[wgt GR ⟨y0,y1,y2,y3,y4,y5,y6,y7,y8⟩]⟩ rest=R2:=by rw [hp,hT];exact h0
   cases hl:n4 GR AL rt ⟨y0,y1,y2,y3,y4,y5,y6,y7,y8⟩
   ·cbv
    cases h2:g .q .geq y2 0
    ·have hh:qH GR AL rt ⟨y0,y1,y2,y3,y4,y5,y6,y7,y8⟩=false:=by
      rw [iP hg]at h2
      have:=of_decide_eq_false h2
      simp [qH];omega
     have hv:qG GR AL rt v ⟨y0,y1,y2,y3,y4,y5,y6,y7,y8⟩=v:=by unfold qG;rw [hl,hh];rfl
     rw [hl,hh,hv]at hgo
     cbv
     rw [e1,ig hg,hb,aW]
     exact hB ((⟨lo,hA,v,ws++[wgt GR ⟨y0,y1,y2,y3,y4,y5,y6,y7,y8⟩]⟩,eL,eH,_)) _ _ ⟨hgo,⟨c1,c2,rfl,by dsimp only;omega,by dsimp only;omega,by simp;omega⟩⟩ (Wk.weak (wkG [some 0,some 1,some 2,some 3,some 4,some _] zN ⟨⟨_,_,rfl,rfl,rfl,rfl,.inr ⟨zr7,trivial⟩⟩,wqE rfl pZ,wqE rfl pR,wqE rfl pL,wqE rfl pH,⟨_,_,rfl,rfl,rfl,rfl,.inl ⟨rfl,aF _ _⟩⟩,trivial⟩))
    ·cbv
     (first|refine bk hg (dc ⟨y0,y1,y2,y3,y4,y5,y6,y7,y8⟩) rfl (fun Q1 xh=> ?_)|refine aD hg (dc ⟨y0,y1,y2,y3,y4,y5,y6,y7,y8⟩) rfl (fun Q1 xh=> ?_));cbv
     have xB:(decide (0<=y2))=true:=by rw [iP hg]at h2;exact h2
     have xJ:g .q .gtr (g .w .add .i64 (g .w .mul .i64 y0 AL) (g .w .mul .i64 rt Q0)) (g .w .mul .i64 Q1 AL)=qH GR AL rt ⟨y0,y1,y2,y3,y4,y5,y6,y7,y8⟩:=by simp only [dD hg,aJ hg,ic hg,hb,xh];unfold qH;rw [show(decide (0<=aj.most ⟨y0,y1,y2,y3,y4,y5,y6,y7,y8⟩))=true from xB,Bool.true_and];rfl
     rw [xJ]
     cases hh:qH GR AL rt ⟨y0,y1,y2,y3,y4,y5,y6,y7,y8⟩
     ·have hv:qG GR AL rt v ⟨y0,y1,y2,y3,y4,y5,y6,y7,y8⟩=v:=by unfold qG;rw [hl,hh];rfl
      rw [hl,hh,hv]at hgo
      cbv
      rw [e1,ig hg,hb,aW]
      exact hB ((⟨lo,hA,v,ws++[wgt GR ⟨y0,y1,y2,y3,y4,y5,y6,y7,y8⟩]⟩,eL,eH,_)) _ _ ⟨hgo,⟨c1,c2,rfl,by dsimp only;omega,by dsimp only;omega,by simp;omega⟩⟩ (Wk.weak (wkG [some 0,some 1,some 2,some 3,some 4,some _] zN ⟨⟨_,_,rfl,rfl,rfl,rfl,.inr ⟨zr7,trivial⟩⟩,wqE rfl pZ,wqE rfl pR,wqE rfl pL,wqE rfl pH,⟨_,_,rfl,rfl,rfl,rfl,.inl ⟨rfl,aF _ _⟩⟩,trivial⟩))
     ·cbv
      refine fR hg rfl (by decide) lH ?_
      cbv
      (first|refine bk hg (dc ⟨y0,y1,y2,y3,y4,y5,y6,y7,y8⟩) rfl (fun Q2 xi=> ?_)|refine aD hg (dc ⟨y0,y1,y2,y3,y4,y5,y6,y7,y8⟩) rfl (fun Q2 xi=> ?_));cbv
      have hv:g .w .sub .i64 v (g .w .sub .i64 (g .w .add .i64 (g .w .mul .i64 y0 AL) (g .w .mul .i64 rt Q0)) (g .w .mul .i64 Q2 AL))=qG GR AL rt v ⟨y0,y1,y2,y3,y4,y5,y6,y7,y8⟩:=by unfold qG;rw [hl,hh];simp only [dP hg,aJ hg,ic hg,hb,xi];rfl
      rw [hl,hh]at hgo
      rw [e1,hv]
      simp only [ig hg,hb,aW,aH]
      exact hB ((⟨lo,hA++[x],qG GR AL rt v ⟨y0,y1,y2,y3,y4,y5,y6,y7,y8⟩,ws++[wgt GR ⟨y0,y1,y2,y3,y4,y5,y6,y7,y8⟩]⟩,eL,_,_)) _ _ ⟨hgo,⟨c1,rfl,rfl,by dsimp only;omega,by simp;omega,by simp;omega⟩⟩ (Wk.weak (wkG [some 0,some 1,some 2,some 3,some _,some _] zN ⟨⟨_,_,rfl,rfl,rfl,rfl,.inr ⟨zr7,trivial⟩⟩,wqE rfl pZ,wqE rfl pR,wqE rfl pL,⟨_,_,rfl,rfl,rfl,rfl,.inl ⟨rfl,aF _ _⟩⟩,⟨_,_,rfl,rfl,rfl,rfl,.inl ⟨rfl,aF _ _⟩⟩,trivial⟩))
   ·cbv
    refine fR hg rfl (by decide) lL ?_
    cbv
    have hv:g .w .add .i64 v (g .w .sub .i64 (g .w .mul .i64 y1 AL) (g .w .add .i64 (g .w .mul .i64 y0 AL) (g .w .mul .i64 rt Q0)))=qG GR AL rt v ⟨y0,y1,y2,y3,y4,y5,y6,y7,y8⟩:=by unfold qG;rw [hl];simp only [dP hg,aJ hg,ic hg,hb];rfl
    rw [hl]at hgo
    rw [e1,hv]
    simp only [ig hg,hb,aW,aL]
    exact hB ((⟨lo++[x],hA,qG GR AL rt v ⟨y0,y1,y2,y3,y4,y5,y6,y7,y8⟩,ws++[wgt GR ⟨y0,y1,y2,y3,y4,y5,y6,y7,y8⟩]⟩,_,eH,_)) _ _ ⟨hgo,⟨rfl,c2,rfl,by simp;omega,by dsimp only;omega,by simp;omega⟩⟩ (Wk.weak (wkG [some 0,some 1,some 2,some _,some 4,some _] zN ⟨⟨_,_,rfl,rfl,rfl,rfl,.inr ⟨zr7,trivial⟩⟩,wqE rfl pZ,wqE rfl pR,⟨_,_,rfl,rfl,rfl,rfl,.inl ⟨rfl,aF _ _⟩⟩,wqE rfl pH,⟨_,_,rfl,rfl,rfl,rfl,.inl ⟨rfl,aF _ _⟩⟩,trivial⟩))
  ·obtain⟨⟨lo,hA,v,ws⟩,eL,eH,eW⟩:=s
   obtain⟨c1,c2,c3,-,-,-⟩:=hi
   dsimp only at c1 c2 c3 h0
   rw [xl]at h0
   simp only [S2.go,S2.mk.injEq]at h0
   obtain⟨g1,g2,g3,g4⟩:=h0
   obtain rfl:LO=lo:=g1.symm
   obtain rfl:HI=hA:=g2.symm
   obtain rfl:VI=v:=g3.symm
   obtain rfl:WS=ws:=g4.symm
   have xM:=c1
   have xn:=c2
   have pL:=pmV c1
   have pH:=pmV c2
   have xX:=kmV (k:=1) c1 fun _=>rfl
   have xv:=kmV (k:=1) c2 fun _=>rfl
   have xx:=kmV (k:=1) c3 fun _=>rfl
   have xA:=dmV c1
   have xb:=dmV c2
   have xd:=dmV c3
   have xf:LO.length<=1048576:=by have:=List.length_filter_le (fun i=>n4 X.gr (X.all fr) rt (itA X.xs i)) FR;rw [hE,Fx.low,<-hk];omega
   have h7:HI.length<=1048576:=by have:=List.length_filter_le (fun i=> !n4 X.gr (X.all fr) rt (itA X.xs i)&&qH X.gr (X.all fr) rt (itA X.xs i)) FR;rw [hC,Fx.hig,<-hk];omega
   have xS:g .q .eql (g .w .add .i64 (g .ln eL) (g .ln eH)) 0=decide (LO=[]/\HI=[]):=by
    rw [bA hg,aJ hg,bO hg,bO hg,c1,c2,bg,bg]
    exact xC xf h7
   cbv;rw [he];cbv
   rw [xS]
   by_cases hlh:LO=[]/\HI=[]
   ·rw [zqu hlh]
    cbv
    have x1:(shr rt WS).length=FR.length:=by rw [hU,hk];exact X.shr_len hX hf rt
    have cs:=ko rt WS (by rw [hU,Fx.ws,zql,<-hk];omega)
    obtain⟨ES,hr⟩:=nmE (vw ak (shr rt WS))
    obtain⟨qs,hW⟩:=nmE (FR.zip (shr rt WS))
    have xF:ES=qs.map fun p=>lc (ak p.2):=by
     rw [hr,hW,vw]
     conv=>lhs;rw [<-List.map_snd_zip (l₁:=FR) (l₂:=shr rt WS) (by omega)]
     rw [List.map_map];rfl
    have xR:qs.length<=1048576:=by rw [hW,zqB];omega
    have xu:=imV hr
    have xV:=kmV (k:=1) hr fun _=>rfl
    have xy:=dmV hr
    rw [<-c3,<-hr]at cs
    obtain⟨R3,hO⟩:=nmE (S3.go ⟨sz,fr⟩ (X.shs fr rt))
    have xE:S3.go ⟨sz,fr⟩ (qs.map fun p=>(p.1,cl (wrap64 ((itA X.xs p.1).base+p.2))))=R3:=by rw [hO,Fx.shs,hW,<-hk,<-hU]
    have xa:X.setI fr rt=X.shs fr rt:=by unfold Fx.setI;rw [<-hE,<-hC,if_pos hlh]
    first|(refine bQ hg cs (ay (be rfl) (ay (bC (ab:=⟨_,_,eW⟩) rfl xx xd) (aP))) xu ?_;cbv)|(refine dS hg cs (ay (be rfl) (ay (bC (ab:=⟨_,_,eW⟩) rfl xx xd) (aP))) xu ?_;cbv)
    refine aU hg aB (by kernel_rfl) ES (fun p=>lc (ak p.2)) qs xF xR (fun z(s:S3×LLA×LLA)=>[(0,.p 0),(3,.v eF),(195,.v ES),(196,.i (g .ln ES)),(197,.i (z))]) (fun z(s:S3×LLA×LLA)=>[.bx 289 7 [.view V,.J X.gap,.J X.inner,.B GR,.own 1,.own 2,.J p1],.rw ⟨3,1,s.2.1⟩,.rw ⟨4,1,s.2.2⟩]) (fun z(s:S3×LLA×LLA)=>s.2.1=vw ak s.1.s/\s.2.2=vw ow s.1.f/\s.1.s.length=X.xs.length/\s.1.f.length=X.xs.length) (fun(s:S3×LLA×LLA) rest=>S3.go s.1 (rest.map fun p=>(p.1,cl (wrap64 ((itA X.xs p.1).base+p.2))))) (R3) (⟨sz,fr⟩,Z,R) xE ⟨hZ,hR,hs,hf⟩ (bS (sl1 6 ES) (kP rfl xV xy) (Wk.weak (wkG [some 0,some 1,some 2] zr5 ⟨⟨_,_,rfl,rfl,rfl,rfl,.inr ⟨zr7,trivial⟩⟩,⟨_,_,rfl,rfl,rfl,rfl,.inl (ce pZ)⟩,⟨_,_,rfl,rfl,rfl,rfl,.inl (ce pR)⟩,trivial⟩))) (fun z s B hz h0 hi he=> ?_) (fun z s x rest B z0 z1 z2 hx hy h0 hi hc e1 hB=> ?_)
    ·obtain⟨⟨q,w⟩,eZ,eR⟩:=s
     obtain⟨k1,k2,k3,k4⟩:=hi
     dsimp only at k1 k2 k3 k4 h0
     cbv;rw [he];cbv
     have ha:S3.mk q w=R3:=h0
     rw [hO]at ha
     simp only [S3.go,S3.mk.injEq,<-xa]at ha
     exact wU hF rfl rfl rfl zr7 (by rw [k1];exact aF _ _) (by rw [k2];exact aF _ _) rfl ⟨_,rfl,p1,q,w,by simp [hn],by rw [k1,k2],by rw [if_neg hn];exact ha.1.symm▸rfl,by rw [if_neg hn];exact ha.2.symm▸rfl⟩
    ·obtain⟨i,sh⟩:=x
     have xt:FR[z.toNat]? =some i:=by
      rw [hW,List.getElem?_zip_eq_some]at hx
      exact hx.1
     have hd:i∈fre 0 fr:=hk▸zqd xt
     have xG:eF[z.toNat]? =some (lc (ak i)):=by rw [b1];exact bv xt
     obtain⟨⟨q,w⟩,eZ,eR⟩:=s
     obtain⟨k1,k2,k3,k4⟩:=hi
     dsimp only at k1 k2 k3 k4 h0
     have ho:=jL fr 0 (Int.le_refl 0) i hd
     have hm:=ho.1
     obtain⟨y,hp⟩:=nmE (itA X.xs i)
     have hu:V[i.toNat]? =some (lc (aj.c y)):=by rw [hD,hp];exact bv (rk ho.1 (by rw [<-hf];omega))
     have hI:i<aC eR:=by rw [k2,bg,k4,<-hf];omega
     have hJ:i<aC eZ:=by rw [k1,bg,k3,<-hf];omega
     have hL:i.toNat<w.length:=by rw [k4,<-hf];omega
     have hK:i.toNat<q.length:=by rw [k3,<-hf];omega
     have sR:eR.set i.toNat [.B true]=vw ow (w.set i.toNat true):=by rw [jp,k2];rfl
     have sZ:∀u:Int,eZ.set i.toNat [.J u]=vw ak (q.set i.toNat u):=fun u=>by rw [jp,k1];rfl
     obtain⟨y0,y1,y2,y3,y4,y5,y6,y7,y8⟩:=y
     cbv;rw [hc];cbv;refine goX hg _ z0 hy rfl ?_;cbv
     refine goX hg _ z0 xG rfl ?_
     cbv
     refine goY hg hm hI fun j hj hQ=> ?_
     cbv
     refine goN hg ⟨_,by rw [hj,k2];exact bv (zqc hL),rfl⟩ ?_
     cbv
     refine goX hg _ hm hu rfl ?_
     cbv
     (first|refine bk hg (aq _) rfl (fun Q0 hb=> ?_)|refine aD hg (aq _) rfl (fun Q0 hb=> ?_));cbv
     refine goY hg hm hJ fun j2 ht hM=> ?_
     cbv
     refine goN hg ⟨_,by rw [ht,k1];exact bv (zqc hK),rfl⟩ ?_
     cbv
     rw [e1]
     simp only [qI hg]
     subst hj ht
     exact hB ((⟨q.set i.toNat Q0,w.set i.toNat true⟩,_,_)) _ _ ⟨(by rw [hb,aJ hg];rw [<-h0,zqA,S3.go_cons,<-hp]),⟨sZ _,sR,by simpa using k3,by simpa using k4⟩⟩ (Wk.weak (wkG [some 0,some 1,some 2] zr5 ⟨⟨_,_,rfl,rfl,rfl,rfl,.inr ⟨zr7,trivial⟩⟩,⟨_,_,rfl,rfl,rfl,rfl,.inl ⟨rfl,(sZ _).symm▸aF _ _⟩⟩,⟨_,_,rfl,rfl,rfl,rfl,.inl ⟨rfl,sR.symm▸aF _ _⟩⟩,trivial⟩))
   ·rw [zqt hlh]
    cbv
    have tv:g .q .geq VI 0=decide (0<=VI):=iP hg _ _
    have tw:g .q .leq VI 0=decide (VI<=0):=iO hg _ _
    have hN:¬(X.low fr rt=[]/\X.hig fr rt=[]):=by rw [<-hE,<-hC];exact hlh
    obtain⟨R4,hP⟩:=nmE (S3.mk (vO (X.setI fr rt) sz) (ul ((X.setI fr rt).map (·.1)) fr))
    by_cases v0:0<=VI
    ·rw [tv,zqu v0]
     cbv
     obtain⟨R3,hO⟩:=nmE (S3.go ⟨sz,fr⟩ (LO.map fun i=>(i,(itA X.xs i).least)))
     refine aU hg aB (by kernel_rfl) eL (fun x=>lc (ak x)) LO xM xf (fun z(s:S3×LLA×LLA)=>[(0,.p 0),(10,.o 3),(11,.i (VI)),(232,.v eL),(233,.i (g .ln eL)),(234,.i (z))]) (fun z(s:S3×LLA×LLA)=>[.bx 289 7 [.view V,.J X.gap,.J X.inner,.B GR,.own 1,.own 2,.J p1],.rw ⟨3,1,s.2.1⟩,.rw ⟨4,1,s.2.2⟩,.rw ⟨3,1,eH⟩]) (fun z(s:S3×LLA×LLA)=>s.2.1=vw ak s.1.s/\s.2.2=vw ow s.1.f/\s.1.s.length=X.xs.length/\s.1.f.length=X.xs.length) (fun(s:S3×LLA×LLA) rest=>S3.go s.1 (rest.map fun i=>(i,(itA X.xs i).least))) (R3) (⟨sz,fr⟩,Z,R) hO.symm ⟨hZ,hR,hs,hf⟩ (bS (sl1 3 eL) (kP rfl xX xA) (Wk.weak (wkG [some 0,some 1,some 2,some 4] zr6 ⟨⟨_,_,rfl,rfl,rfl,rfl,.inr ⟨zr7,trivial⟩⟩,⟨_,_,rfl,rfl,rfl,rfl,.inl (ce pZ)⟩,⟨_,_,rfl,rfl,rfl,rfl,.inl (ce pR)⟩,⟨_,_,rfl,rfl,rfl,rfl,.inl (ce pH)⟩,trivial⟩))) (fun z s B hz h0 hi he=> ?_) (fun z s x rest B z0 z1 z2 hx hy h0 hi hc e1 hB=> ?_)
     rotate_left
     ·have hd:x∈fre 0 fr:=by
       have:=zqd hx
       rw [hE,Fx.low,<-hk]at this
       exact hk▸(List.mem_filter.1 this).1
      obtain⟨⟨q,w⟩,eZ,eR⟩:=s
      obtain⟨k1,k2,k3,k4⟩:=hi
      dsimp only at k1 k2 k3 k4 h0
      have ho:=jL fr 0 (Int.le_refl 0) x hd
      have hm:=ho.1
      obtain⟨y,hp⟩:=nmE (itA X.xs x)
      have hu:V[x.toNat]? =some (lc (aj.c y)):=by rw [hD,hp];exact bv (rk ho.1 (by rw [<-hf];omega))
      have hI:x<aC eR:=by rw [k2,bg,k4,<-hf];omega
      have hJ:x<aC eZ:=by rw [k1,bg,k3,<-hf];omega
      have hL:x.toNat<w.length:=by rw [k4,<-hf];omega
      have hK:x.toNat<q.length:=by rw [k3,<-hf];omega
      have sR:eR.set x.toNat [.B true]=vw ow (w.set x.toNat true):=by rw [jp,k2];rfl
      have sZ:∀u:Int,eZ.set x.toNat [.J u]=vw ak (q.set x.toNat u):=fun u=>by rw [jp,k1];rfl
      obtain⟨y0,y1,y2,y3,y4,y5,y6,y7,y8⟩:=y
      cbv;rw [hc];cbv;refine goX hg _ z0 hy rfl ?_;cbv
      refine goY hg hm hI fun j hj hQ=> ?_
      cbv
      refine goN hg ⟨_,by rw [hj,k2];exact bv (zqc hL),rfl⟩ ?_
      cbv
      refine goX hg _ hm hu rfl ?_
      cbv
      refine goY hg hm hJ fun j2 ht hM=> ?_
      cbv
      refine goN hg ⟨_,by rw [ht,k1];exact bv (zqc hK),rfl⟩ ?_
      cbv
      rw [e1]
      simp only [qI hg]
      subst hj ht
      exact hB ((⟨q.set x.toNat y1,w.set x.toNat true⟩,_,_)) _ _ ⟨(by rw [show y1=(itA X.xs x).least by rw [<-hp]];exact h0),⟨sZ _,sR,by simpa using k3,by simpa using k4⟩⟩ (Wk.weak (wkG [some 0,some 1,some 2,some 3] zr6 ⟨⟨_,_,rfl,rfl,rfl,rfl,.inr ⟨zr7,trivial⟩⟩,⟨_,_,rfl,rfl,rfl,rfl,.inl ⟨rfl,(sZ _).symm▸aF _ _⟩⟩,⟨_,_,rfl,rfl,rfl,rfl,.inl ⟨rfl,sR.symm▸aF _ _⟩⟩,wqE rfl pH,trivial⟩))
     ·obtain⟨⟨q,w⟩,eZ,eR⟩:=s
      obtain⟨k1,k2,k3,k4⟩:=hi
      dsimp only at k1 k2 k3 k4 h0
      have pq:=pmV k1
      have pw:=pmV k2
      have hS:S3.mk q w=R3:=h0
      cbv;rw [he];cbv
      by_cases v1:VI<=0
      ·rw [tw,zqu v1]
       cbv
       have h5:S3.go ⟨q,w⟩ (HI.map fun i=>(i,nQ (itA X.xs i)))=R4:=by
        rw [hS,hO,hP]
        exact X.setI_two fr rt sz hN _ _ (by rw [<-hH,if_pos v0,hE]) (by rw [<-hH,if_pos v1,hC])
       refine aU hg aB (by kernel_rfl) eH (fun x=>lc (ak x)) HI xn h7 (fun z(s:S3×LLA×LLA)=>[(0,.p 0),(261,.v eH),(262,.i (g .ln eH)),(263,.i (z))]) (fun z(s:S3×LLA×LLA)=>[.bx 289 7 [.view V,.J X.gap,.J X.inner,.B GR,.own 1,.own 2,.J p1],.rw ⟨3,1,s.2.1⟩,.rw ⟨4,1,s.2.2⟩]) (fun z(s:S3×LLA×LLA)=>s.2.1=vw ak s.1.s/\s.2.2=vw ow s.1.f/\s.1.s.length=X.xs.length/\s.1.f.length=X.xs.length) (fun(s:S3×LLA×LLA) rest=>S3.go s.1 (rest.map fun i=>(i,nQ (itA X.xs i)))) (R4) (⟨q,w⟩,eZ,eR) h5 ⟨k1,k2,k3,k4⟩ (bS (sl1 3 eH) (kP rfl xv xb) (Wk.weak (wkG [some 0,some 1,some 2] zr4 ⟨⟨_,_,rfl,rfl,rfl,rfl,.inr ⟨zr7,trivial⟩⟩,⟨_,_,rfl,rfl,rfl,rfl,.inl (ce pq)⟩,⟨_,_,rfl,rfl,rfl,rfl,.inl (ce pw)⟩,trivial⟩))) (fun z s B hz h0 hi he=> ?_) (fun z s x rest B z0 z1 z2 hx hy h0 hi hc e1 hB=> ?_)
       rotate_left
       ·have hd:x∈fre 0 fr:=by
         have:=zqd hx
         rw [hC,Fx.hig,<-hk]at this
         exact hk▸(List.mem_filter.1 this).1
        obtain⟨⟨q,w⟩,eZ,eR⟩:=s
        obtain⟨k1,k2,k3,k4⟩:=hi
        dsimp only at k1 k2 k3 k4 h0
        have ho:=jL fr 0 (Int.le_refl 0) x hd
        have hm:=ho.1
        obtain⟨y,hp⟩:=nmE (itA X.xs x)
        have hu:V[x.toNat]? =some (lc (aj.c y)):=by rw [hD,hp];exact bv (rk ho.1 (by rw [<-hf];omega))
        have hI:x<aC eR:=by rw [k2,bg,k4,<-hf];omega
        have hJ:x<aC eZ:=by rw [k1,bg,k3,<-hf];omega
        have hL:x.toNat<w.length:=by rw [k4,<-hf];omega
        have hK:x.toNat<q.length:=by rw [k3,<-hf];omega
        have sR:eR.set x.toNat [.B true]=vw ow (w.set x.toNat true):=by rw [jp,k2];rfl
        have sZ:∀u:Int,eZ.set x.toNat [.J u]=vw ak (q.set x.toNat u):=fun u=>by rw [jp,k1];rfl
        obtain⟨y0,y1,y2,y3,y4,y5,y6,y7,y8⟩:=y
        cbv;rw [hc];cbv;refine goX hg _ z0 hy rfl ?_;cbv
        refine goY hg hm hI fun j hj hQ=> ?_
        cbv
        refine goN hg ⟨_,by rw [hj,k2];exact bv (zqc hL),rfl⟩ ?_
        cbv
        refine goX hg _ hm hu rfl ?_
        cbv
        (first|refine bk hg (dc ⟨y0,y1,y2,y3,y4,y5,y6,y7,y8⟩) rfl (fun Q0 hb=> ?_)|refine aD hg (dc ⟨y0,y1,y2,y3,y4,y5,y6,y7,y8⟩) rfl (fun Q0 hb=> ?_));cbv
        refine goY hg hm hJ fun j2 ht hM=> ?_
        cbv
        refine goN hg ⟨_,by rw [ht,k1];exact bv (zqc hK),rfl⟩ ?_
        cbv
        rw [e1]
        simp only [qI hg]
        subst hj ht
        exact hB ((⟨q.set x.toNat Q0,w.set x.toNat true⟩,_,_)) _ _ ⟨(by rw [hb,hp];exact h0),⟨sZ _,sR,by simpa using k3,by simpa using k4⟩⟩ (Wk.weak (wkG [some 0,some 1,some 2] zr4 ⟨⟨_,_,rfl,rfl,rfl,rfl,.inr ⟨zr7,trivial⟩⟩,⟨_,_,rfl,rfl,rfl,rfl,.inl ⟨rfl,(sZ _).symm▸aF _ _⟩⟩,⟨_,_,rfl,rfl,rfl,rfl,.inl ⟨rfl,sR.symm▸aF _ _⟩⟩,trivial⟩))
       ·obtain⟨⟨q,w⟩,eZ,eR⟩:=s
        obtain⟨k1,k2,k3,k4⟩:=hi
        dsimp only at k1 k2 k3 k4 h0
        cbv;rw [he];cbv
        have ha:S3.mk q w=R4:=h0
        rw [hP]at ha
        simp only [S3.mk.injEq]at ha
        exact wU hF rfl rfl rfl zr7 (by rw [k1];exact aF _ _) (by rw [k2];exact aF _ _) rfl ⟨_,rfl,p1,q,w,by simp [hn],by rw [k1,k2],by rw [if_neg hn];exact ha.1,by rw [if_neg hn];exact ha.2⟩
      ·rw [tw,zqt v1]
       cbv
       have ha:S3.mk q w=R4:=by
        rw [hS,hO,hP]
        exact X.setI_two fr rt sz hN _ [] (by rw [<-hH,if_pos v0,hE]) (by rw [<-hH,if_neg v1])
       rw [hP]at ha
       simp only [S3.mk.injEq]at ha
       exact wU hF rfl rfl rfl zr7 (by rw [k1];exact aF _ _) (by rw [k2];exact aF _ _) rfl ⟨_,rfl,p1,q,w,by simp [hn],by rw [k1,k2],by rw [if_neg hn];exact ha.1,by rw [if_neg hn];exact ha.2⟩
    ·rw [tv,zqt v0]
     cbv
     rw [tw,zqu (by omega)]
     cbv
     have h5:S3.go ⟨sz,fr⟩ (HI.map fun i=>(i,nQ (itA X.xs i)))=R4:=by
      rw [hP]
      exact X.setI_two fr rt sz hN [] _ (by rw [<-hH,if_neg v0]) (by rw [<-hH,if_pos (by omega),hC])
     refine aU hg aB (by kernel_rfl) eH (fun x=>lc (ak x)) HI xn h7 (fun z(s:S3×LLA×LLA)=>[(0,.p 0),(261,.v eH),(262,.i (g .ln eH)),(263,.i (z))]) (fun z(s:S3×LLA×LLA)=>[.bx 289 7 [.view V,.J X.gap,.J X.inner,.B GR,.own 1,.own 2,.J p1],.rw ⟨3,1,s.2.1⟩,.rw ⟨4,1,s.2.2⟩]) (fun z(s:S3×LLA×LLA)=>s.2.1=vw ak s.1.s/\s.2.2=vw ow s.1.f/\s.1.s.length=X.xs.length/\s.1.f.length=X.xs.length) (fun(s:S3×LLA×LLA) rest=>S3.go s.1 (rest.map fun i=>(i,nQ (itA X.xs i)))) (R4) (⟨sz,fr⟩,Z,R) h5 ⟨hZ,hR,hs,hf⟩ (bS (sl1 4 eH) (kP rfl xv xb) (Wk.weak (wkG [some 0,some 1,some 2] zr4 ⟨⟨_,_,rfl,rfl,rfl,rfl,.inr ⟨zr7,trivial⟩⟩,⟨_,_,rfl,rfl,rfl,rfl,.inl (ce pZ)⟩,⟨_,_,rfl,rfl,rfl,rfl,.inl (ce pR)⟩,trivial⟩))) (fun z s B hz h0 hi he=> ?_) (fun z s x rest B z0 z1 z2 hx hy h0 hi hc e1 hB=> ?_)
     rotate_left
     ·have hd:x∈fre 0 fr:=by
       have:=zqd hx
       rw [hC,Fx.hig,<-hk]at this
       exact hk▸(List.mem_filter.1 this).1
      obtain⟨⟨q,w⟩,eZ,eR⟩:=s
      obtain⟨k1,k2,k3,k4⟩:=hi
      dsimp only at k1 k2 k3 k4 h0
      have ho:=jL fr 0 (Int.le_refl 0) x hd
      have hm:=ho.1
      obtain⟨y,hp⟩:=nmE (itA X.xs x)
      have hu:V[x.toNat]? =some (lc (aj.c y)):=by rw [hD,hp];exact bv (rk ho.1 (by rw [<-hf];omega))
      have hI:x<aC eR:=by rw [k2,bg,k4,<-hf];omega
      have hJ:x<aC eZ:=by rw [k1,bg,k3,<-hf];omega
      have hL:x.toNat<w.length:=by rw [k4,<-hf];omega
      have hK:x.toNat<q.length:=by rw [k3,<-hf];omega
      have sR:eR.set x.toNat [.B true]=vw ow (w.set x.toNat true):=by rw [jp,k2];rfl
      have sZ:∀u:Int,eZ.set x.toNat [.J u]=vw ak (q.set x.toNat u):=fun u=>by rw [jp,k1];rfl
      obtain⟨y0,y1,y2,y3,y4,y5,y6,y7,y8⟩:=y
      cbv;rw [hc];cbv;refine goX hg _ z0 hy rfl ?_;cbv
      refine goY hg hm hI fun j hj hQ=> ?_
      cbv
      refine goN hg ⟨_,by rw [hj,k2];exact bv (zqc hL),rfl⟩ ?_
      cbv
      refine goX hg _ hm hu rfl ?_
      cbv
      (first|refine bk hg (dc ⟨y0,y1,y2,y3,y4,y5,y6,y7,y8⟩) rfl (fun Q0 hb=> ?_)|refine aD hg (dc ⟨y0,y1,y2,y3,y4,y5,y6,y7,y8⟩) rfl (fun Q0 hb=> ?_));cbv
      refine goY hg hm hJ fun j2 ht hM=> ?_
      cbv
      refine goN hg ⟨_,by rw [ht,k1];exact bv (zqc hK),rfl⟩ ?_
      cbv
      rw [e1]
      simp only [qI hg]
      subst hj ht
      exact hB ((⟨q.set x.toNat Q0,w.set x.toNat true⟩,_,_)) _ _ ⟨(by rw [hb,hp];exact h0),⟨sZ _,sR,by simpa using k3,by simpa using k4⟩⟩ (Wk.weak (wkG [some 0,some 1,some 2] zr4 ⟨⟨_,_,rfl,rfl,rfl,rfl,.inr ⟨zr7,trivial⟩⟩,⟨_,_,rfl,rfl,rfl,rfl,.inl ⟨rfl,(sZ _).symm▸aF _ _⟩⟩,⟨_,_,rfl,rfl,rfl,rfl,.inl ⟨rfl,sR.symm▸aF _ _⟩⟩,trivial⟩))
     ·obtain⟨⟨q,w⟩,eZ,eR⟩:=s
      obtain⟨k1,k2,k3,k4⟩:=hi
      dsimp only at k1 k2 k3 k4 h0
      cbv;rw [he];cbv
      have ha:S3.mk q w=R4:=h0
      rw [hP]at ha
      simp only [S3.mk.injEq]at ha
      exact wU hF rfl rfl rfl zr7 (by rw [k1];exact aF _ _) (by rw [k2];exact aF _ _) rfl ⟨_,rfl,p1,q,w,by simp [hn],by rw [k1,k2],by rw [if_neg hn];exact ha.1,by rw [if_neg hn];exact ha.2⟩
end Go.Proofs.YtckchgoblpgpbaaGreat
