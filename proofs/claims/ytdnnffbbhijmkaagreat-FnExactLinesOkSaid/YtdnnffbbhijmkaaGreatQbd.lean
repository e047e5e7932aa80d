/- The program's passes over a line that flexes, as maps of data. -/
import Derived.Test.YtdnnffbbhijmkaaGreatQbc
set_option linter.unusedVariables false
set_option linter.unusedSimpArgs false
set_option maxHeartbeats 3200000
namespace Go.Proofs.YtdnnffbbhijmkaaGreat
open Go.ChangeShapes Go.WideShapes Go.ChangeAt Go.RowKit Am Go.Proofs.Tryz
set_option maxRecDepth 100000
abbrev kg:Bool→Array Value:=fun b=> #[.bool b]
def Fx.bx(X:Fx)(p:Int):List AC:=[.view (vw ah.c X.xs),.J X.gap,.J X.inner,.B X.gr,.own 1,.own 2,.J p]
structure S1 where
 i:Int
 f:List Int
 m:List Int
 a:Int
def S1.go(gr:Bool):S1→List (ah×Bool×Int)→S1
 |s,[]=>s
 |s,(x,f,_)::r=>S1.go gr (if f then⟨s.i+1,s.f,s.m,s.a⟩else⟨s.i+1,s.f++[s.i],s.m.set s.i.toNat x.base,wrap64 (s.a+wgt gr x)⟩) r
def zc(xs:List ah)(fr:List Bool)(sz:List Int):List (ah×Bool×Int):=xs.zip (fr.zip sz)
theorem iq{α:Type}(c:α→Array Value)(xs:List α)(j:Nat)(x:α):vw c (xs.set j x)=(vw c xs).set j (lc (c x)):=by simp [vw]
theorem S1.go_eq(X:Fx):∀(xs:List ah)(fr:List Bool)(sz:List Int)(dn:List Int)(f:List Int)(a:Int),fr.length=xs.length→sz.length=xs.length→(∀j:Nat,j<xs.length→itA X.xs ((dn.length:Int)+(j:Int))=xs[j]?.getD ⟨0,0,0,0,0,0,0,false,false⟩)→
  S1.go X.gr ⟨dn.length,f,dn++sz,a⟩ (zc xs fr sz)=⟨(dn.length:Int)+xs.length,f++fre dn.length fr,dn++mix xs fr sz,oA a ((fre dn.length fr).map fun i=>wgt X.gr (itA X.xs i))⟩
 | [],[],[],dn,f,a,_,_,_=>by simp [zc,S1.go,fre,mix,oA]
 | [],_::_,_,_,_,_,h,_,_=>by simp at h
 | [],[],_::_,_,_,_,_,h,_=>by simp at h
 |_::_,[],_,_,_,_,h,_,_=>by simp at h
 |_::_,_::_,[],_,_,_,_,h,_=>by simp at h
 |x::xs,b::fr,s::sz,dn,f,a,h1,h2,h3=>by
  have hx:itA X.xs (dn.length:Int)=x:=by have:=h3 0 (by simp);simpa using this
  have h4:∀v:Int,∀j:Nat,j<xs.length→itA X.xs (((dn++[v]).length:Int)+(j:Int))=xs[j]?.getD ⟨0,0,0,0,0,0,0,false,false⟩:=fun v j hj=>by
   have:=h3 (j+1) (by simp;omega)
   simp only [List.getElem?_cons_succ]at this
   rw [←this]
   congr 1
   simp only [zqe,zqm]
   omega
  have ih:=fun v f a=>S1.go_eq X xs fr sz (dn++[v]) f a (by simpa using h1) (by simpa using h2) (h4 v)
  have el:∀v:Int,((dn++[v]).length:Int)=dn.length+1:=fun v=>by simp
  have ed:∀(v:Int)(l:List Int),(dn++[v])++l=dn++v::l:=fun v l=>by simp
  have hz:zc (x::xs) (b::fr) (s::sz)=(x,b,s)::zc xs fr sz:=rfl
  rw [hz]
  cases b with
  |true=>
   simp only [S1.go,if_true,fre,mix]
   have:=ih s f a
   rw [el,ed,ed]at this
   rw [this,zqx]
   congr 1
   omega
  |false=>
   simp only [S1.go,Bool.false_eq_true,if_false,fre,mix]
   have:=ih x.base (f++[(dn.length:Int)]) (wrap64 (a+wgt X.gr x))
   rw [el,ed,ed]at this
   have e1:(dn++s::sz).set ((dn.length:Int)).toNat x.base=dn++x.base::sz:=by simp
   rw [e1,this,zqx,zqA,oA,hx,zqC]
   congr 1
   omega
theorem S1.all_(X:Fx){fr:List Bool}{sz:List Int}(hf:fr.length=X.xs.length)(hs:sz.length=X.xs.length):S1.go X.gr ⟨0,[],sz,0⟩ (zc X.xs fr sz)=⟨X.xs.length,fre 0 fr,mix X.xs fr sz,X.all fr⟩:=by
 have:=S1.go_eq X X.xs fr sz [] [] 0 hf hs (fun j hj=>by simp [itA])
 simpa [Fx.all,Fx.ws]using this
structure S2 where
 l:List Int
 h:List Int
 v:Int
 w:List Int
def S2.go(X:Fx)(A r:Int):S2→List Int→S2
 |s,[]=>s
 |s,i::is=>S2.go X A r ⟨if pg X.gr A r (itA X.xs i)then s.l++[i]else s.l,if !pg X.gr A r (itA X.xs i)&&uu X.gr A r (itA X.xs i)then s.h++[i]else s.h,uN X.gr A r s.v (itA X.xs i),s.w++[wgt X.gr (itA X.xs i)]⟩ is
theorem S2.go_eq(X:Fx)(A r:Int):∀(is:List Int)(s:S2),S2.go X A r s is=⟨s.l++is.filter fun i=>pg X.gr A r (itA X.xs i),s.h++is.filter fun i=> !pg X.gr A r (itA X.xs i)&&uu X.gr A r (itA X.xs i),is.foldl (fun v i=>uN X.gr A r v (itA X.xs i)) s.v,s.w++is.map fun i=>wgt X.gr (itA X.xs i)⟩
 | [],s=>by simp [S2.go]
 |i::is,s=>by
  rw [S2.go,S2.go_eq X A r is]
  simp only [List.filter_cons,zqA,List.foldl_cons]
  congr 1
  ·split<;>simp_all
  ·split<;>simp_all
  ·simp
structure S3 where
 s:List Int
 f:List Bool
def S3.go(s:S3)(ps:List (Int×Int)):S3:=⟨o1 ps s.s,oD (ps.map (·.1)) s.f⟩
theorem S3.go_cons(s:S3)(p:Int×Int)(ps:List (Int×Int)):S3.go s (p::ps)=S3.go ⟨s.s.set p.1.toNat p.2,s.f.set p.1.toNat true⟩ ps:=rfl
theorem sY:∀(xs:List ah)(fr:List Bool)(sz:List Int),fr.length=xs.length→sz.length=xs.length→(zc xs fr sz).map (·.1)=xs
 | [],_,_,_,_=>rfl
 |x::xs,b::fr,s::sz,h1,h2=>by
  show x::(zc xs fr sz).map (·.1)=_
  rw [sY xs fr sz (by simpa using h1) (by simpa using h2)]
 |_::_,[],_,h,_=>by simp at h
 |_::_,_::_,[],_,h=>by simp at h
theorem Dl(xs:List ah)(fr:List Bool)(sz:List Int)(n:Nat)(x:ah)(b:Bool)(s:Int)(h:(zc xs fr sz)[n]? =some (x,b,s)):xs[n]? =some x∧fr[n]? =some b∧sz[n]? =some s:=by
 unfold zc at h
 rw [List.getElem?_zip_eq_some,List.getElem?_zip_eq_some]at h
 exact h
theorem oI{xs:List ah}{i:Int}(h0:0≤i)(h1:i<xs.length):xs[i.toNat]? =some (itA xs i):=by
 unfold itA
 rw [zqc (by omega)]
 rfl
theorem Bp(a b:List (Int×Int))(l:List Int):o1 (a++b) l=o1 b (o1 a l):=List.foldl_append ..
theorem Bq(a b:List Int)(l:List Bool):oD (a++b) l=oD b (oD a l):=List.foldl_append ..
theorem Fx.setI_two(X:Fx)(fr:List Bool)(rt:Int)(sz:List Int)(h:¬(X.low fr rt=[]∧X.hig fr rt=[]))(A B:List (Int×Int))(hA:A=if 0≤X.vio fr rt then(X.low fr rt).map fun i=>(i,(itA X.xs i).least)else [])(hB:B=if X.vio fr rt≤0 then(X.hig fr rt).map fun i=>(i,mj (itA X.xs i))else []):
  S3.go (S3.go ⟨sz,fr⟩ A) B=⟨o1 (X.setI fr rt) sz,oD ((X.setI fr rt).map (·.1)) fr⟩:=by
 unfold Fx.setI
 rw [if_neg h,←hA,←hB,List.map_append,Bp,Bq]
 rfl
theorem Bl{a b:List Int}(ha:a.length≤1048576)(hb:b.length≤1048576):(wrap64 ((a.length:Int)+(b.length:Int))==0)=decide (a=[]∧b=[]):=by
 have e:wrap64 ((a.length:Int)+(b.length:Int))=(a.length:Int)+(b.length:Int):=by unfold wrap64;omega
 rw [e]
 by_cases hc:a=[]∧b=[]
 ·rw [hc.1,hc.2];rfl
 ·rw [zqt hc,zqr]
  intro hz
  exact hc ⟨zqv (by omega),zqv (by omega)⟩
theorem il(ws:List Int)(hl:ws.length≤1048576):cY prog 255 [.c (.view (vw ao ws))] fun res rows=>res= .o 0∧rows=[⟨3,1,vw ao ws⟩]:=by
 obtain⟨V,hV⟩:=nmE (vw ao ws)
 have hVl:V.length=ws.length:=by rw [hV,af]
 have iV:bR V=true:=by rw [hV];exact aG _ _
 have kV:∀y∈V,y.length=1:=by rw [hV];exact bC (c:=ao) (k:=1) fun _=>rfl
 have dV:∀y∈V,y.all dat=true:=by rw [hV];exact az
 have pV:aj V=true:=by rw [hV];exact ag _ _
 rw [←hV]
 refine ae (aK f255) aD func255 fun g F hg hF=> ?_
 cbv
 refine goN hg ⟨kV,by omega,by omega⟩ ?_
 cbv
 rw [gG hg]
 exact bP hF rfl pV
theorem lV(X:Fx)(hX:dT X.xs=true)(sz:List Int)(fr:List Bool)(hs:sz.length=X.xs.length)(hf:fr.length=X.xs.length)(p:Int):
  Con prog 346 (toH [.bx 282 7 (X.bx p),.rw ⟨3,1,vw ao sz⟩,.rw ⟨4,1,vw kg fr⟩]) [.c (.ptr 0 0 0)] fun res h'=>∃eh,toH eh=h'∧∃p' sz' fr',
   res= .t (abl (decide (fre 0 fr≠[])))∧eh=[.bx 282 7 (X.bx p'),.rw ⟨3,1,vw ao sz'⟩,.rw ⟨4,1,vw kg fr'⟩]∧
   sz'=(if fre 0 fr=[]then sz else o1 (X.setI fr (X.rI fr sz)) sz)∧fr'=(if fre 0 fr=[]then fr else oD ((X.setI fr (X.rI fr sz)).map (·.1)) fr):=by
 have hall:=S1.all_ X hf hs
 obtain⟨hxo,hxl⟩:=eG hX
 obtain⟨zs,hzs⟩:=nmE (zc X.xs fr sz)
 have hV:vw ah.c X.xs=zs.map fun t=>lc (ah.c t.1):=by
  rw [hzs,vw,←sY X.xs fr sz hf hs,List.map_map];simp [sY X.xs fr sz hf hs]
 have hzl:zs.length≤1048576:=by rw [hzs,zc];simp [hs,hf];omega
 rw [←hzs]at hall
 obtain⟨V,hV0⟩:=nmE (vw ah.c X.xs)
 obtain⟨Z,hZ⟩:=nmE (vw ao sz)
 have hZl:Z.length=sz.length:=by rw [hZ,af]
 have iZ:bR Z=true:=by rw [hZ];exact aG _ _
 have kZ:∀y∈Z,y.length=1:=by rw [hZ];exact bC (c:=ao) (k:=1) fun _=>rfl
 have dZ:∀y∈Z,y.all dat=true:=by rw [hZ];exact az
 obtain⟨R,hR⟩:=nmE (vw kg fr)
 obtain⟨FR,hFR⟩:=nmE (fre 0 fr)
 obtain⟨MX,hMX⟩:=nmE (mix X.xs fr sz)
 obtain⟨AL,hAL⟩:=nmE (X.all fr)
 obtain⟨rt,hrt⟩:=nmE (X.rI fr sz)
 obtain⟨GR,hGR⟩:=nmE X.gr
 have hMl:MX.length=X.xs.length:=by rw [hMX];exact zZ _ _ _ hf hs
 have pZ:aj Z=true:=by rw [hZ];exact ag _ _
 have pR:aj R=true:=by rw [hR];exact ag _ _
 have hRl:bg R=(X.xs.length:Int):=by rw [hR,aN,hf]
 have cc:=il sz (by omega)
 have co:=eX X.xs MX X.gap (by omega) (by omega)
 obtain⟨OV,hOV⟩:=nmE (wrap64 (ic X.xs MX X.gap))
 simp only [Fx.bx,←hV0,←hZ,←hR,←hOV,←hGR]at cc co⊢
 rw [←hV0]at hV
 rw [←hFR,←hMX,←hAL]at hall
 rw [←hFR,←hrt]
 have hVl:bg V=(X.xs.length:Int):=by rw [hV0,aN]
 obtain⟨R1,hR1⟩:=nmE (S1.mk (X.xs.length:Int) FR MX AL)
 rw [←hR1]at hall
 refine wT (c:=aK f346) aD func346 (by kernel_rfl) (by kernel_rfl) (bl (by rfl)) (by kernel_rfl) fun g F hg hF=> ?_
 replace hg:g=G0 prog 3 f346.ntmps:=hg
 replace hF:F=nR 3 _:=hF
 cbv
 first|(refine bB hg cc (aq (bi (ab:=⟨_,_,Z⟩) rfl kZ dZ) (aF)) iZ ?_;cbv)|(refine bN hg cc (aq (bi (ab:=⟨_,_,Z⟩) rfl kZ dZ) (aF)) iZ ?_;cbv)
 refine aY hg aD (by kernel_rfl) V (fun t=>lc (ah.c t.1)) zs hV hzl (fun z(s:S1×LLA×LLA)=>[(0,.p 0),(3,.o 3),(4,.o 4),(5,.i (s.1.a)),(33,.v V),(34,.i (g .ln V)),(35,.i (z))]) (fun z(s:S1×LLA×LLA)=>[.bx 282 7 [.view V,.J X.gap,.J X.inner,.B GR,.own 1,.own 2,.J p],.rw ⟨3,1,Z⟩,.rw ⟨4,1,R⟩,.rw ⟨3,1,s.2.1⟩,.rw ⟨3,1,s.2.2⟩]) (fun z(s:S1×LLA×LLA)=>s.2.1=vw ao s.1.f∧s.2.2=vw ao s.1.m∧s.1.i=z∧s.1.m.length=X.xs.length∧(s.1.f.length:Int)≤z) (fun(s:S1×LLA×LLA) rest=>S1.go X.gr s.1 rest) (R1) (⟨0,[],sz,0⟩,[],Z) hall ⟨rfl,hZ,rfl,hs,by simp⟩ (Wk.weak (wkG [some 0,some 1,some 2,none,some 3] ⟨rfl,rfl,rfl,rfl,rfl,rfl,rfl,trivial⟩ ⟨⟨_,_,rfl,rfl,rfl,rfl,.inr ⟨⟨rfl,rfl,rfl,rfl,rfl,rfl,rfl,trivial⟩,trivial⟩⟩,wqE rfl pZ,wqE rfl pR,⟨_,rfl,rfl⟩,wqE rfl pZ,trivial⟩ (by decide) (by decide))) (fun z s B hz h0 hi he=> ?_) (fun z s x rest B z0 z1 z2 hx hy h0 hi hc e1 hB=> ?_)
 rotate_left
 ·obtain⟨⟨i,f,m,a⟩,eF,eM⟩:=s
  obtain⟨b1,b2,b3,b4,b5⟩:=hi
  dsimp only at b1 b2 b3 b4 b5 h0
  subst b3
  obtain⟨x,b,s⟩:=x
  obtain⟨q1,q2,q3⟩:=Dl X.xs fr sz i.toNat x b s (by rw [←hzs];exact hx)
  have pF:aj eF=true:=by rw [b1];exact ag _ _
  have pM:aj eM=true:=by rw [b2];exact ag _ _
  have hVx:bg V=(X.xs.length:Int):=hVl
  have hel:eF.length≤1048576:=by
   rw [b1,af]
   omega
  have hml:i<bg eM:=by rw [b2,aN,b4,←hVx];exact z1
  have hmn:i.toNat<m.length:=by rw [b4];omega
  cbv;rw [hc];cbv;refine goX hg _ z0 hy rfl ?_;cbv
  refine goY hg z0 (by rw [hRl,←hVl];exact z1) fun j hj hjl=> ?_
  cbv
  refine⟨_,by rw [hj,hR];exact bh q2,?_⟩
  cases b<;>cbv
  ·refine dl hg rfl (by decide) hel ?_
   cbv
   refine goY hg z0 hml fun j hj hjl=> ?_
   cbv
   refine goN hg ⟨_,by rw [hj,b2];exact bh (zqc hmn),rfl⟩ ?_
   cbv
   (first|refine bq hg (dB x GR) rfl (fun Q0 hQ0=> ?_)|refine aX hg (dB x GR) rfl (fun Q0 hQ0=> ?_));cbv
   rw [e1,gG hg,mH hg,aM hg]
   have hm':eM.set j [.J x.base]=vw ao (m.set i.toNat x.base):=by rw [iq,b2,hj];rfl
   have hf':eF++[[.J i]]=vw ao (f++[i]):=by rw [bA,b1];rfl
   exact hB ((⟨i+1,f++[i],m.set i.toNat x.base,wrap64 (a+Q0)⟩,_,_)) _ _ ⟨(by simpa [S1.go,hQ0,hGR]using h0),⟨hf',hm',rfl,by simpa using b4,by simp;omega⟩⟩ (Wk.weak (wkG [some 0,some 1,some 2,some _,some _] ⟨rfl,rfl,rfl,rfl,rfl,rfl,rfl,trivial⟩ ⟨⟨_,_,rfl,rfl,rfl,rfl,.inr ⟨⟨rfl,rfl,rfl,rfl,rfl,rfl,rfl,trivial⟩,trivial⟩⟩,wqE rfl pZ,wqE rfl pR,⟨_,_,rfl,rfl,rfl,rfl,.inl ⟨rfl,hf'.symm▸ag _ _⟩⟩,⟨_,_,rfl,rfl,rfl,rfl,.inl ⟨rfl,hm'.symm▸ag _ _⟩⟩,trivial⟩ (by decide) (by decide)))
  ·rw [e1]
   exact hB ((⟨i+1,f,m,a⟩,eF,eM)) _ _ ⟨(by simpa [S1.go]using h0),⟨b1,b2,rfl,b4,by dsimp only;omega⟩⟩ (Wk.weak (wkG [some 0,some 1,some 2,some 3,some 4] ⟨rfl,rfl,rfl,rfl,rfl,rfl,rfl,trivial⟩ ⟨⟨_,_,rfl,rfl,rfl,rfl,.inr ⟨⟨rfl,rfl,rfl,rfl,rfl,rfl,rfl,trivial⟩,trivial⟩⟩,wqE rfl pZ,wqE rfl pR,wqE rfl pF,wqE rfl pM,trivial⟩ (by decide) (by decide)))
 obtain⟨⟨i,f,m,a⟩,eF,eM⟩:=s
 obtain⟨b1,b2,b3,b4,b5⟩:=hi
 dsimp only at b1 b2 h0
 rw [hR1]at h0
 simp only [S1.go,S1.mk.injEq]at h0
 obtain⟨-,h2,h3,h4⟩:=h0
 obtain rfl:FR=f:=h2.symm
 obtain rfl:MX=m:=h3.symm
 obtain rfl:AL=a:=h4.symm
 have keF:∀y∈eF,y.length=1:=by rw [b1];exact bC (c:=ao) (k:=1) fun _=>rfl
 have keM:∀y∈eM,y.length=1:=by rw [b2];exact bC (c:=ao) (k:=1) fun _=>rfl
 have deF:∀y∈eF,y.all dat=true:=by rw [b1];exact az
 have deM:∀y∈eM,y.all dat=true:=by rw [b2];exact az
 have peF:aj eF=true:=by rw [b1];exact ag _ _
 rw [←b2]at co
 cbv;rw [he];cbv
 by_cases hn:FR=[]
 ·have e:g .q .eql (g .ln eF) 0=true:=by rw [bv hg,bD hg,b1,hn];rfl
  rw [e]
  cbv
  exact wO hF rfl rfl rfl ⟨rfl,rfl,rfl,rfl,rfl,rfl,rfl,trivial⟩ pZ pR rfl ⟨_,rfl,p,sz,fr,by simp [hn],by rw [hZ,hR],by simp [hn],by simp [hn]⟩
 have e:g .q .eql (g .ln eF) 0=false:=by
  rw [bv hg,bD hg,b1,aN]
  have:FR.length≠0:=fun h=>hn (zqv h)
  simp;omega
 rw [e]
 cbv
 first|(refine gR hg co (aq (ay rfl) (aq (bi (ab:=⟨_,_,eM⟩) rfl keM deM) (aq (ay rfl) (aF)))) rfl ?_;cbv)|(refine eN hg co (aq (ay rfl) (aq (bi (ab:=⟨_,_,eM⟩) rfl keM deM) (aq (ay rfl) (aF)))) rfl ?_;cbv)
 obtain⟨p1,hp1⟩:∃p1,p1=g .w .add .i64 p 1:=⟨_,rfl⟩
 rw [←hp1]
 obtain⟨n,hnn⟩:∃n,n=g .w .sub .i64 X.inner OV:=⟨_,rfl⟩
 rw [←hnn]
 rw [dd hg]at hnn
 have hrN:rt=if(GR=true∧n<0)∨(GR=false∧0<n)then 0 else sg n:=by rw [hGR,hrt,Fx.rI,uO,hnn,hOV,hMX]
 have t0:g .q .gtr n 0=decide (0<n):=by rw [cj hg]
 have t1:g .q .lss n 0=decide (n<0):=bn hg _ _
 have s0:sg 0=0:=by decide
 have r0:∀q,g .q .gtr n 0=q→GR=false→rt=sg (if q then 0 else n):=fun q h1 h2=>by
  rw [t0]at h1
  rw [hrN,h2]
  cases q
  ·have:=of_decide_eq_false h1
   rw [if_neg (by simp;omega)];rfl
  ·have:=of_decide_eq_true h1
   rw [if_pos (by simp;omega)];exact s0.symm
 have r1:∀q,g .q .lss n 0=q→GR=true→rt=sg (if q then 0 else n):=fun q h1 h2=>by
  rw [t1]at h1
  rw [hrN,h2]
  cases q
  ·have:=of_decide_eq_false h1
   rw [if_neg (by simp;omega)];rfl
  ·have:=of_decide_eq_true h1
   rw [if_pos (by simp;omega)];exact s0.symm
 obtain⟨LO,hLO⟩:=nmE (X.low fr rt)
 obtain⟨HI,hHI⟩:=nmE (X.hig fr rt)
 obtain⟨VI,hVI⟩:=nmE (X.vio fr rt)
 obtain⟨WS,hWS⟩:=nmE (X.ws fr)
 obtain⟨R2,hR2⟩:=nmE (S2.mk LO HI VI WS)
 have h20:S2.go X AL rt ⟨[],[],0,[]⟩ FR=R2:=by
  rw [S2.go_eq,hR2,hLO,hHI,hVI,hWS,hFR,hAL]
  simp [Fx.low,Fx.hig,Fx.vio,Fx.ws]
 have heF:=b1
 have hFl:FR.length≤12:=by have:=jE fr 0;rw [←hFR,hf]at this;omega
 have hFl0:FR.length≤1048576:=by omega
 cases hG:GR<;>cbv
 rotate_left
 cases hq:g .q .lss n 0
 rotate_left 2
 cases hq:g .q .gtr n 0
 all_goals
  cbv
  (first|refine bq hg (cu _) rfl (fun R0 hR0=> ?_)|refine aX hg (cu _) rfl (fun R0 hR0=> ?_));cbv
  obtain rfl:rt=R0:=by rw [hR0];first|exact r0 _ hq hG|exact r1 _ hq hG
  refine aY hg aD (by kernel_rfl) eF (fun x=>lc (ao x)) FR heF hFl0 (fun z(s:S2×LLA×LLA×LLA)=>[(0,.p 0),(3,.v eF),(5,.i (AL)),(8,.i (rt)),(9,.o 3),(10,.o 4),(11,.i (s.1.v)),(12,.o 5),(112,.v eF),(113,.i (g .ln eF)),(114,.i (z))]) (fun z(s:S2×LLA×LLA×LLA)=>[.bx 282 7 [.view V,.J X.gap,.J X.inner,.B GR,.own 1,.own 2,.J p1],.rw ⟨3,1,Z⟩,.rw ⟨4,1,R⟩,.rw ⟨3,1,s.2.1⟩,.rw ⟨3,1,s.2.2.1⟩,.rw ⟨3,1,s.2.2.2⟩]) (fun z(s:S2×LLA×LLA×LLA)=>s.2.1=vw ao s.1.l∧s.2.2.1=vw ao s.1.h∧s.2.2.2=vw ao s.1.w∧(s.1.l.length:Int)≤z∧(s.1.h.length:Int)≤z∧(s.1.w.length:Int)≤z) (fun(s:S2×LLA×LLA×LLA) rest=>S2.go X AL rt s.1 rest) (R2) (⟨[],[],0,[]⟩,[],[],[]) h20 ⟨rfl,rfl,rfl,by simp,by simp,by simp⟩ (bH (sl1 3 eF) (jb rfl keF deF) (Wk.weak (wkG [some 0,some 1,some 2,none,none,none] ⟨rfl,rfl,rfl,rfl,rfl,rfl,rfl,rfl,rfl,rfl,rfl,trivial⟩ ⟨⟨_,_,rfl,rfl,rfl,rfl,.inr ⟨⟨rfl,rfl,rfl,(by rw [hG];exact rfl),rfl,rfl,rfl,trivial⟩,trivial⟩⟩,⟨_,_,rfl,rfl,rfl,rfl,.inl (bG pZ)⟩,⟨_,_,rfl,rfl,rfl,rfl,.inl (bG pR)⟩,⟨_,rfl,rfl⟩,⟨_,rfl,rfl⟩,⟨_,rfl,rfl⟩,trivial⟩ (by decide) (by decide)))) (fun z s B hz h0 hi he=> ?_) (fun z s x rest B z0 z1 z2 hx hy h0 hi hc e1 hB=> ?_)
  rotate_left
  ·obtain⟨⟨lo,hi_,v,ws⟩,eL,eH,eW⟩:=s
   obtain⟨c1,c2,c3,c4,c5,c6⟩:=hi
   dsimp only at c1 c2 c3 c4 c5 c6 h0
   have hmem:x∈fre 0 fr:=hFR▸zqd hx
   have hfm:=gP fr 0 (Int.le_refl 0) x hmem
   obtain⟨y,hyd⟩:=nmE (itA X.xs x)
   have hVy:V[x.toNat]? =some (lc (ah.c y)):=by rw [hV0,hyd];exact bh (oI hfm.1 (by rw [←hf];omega))
   have hx0:=hfm.1
   have lL:eL.length≤1048576:=by rw [c1,af];omega
   have lH:eH.length≤1048576:=by rw [c2,af];omega
   have lW:eW.length≤1048576:=by rw [c3,af];omega
   obtain⟨y0,y1,y2,y3,y4,y5,y6,y7,y8⟩:=y
   have aL:eL++[[.J x]]=vw ao (lo++[x]):=by rw [bA,c1];rfl
   have aH:eH++[[.J x]]=vw ao (hi_++[x]):=by rw [bA,c2];rfl
   have aW:eW++[[.J (wgt GR ⟨y0,y1,y2,y3,y4,y5,y6,y7,y8⟩)]]=vw ao (ws++[wgt GR ⟨y0,y1,y2,y3,y4,y5,y6,y7,y8⟩]):=by rw [bA,c3];rfl
   have pL:aj eL=true:=by rw [c1];exact ag _ _
   have pH:aj eH=true:=by rw [c2];exact ag _ _
   cbv;rw [hc];cbv;refine goX hg _ z0 hy rfl ?_;cbv
   refine goX hg _ hx0 hVy rfl ?_
   cbv
   (first|refine bq hg (dB ⟨y0,y1,y2,y3,y4,y5,y6,y7,y8⟩ GR) rfl (fun Q0 hQ0=> ?_)|refine aX hg (dB ⟨y0,y1,y2,y3,y4,y5,y6,y7,y8⟩ GR) rfl (fun Q0 hQ0=> ?_));cbv
   refine dl hg rfl (by decide) lW ?_
   cbv
   have hT1:g .q .lss (g .w .add .i64 (g .w .mul .i64 y0 AL) (g .w .mul .i64 rt Q0)) (g .w .mul .i64 y1 AL)=pg GR AL rt ⟨y0,y1,y2,y3,y4,y5,y6,y7,y8⟩:=by simp only [bn hg,aM hg,fO hg,hQ0];rfl
   rw [hT1]
   have hgo:S2.go X AL rt ⟨if pg GR AL rt ⟨y0,y1,y2,y3,y4,y5,y6,y7,y8⟩then lo++[x]else lo,if !pg GR AL rt ⟨y0,y1,y2,y3,y4,y5,y6,y7,y8⟩&&uu GR AL rt ⟨y0,y1,y2,y3,y4,y5,y6,y7,y8⟩then hi_++[x]else hi_,uN GR AL rt v ⟨y0,y1,y2,y3,y4,y5,y6,y7,y8⟩,ws++[wgt GR ⟨y0,y1,y2,y3,y4,y5,y6,y7,y8⟩]⟩ rest=R2:=by rw [hyd,hGR];exact h0
   cases hl:pg GR AL rt ⟨y0,y1,y2,y3,y4,y5,y6,y7,y8⟩
   ·cbv
    cases h2:g .q .geq y2 0
    ·have hh:uu GR AL rt ⟨y0,y1,y2,y3,y4,y5,y6,y7,y8⟩=false:=by
      rw [gO hg]at h2
      have:=of_decide_eq_false h2
      simp [uu];omega
     have hv:uN GR AL rt v ⟨y0,y1,y2,y3,y4,y5,y6,y7,y8⟩=v:=by unfold uN;rw [hl,hh];rfl
     rw [hl,hh,hv]at hgo
     cbv
     rw [e1,gG hg,hQ0,aW]
     exact hB ((⟨lo,hi_,v,ws++[wgt GR ⟨y0,y1,y2,y3,y4,y5,y6,y7,y8⟩]⟩,eL,eH,_)) _ _ ⟨hgo,⟨c1,c2,rfl,by dsimp only;omega,by dsimp only;omega,by simp;omega⟩⟩ (Wk.weak (wkG [some 0,some 1,some 2,some 3,some 4,some _] ⟨rfl,rfl,rfl,rfl,rfl,rfl,rfl,rfl,rfl,rfl,rfl,trivial⟩ ⟨⟨_,_,rfl,rfl,rfl,rfl,.inr ⟨⟨rfl,rfl,rfl,rfl,rfl,rfl,rfl,trivial⟩,trivial⟩⟩,wqE rfl pZ,wqE rfl pR,wqE rfl pL,wqE rfl pH,⟨_,_,rfl,rfl,rfl,rfl,.inl ⟨rfl,ag _ _⟩⟩,trivial⟩ (by decide) (by decide)))
    ·cbv
     (first|refine bq hg (dr ⟨y0,y1,y2,y3,y4,y5,y6,y7,y8⟩) rfl (fun Q1 hQ1=> ?_)|refine aX hg (dr ⟨y0,y1,y2,y3,y4,y5,y6,y7,y8⟩) rfl (fun Q1 hQ1=> ?_));cbv
     have h2':(decide (0≤y2))=true:=by rw [gO hg]at h2;exact h2
     have hT2:g .q .gtr (g .w .add .i64 (g .w .mul .i64 y0 AL) (g .w .mul .i64 rt Q0)) (g .w .mul .i64 Q1 AL)=uu GR AL rt ⟨y0,y1,y2,y3,y4,y5,y6,y7,y8⟩:=by simp only [cj hg,aM hg,fO hg,hQ0,hQ1];unfold uu;rw [show(decide (0≤ah.most ⟨y0,y1,y2,y3,y4,y5,y6,y7,y8⟩))=true from h2',Bool.true_and];rfl
     rw [hT2]
     cases hh:uu GR AL rt ⟨y0,y1,y2,y3,y4,y5,y6,y7,y8⟩
     ·have hv:uN GR AL rt v ⟨y0,y1,y2,y3,y4,y5,y6,y7,y8⟩=v:=by unfold uN;rw [hl,hh];rfl
      rw [hl,hh,hv]at hgo
      cbv
      rw [e1,gG hg,hQ0,aW]
      exact hB ((⟨lo,hi_,v,ws++[wgt GR ⟨y0,y1,y2,y3,y4,y5,y6,y7,y8⟩]⟩,eL,eH,_)) _ _ ⟨hgo,⟨c1,c2,rfl,by dsimp only;omega,by dsimp only;omega,by simp;omega⟩⟩ (Wk.weak (wkG [some 0,some 1,some 2,some 3,some 4,some _] ⟨rfl,rfl,rfl,rfl,rfl,rfl,rfl,rfl,rfl,rfl,rfl,trivial⟩ ⟨⟨_,_,rfl,rfl,rfl,rfl,.inr ⟨⟨rfl,rfl,rfl,rfl,rfl,rfl,rfl,trivial⟩,trivial⟩⟩,wqE rfl pZ,wqE rfl pR,wqE rfl pL,wqE rfl pH,⟨_,_,rfl,rfl,rfl,rfl,.inl ⟨rfl,ag _ _⟩⟩,trivial⟩ (by decide) (by decide)))
     ·cbv
      refine dl hg rfl (by decide) lH ?_
      cbv
      (first|refine bq hg (dr ⟨y0,y1,y2,y3,y4,y5,y6,y7,y8⟩) rfl (fun Q2 hQ2=> ?_)|refine aX hg (dr ⟨y0,y1,y2,y3,y4,y5,y6,y7,y8⟩) rfl (fun Q2 hQ2=> ?_));cbv
      have hv:g .w .sub .i64 v (g .w .sub .i64 (g .w .add .i64 (g .w .mul .i64 y0 AL) (g .w .mul .i64 rt Q0)) (g .w .mul .i64 Q2 AL))=uN GR AL rt v ⟨y0,y1,y2,y3,y4,y5,y6,y7,y8⟩:=by unfold uN;rw [hl,hh];simp only [dd hg,aM hg,fO hg,hQ0,hQ2];rfl
      rw [hl,hh]at hgo
      rw [e1,hv]
      simp only [gG hg,hQ0,aW,aH]
      exact hB ((⟨lo,hi_++[x],uN GR AL rt v ⟨y0,y1,y2,y3,y4,y5,y6,y7,y8⟩,ws++[wgt GR ⟨y0,y1,y2,y3,y4,y5,y6,y7,y8⟩]⟩,eL,_,_)) _ _ ⟨hgo,⟨c1,rfl,rfl,by dsimp only;omega,by simp;omega,by simp;omega⟩⟩ (Wk.weak (wkG [some 0,some 1,some 2,some 3,some _,some _] ⟨rfl,rfl,rfl,rfl,rfl,rfl,rfl,rfl,rfl,rfl,rfl,trivial⟩ ⟨⟨_,_,rfl,rfl,rfl,rfl,.inr ⟨⟨rfl,rfl,rfl,rfl,rfl,rfl,rfl,trivial⟩,trivial⟩⟩,wqE rfl pZ,wqE rfl pR,wqE rfl pL,⟨_,_,rfl,rfl,rfl,rfl,.inl ⟨rfl,ag _ _⟩⟩,⟨_,_,rfl,rfl,rfl,rfl,.inl ⟨rfl,ag _ _⟩⟩,trivial⟩ (by decide) (by decide)))
   ·cbv
    refine dl hg rfl (by decide) lL ?_
    cbv
    have hv:g .w .add .i64 v (g .w .sub .i64 (g .w .mul .i64 y1 AL) (g .w .add .i64 (g .w .mul .i64 y0 AL) (g .w .mul .i64 rt Q0)))=uN GR AL rt v ⟨y0,y1,y2,y3,y4,y5,y6,y7,y8⟩:=by unfold uN;rw [hl];simp only [dd hg,aM hg,fO hg,hQ0];rfl
    rw [hl]at hgo
    rw [e1,hv]
    simp only [gG hg,hQ0,aW,aL]
    exact hB ((⟨lo++[x],hi_,uN GR AL rt v ⟨y0,y1,y2,y3,y4,y5,y6,y7,y8⟩,ws++[wgt GR ⟨y0,y1,y2,y3,y4,y5,y6,y7,y8⟩]⟩,_,eH,_)) _ _ ⟨hgo,⟨rfl,c2,rfl,by simp;omega,by dsimp only;omega,by simp;omega⟩⟩ (Wk.weak (wkG [some 0,some 1,some 2,some _,some 4,some _] ⟨rfl,rfl,rfl,rfl,rfl,rfl,rfl,rfl,rfl,rfl,rfl,trivial⟩ ⟨⟨_,_,rfl,rfl,rfl,rfl,.inr ⟨⟨rfl,rfl,rfl,rfl,rfl,rfl,rfl,trivial⟩,trivial⟩⟩,wqE rfl pZ,wqE rfl pR,⟨_,_,rfl,rfl,rfl,rfl,.inl ⟨rfl,ag _ _⟩⟩,wqE rfl pH,⟨_,_,rfl,rfl,rfl,rfl,.inl ⟨rfl,ag _ _⟩⟩,trivial⟩ (by decide) (by decide)))
  ·obtain⟨⟨lo,hi_,v,ws⟩,eL,eH,eW⟩:=s
   obtain⟨c1,c2,c3,-,-,-⟩:=hi
   dsimp only at c1 c2 c3 h0
   rw [hR2]at h0
   simp only [S2.go,S2.mk.injEq]at h0
   obtain⟨g1,g2,g3,g4⟩:=h0
   obtain rfl:LO=lo:=g1.symm
   obtain rfl:HI=hi_:=g2.symm
   obtain rfl:VI=v:=g3.symm
   obtain rfl:WS=ws:=g4.symm
   have heL:=c1
   have heH:=c2
   have pL:aj eL=true:=by rw [c1];exact ag _ _
   have pH:aj eH=true:=by rw [c2];exact ag _ _
   have keL:∀y∈eL,y.length=1:=by rw [c1];exact bC (c:=ao) (k:=1) fun _=>rfl
   have keH:∀y∈eH,y.length=1:=by rw [c2];exact bC (c:=ao) (k:=1) fun _=>rfl
   have keW:∀y∈eW,y.length=1:=by rw [c3];exact bC (c:=ao) (k:=1) fun _=>rfl
   have deL:∀y∈eL,y.all dat=true:=by rw [c1];exact az
   have deH:∀y∈eH,y.all dat=true:=by rw [c2];exact az
   have deW:∀y∈eW,y.all dat=true:=by rw [c3];exact az
   have hLl:LO.length≤1048576:=by have:=List.length_filter_le (fun i=>pg X.gr (X.all fr) rt (itA X.xs i)) FR;rw [hLO,Fx.low,←hFR];omega
   have hHl:HI.length≤1048576:=by have:=List.length_filter_le (fun i=> !pg X.gr (X.all fr) rt (itA X.xs i)&&uu X.gr (X.all fr) rt (itA X.xs i)) FR;rw [hHI,Fx.hig,←hFR];omega
   have hte:g .q .eql (g .w .add .i64 (g .ln eL) (g .ln eH)) 0=decide (LO=[]∧HI=[]):=by
    rw [bv hg,aM hg,bD hg,bD hg,c1,c2,aN,aN]
    exact Bl hLl hHl
   cbv;rw [he];cbv
   rw [hte]
   by_cases hlh:LO=[]∧HI=[]
   ·rw [zqu hlh]
    cbv
    have hsl:(shr rt WS).length=FR.length:=by rw [hWS,hFR];exact X.shr_len hX hf rt
    have cs:=nC rt WS (by rw [hWS,Fx.ws,zql,←hFR];omega)
    obtain⟨ES,hES'⟩:=nmE (vw ao (shr rt WS))
    obtain⟨qs,hqs⟩:=nmE (FR.zip (shr rt WS))
    have hES:ES=qs.map fun p=>lc (ao p.2):=by
     rw [hES',hqs,vw]
     conv=>lhs;rw [←List.map_snd_zip (l₁:=FR) (l₂:=shr rt WS) (by omega)]
     rw [List.map_map];rfl
    have hql:qs.length≤1048576:=by rw [hqs,zqB];omega
    have iES:bR ES=true:=by rw [hES'];exact aG _ _
    have kES:∀y∈ES,y.length=1:=by rw [hES'];exact bC (c:=ao) (k:=1) fun _=>rfl
    have dES:∀y∈ES,y.all dat=true:=by rw [hES'];exact az
    rw [←c3,←hES']at cs
    obtain⟨R3,hR3⟩:=nmE (S3.go ⟨sz,fr⟩ (X.shs fr rt))
    have h30:S3.go ⟨sz,fr⟩ (qs.map fun p=>(p.1,cl (wrap64 ((itA X.xs p.1).base+p.2))))=R3:=by rw [hR3,Fx.shs,hqs,←hFR,←hWS]
    have hset:X.setI fr rt=X.shs fr rt:=by unfold Fx.setI;rw [←hLO,←hHI,if_pos hlh]
    first|(refine bB hg cs (aq (ay rfl) (aq (bi (ab:=⟨_,_,eW⟩) rfl keW deW) (aF))) iES ?_;cbv)|(refine bN hg cs (aq (ay rfl) (aq (bi (ab:=⟨_,_,eW⟩) rfl keW deW) (aF))) iES ?_;cbv)
    refine aY hg aD (by kernel_rfl) ES (fun p=>lc (ao p.2)) qs hES hql (fun z(s:S3×LLA×LLA)=>[(0,.p 0),(3,.v eF),(195,.v ES),(196,.i (g .ln ES)),(197,.i (z))]) (fun z(s:S3×LLA×LLA)=>[.bx 282 7 [.view V,.J X.gap,.J X.inner,.B GR,.own 1,.own 2,.J p1],.rw ⟨3,1,s.2.1⟩,.rw ⟨4,1,s.2.2⟩]) (fun z(s:S3×LLA×LLA)=>s.2.1=vw ao s.1.s∧s.2.2=vw kg s.1.f∧s.1.s.length=X.xs.length∧s.1.f.length=X.xs.length) (fun(s:S3×LLA×LLA) rest=>S3.go s.1 (rest.map fun p=>(p.1,cl (wrap64 ((itA X.xs p.1).base+p.2))))) (R3) (⟨sz,fr⟩,Z,R) h30 ⟨hZ,hR,hs,hf⟩ (bH (sl1 6 ES) (jb rfl kES dES) (Wk.weak (wkG [some 0,some 1,some 2] ⟨rfl,rfl,rfl,rfl,rfl,trivial⟩ ⟨⟨_,_,rfl,rfl,rfl,rfl,.inr ⟨⟨rfl,rfl,rfl,rfl,rfl,rfl,rfl,trivial⟩,trivial⟩⟩,⟨_,_,rfl,rfl,rfl,rfl,.inl (bG pZ)⟩,⟨_,_,rfl,rfl,rfl,rfl,.inl (bG pR)⟩,trivial⟩ (by decide) (by decide)))) (fun z s B hz h0 hi he=> ?_) (fun z s x rest B z0 z1 z2 hx hy h0 hi hc e1 hB=> ?_)
    ·obtain⟨⟨q,w⟩,eZ,eR⟩:=s
     obtain⟨k1,k2,k3,k4⟩:=hi
     dsimp only at k1 k2 k3 k4 h0
     cbv;rw [he];cbv
     have hfin:S3.mk q w=R3:=h0
     rw [hR3]at hfin
     simp only [S3.go,S3.mk.injEq,←hset]at hfin
     exact wO hF rfl rfl rfl ⟨rfl,rfl,rfl,rfl,rfl,rfl,rfl,trivial⟩ (by rw [k1];exact ag _ _) (by rw [k2];exact ag _ _) rfl ⟨_,rfl,p1,q,w,by simp [hn],by rw [k1,k2],by rw [if_neg hn];exact hfin.1.symm▸rfl,by rw [if_neg hn];exact hfin.2.symm▸rfl⟩
    ·obtain⟨i,sh⟩:=x
     have hx2:FR[z.toNat]? =some i:=by
      rw [hqs,List.getElem?_zip_eq_some]at hx
      exact hx.1
     have hmem:i∈fre 0 fr:=hFR▸zqd hx2
     have hFz:eF[z.toNat]? =some (lc (ao i)):=by rw [b1];exact bh hx2
     obtain⟨⟨q,w⟩,eZ,eR⟩:=s
     obtain⟨k1,k2,k3,k4⟩:=hi
     dsimp only at k1 k2 k3 k4 h0
     have hfm:=gP fr 0 (Int.le_refl 0) i hmem
     have hi0:=hfm.1
     obtain⟨y,hyd⟩:=nmE (itA X.xs i)
     have hVy:V[i.toNat]? =some (lc (ah.c y)):=by rw [hV0,hyd];exact bh (oI hfm.1 (by rw [←hf];omega))
     have hiR:i<bg eR:=by rw [k2,aN,k4,←hf];omega
     have hiZ:i<bg eZ:=by rw [k1,aN,k3,←hf];omega
     have hiw:i.toNat<w.length:=by rw [k4,←hf];omega
     have hiq:i.toNat<q.length:=by rw [k3,←hf];omega
     have sR:eR.set i.toNat [.B true]=vw kg (w.set i.toNat true):=by rw [iq,k2];rfl
     have sZ:∀u:Int,eZ.set i.toNat [.J u]=vw ao (q.set i.toNat u):=fun u=>by rw [iq,k1];rfl
     obtain⟨y0,y1,y2,y3,y4,y5,y6,y7,y8⟩:=y
     cbv;rw [hc];cbv;refine goX hg _ z0 hy rfl ?_;cbv
     refine goX hg _ z0 hFz rfl ?_
     cbv
     refine goY hg hi0 hiR fun j hj hjl=> ?_
     cbv
     refine goN hg ⟨_,by rw [hj,k2];exact bh (zqc hiw),rfl⟩ ?_
     cbv
     refine goX hg _ hi0 hVy rfl ?_
     cbv
     (first|refine bq hg (bf _) rfl (fun Q0 hQ0=> ?_)|refine aX hg (bf _) rfl (fun Q0 hQ0=> ?_));cbv
     refine goY hg hi0 hiZ fun j2 hj2 hjl2=> ?_
     cbv
     refine goN hg ⟨_,by rw [hj2,k1];exact bh (zqc hiq),rfl⟩ ?_
     cbv
     rw [e1]
     simp only [mH hg]
     subst hj hj2
     exact hB ((⟨q.set i.toNat Q0,w.set i.toNat true⟩,_,_)) _ _ ⟨(by rw [hQ0,aM hg];rw [←h0,zqA,S3.go_cons,←hyd]),⟨sZ _,sR,by simpa using k3,by simpa using k4⟩⟩ (Wk.weak (wkG [some 0,some 1,some 2] ⟨rfl,rfl,rfl,rfl,rfl,trivial⟩ ⟨⟨_,_,rfl,rfl,rfl,rfl,.inr ⟨⟨rfl,rfl,rfl,rfl,rfl,rfl,rfl,trivial⟩,trivial⟩⟩,⟨_,_,rfl,rfl,rfl,rfl,.inl ⟨rfl,(sZ _).symm▸ag _ _⟩⟩,⟨_,_,rfl,rfl,rfl,rfl,.inl ⟨rfl,sR.symm▸ag _ _⟩⟩,trivial⟩ (by decide) (by decide)))
   ·rw [zqt hlh]
    cbv
    have tv:g .q .geq VI 0=decide (0≤VI):=gO hg _ _
    have tw:g .q .leq VI 0=decide (VI≤0):=ip hg _ _
    have hlh':¬(X.low fr rt=[]∧X.hig fr rt=[]):=by rw [←hLO,←hHI];exact hlh
    obtain⟨R4,hR4⟩:=nmE (S3.mk (o1 (X.setI fr rt) sz) (oD ((X.setI fr rt).map (·.1)) fr))
    by_cases v0:0≤VI
    ·rw [tv,zqu v0]
     cbv
     obtain⟨R3,hR3⟩:=nmE (S3.go ⟨sz,fr⟩ (LO.map fun i=>(i,(itA X.xs i).least)))
     refine aY hg aD (by kernel_rfl) eL (fun x=>lc (ao x)) LO heL hLl (fun z(s:S3×LLA×LLA)=>[(0,.p 0),(10,.o 3),(11,.i (VI)),(232,.v eL),(233,.i (g .ln eL)),(234,.i (z))]) (fun z(s:S3×LLA×LLA)=>[.bx 282 7 [.view V,.J X.gap,.J X.inner,.B GR,.own 1,.own 2,.J p1],.rw ⟨3,1,s.2.1⟩,.rw ⟨4,1,s.2.2⟩,.rw ⟨3,1,eH⟩]) (fun z(s:S3×LLA×LLA)=>s.2.1=vw ao s.1.s∧s.2.2=vw kg s.1.f∧s.1.s.length=X.xs.length∧s.1.f.length=X.xs.length) (fun(s:S3×LLA×LLA) rest=>S3.go s.1 (rest.map fun i=>(i,(itA X.xs i).least))) (R3) (⟨sz,fr⟩,Z,R) hR3.symm ⟨hZ,hR,hs,hf⟩ (bH (sl1 3 eL) (jb rfl keL deL) (Wk.weak (wkG [some 0,some 1,some 2,some 4] ⟨rfl,rfl,rfl,rfl,rfl,rfl,trivial⟩ ⟨⟨_,_,rfl,rfl,rfl,rfl,.inr ⟨⟨rfl,rfl,rfl,rfl,rfl,rfl,rfl,trivial⟩,trivial⟩⟩,⟨_,_,rfl,rfl,rfl,rfl,.inl (bG pZ)⟩,⟨_,_,rfl,rfl,rfl,rfl,.inl (bG pR)⟩,⟨_,_,rfl,rfl,rfl,rfl,.inl (bG pH)⟩,trivial⟩ (by decide) (by decide)))) (fun z s B hz h0 hi he=> ?_) (fun z s x rest B z0 z1 z2 hx hy h0 hi hc e1 hB=> ?_)
     rotate_left
     ·have hmem:x∈fre 0 fr:=by
       have:=zqd hx
       rw [hLO,Fx.low,←hFR]at this
       exact hFR▸(List.mem_filter.1 this).1
      obtain⟨⟨q,w⟩,eZ,eR⟩:=s
      obtain⟨k1,k2,k3,k4⟩:=hi
      dsimp only at k1 k2 k3 k4 h0
      have hfm:=gP fr 0 (Int.le_refl 0) x hmem
      have hi0:=hfm.1
      obtain⟨y,hyd⟩:=nmE (itA X.xs x)
      have hVy:V[x.toNat]? =some (lc (ah.c y)):=by rw [hV0,hyd];exact bh (oI hfm.1 (by rw [←hf];omega))
      have hiR:x<bg eR:=by rw [k2,aN,k4,←hf];omega
      have hiZ:x<bg eZ:=by rw [k1,aN,k3,←hf];omega
      have hiw:x.toNat<w.length:=by rw [k4,←hf];omega
      have hiq:x.toNat<q.length:=by rw [k3,←hf];omega
      have sR:eR.set x.toNat [.B true]=vw kg (w.set x.toNat true):=by rw [iq,k2];rfl
      have sZ:∀u:Int,eZ.set x.toNat [.J u]=vw ao (q.set x.toNat u):=fun u=>by rw [iq,k1];rfl
      obtain⟨y0,y1,y2,y3,y4,y5,y6,y7,y8⟩:=y
      cbv;rw [hc];cbv;refine goX hg _ z0 hy rfl ?_;cbv
      refine goY hg hi0 hiR fun j hj hjl=> ?_
      cbv
      refine goN hg ⟨_,by rw [hj,k2];exact bh (zqc hiw),rfl⟩ ?_
      cbv
      refine goX hg _ hi0 hVy rfl ?_
      cbv
      refine goY hg hi0 hiZ fun j2 hj2 hjl2=> ?_
      cbv
      refine goN hg ⟨_,by rw [hj2,k1];exact bh (zqc hiq),rfl⟩ ?_
      cbv
      rw [e1]
      simp only [mH hg]
      subst hj hj2
      exact hB ((⟨q.set x.toNat y1,w.set x.toNat true⟩,_,_)) _ _ ⟨(by rw [show y1=(itA X.xs x).least by rw [←hyd]];exact h0),⟨sZ _,sR,by simpa using k3,by simpa using k4⟩⟩ (Wk.weak (wkG [some 0,some 1,some 2,some 3] ⟨rfl,rfl,rfl,rfl,rfl,rfl,trivial⟩ ⟨⟨_,_,rfl,rfl,rfl,rfl,.inr ⟨⟨rfl,rfl,rfl,rfl,rfl,rfl,rfl,trivial⟩,trivial⟩⟩,⟨_,_,rfl,rfl,rfl,rfl,.inl ⟨rfl,(sZ _).symm▸ag _ _⟩⟩,⟨_,_,rfl,rfl,rfl,rfl,.inl ⟨rfl,sR.symm▸ag _ _⟩⟩,wqE rfl pH,trivial⟩ (by decide) (by decide)))
     ·obtain⟨⟨q,w⟩,eZ,eR⟩:=s
      obtain⟨k1,k2,k3,k4⟩:=hi
      dsimp only at k1 k2 k3 k4 h0
      have pq:aj eZ=true:=by rw [k1];exact ag _ _
      have pw:aj eR=true:=by rw [k2];exact ag _ _
      have hmid:S3.mk q w=R3:=h0
      cbv;rw [he];cbv
      by_cases v1:VI≤0
      ·rw [tw,zqu v1]
       cbv
       have h50:S3.go ⟨q,w⟩ (HI.map fun i=>(i,mj (itA X.xs i)))=R4:=by
        rw [hmid,hR3,hR4]
        exact X.setI_two fr rt sz hlh' _ _ (by rw [←hVI,if_pos v0,hLO]) (by rw [←hVI,if_pos v1,hHI])
       refine aY hg aD (by kernel_rfl) eH (fun x=>lc (ao x)) HI heH hHl (fun z(s:S3×LLA×LLA)=>[(0,.p 0),(261,.v eH),(262,.i (g .ln eH)),(263,.i (z))]) (fun z(s:S3×LLA×LLA)=>[.bx 282 7 [.view V,.J X.gap,.J X.inner,.B GR,.own 1,.own 2,.J p1],.rw ⟨3,1,s.2.1⟩,.rw ⟨4,1,s.2.2⟩]) (fun z(s:S3×LLA×LLA)=>s.2.1=vw ao s.1.s∧s.2.2=vw kg s.1.f∧s.1.s.length=X.xs.length∧s.1.f.length=X.xs.length) (fun(s:S3×LLA×LLA) rest=>S3.go s.1 (rest.map fun i=>(i,mj (itA X.xs i)))) (R4) (⟨q,w⟩,eZ,eR) h50 ⟨k1,k2,k3,k4⟩ (bH (sl1 3 eH) (jb rfl keH deH) (Wk.weak (wkG [some 0,some 1,some 2] ⟨rfl,rfl,rfl,rfl,trivial⟩ ⟨⟨_,_,rfl,rfl,rfl,rfl,.inr ⟨⟨rfl,rfl,rfl,rfl,rfl,rfl,rfl,trivial⟩,trivial⟩⟩,⟨_,_,rfl,rfl,rfl,rfl,.inl (bG pq)⟩,⟨_,_,rfl,rfl,rfl,rfl,.inl (bG pw)⟩,trivial⟩ (by decide) (by decide)))) (fun z s B hz h0 hi he=> ?_) (fun z s x rest B z0 z1 z2 hx hy h0 hi hc e1 hB=> ?_)
       rotate_left
       ·have hmem:x∈fre 0 fr:=by
         have:=zqd hx
         rw [hHI,Fx.hig,←hFR]at this
         exact hFR▸(List.mem_filter.1 this).1
        obtain⟨⟨q,w⟩,eZ,eR⟩:=s
        obtain⟨k1,k2,k3,k4⟩:=hi
        dsimp only at k1 k2 k3 k4 h0
        have hfm:=gP fr 0 (Int.le_refl 0) x hmem
        have hi0:=hfm.1
        obtain⟨y,hyd⟩:=nmE (itA X.xs x)
        have hVy:V[x.toNat]? =some (lc (ah.c y)):=by rw [hV0,hyd];exact bh (oI hfm.1 (by rw [←hf];omega))
        have hiR:x<bg eR:=by rw [k2,aN,k4,←hf];omega
        have hiZ:x<bg eZ:=by rw [k1,aN,k3,←hf];omega
        have hiw:x.toNat<w.length:=by rw [k4,←hf];omega
        have hiq:x.toNat<q.length:=by rw [k3,←hf];omega
        have sR:eR.set x.toNat [.B true]=vw kg (w.set x.toNat true):=by rw [iq,k2];rfl
        have sZ:∀u:Int,eZ.set x.toNat [.J u]=vw ao (q.set x.toNat u):=fun u=>by rw [iq,k1];rfl
        obtain⟨y0,y1,y2,y3,y4,y5,y6,y7,y8⟩:=y
        cbv;rw [hc];cbv;refine goX hg _ z0 hy rfl ?_;cbv
        refine goY hg hi0 hiR fun j hj hjl=> ?_
        cbv
        refine goN hg ⟨_,by rw [hj,k2];exact bh (zqc hiw),rfl⟩ ?_
        cbv
        refine goX hg _ hi0 hVy rfl ?_
        cbv
        (first|refine bq hg (dr ⟨y0,y1,y2,y3,y4,y5,y6,y7,y8⟩) rfl (fun Q0 hQ0=> ?_)|refine aX hg (dr ⟨y0,y1,y2,y3,y4,y5,y6,y7,y8⟩) rfl (fun Q0 hQ0=> ?_));cbv
        refine goY hg hi0 hiZ fun j2 hj2 hjl2=> ?_
        cbv
        refine goN hg ⟨_,by rw [hj2,k1];exact bh (zqc hiq),rfl⟩ ?_
        cbv
        rw [e1]
        simp only [mH hg]
        subst hj hj2
        exact hB ((⟨q.set x.toNat Q0,w.set x.toNat true⟩,_,_)) _ _ ⟨(by rw [hQ0,hyd];exact h0),⟨sZ _,sR,by simpa using k3,by simpa using k4⟩⟩ (Wk.weak (wkG [some 0,some 1,some 2] ⟨rfl,rfl,rfl,rfl,trivial⟩ ⟨⟨_,_,rfl,rfl,rfl,rfl,.inr ⟨⟨rfl,rfl,rfl,rfl,rfl,rfl,rfl,trivial⟩,trivial⟩⟩,⟨_,_,rfl,rfl,rfl,rfl,.inl ⟨rfl,(sZ _).symm▸ag _ _⟩⟩,⟨_,_,rfl,rfl,rfl,rfl,.inl ⟨rfl,sR.symm▸ag _ _⟩⟩,trivial⟩ (by decide) (by decide)))
       ·obtain⟨⟨q,w⟩,eZ,eR⟩:=s
        obtain⟨k1,k2,k3,k4⟩:=hi
        dsimp only at k1 k2 k3 k4 h0
        cbv;rw [he];cbv
        have hfin:S3.mk q w=R4:=h0
        rw [hR4]at hfin
        simp only [S3.mk.injEq]at hfin
        exact wO hF rfl rfl rfl ⟨rfl,rfl,rfl,rfl,rfl,rfl,rfl,trivial⟩ (by rw [k1];exact ag _ _) (by rw [k2];exact ag _ _) rfl ⟨_,rfl,p1,q,w,by simp [hn],by rw [k1,k2],by rw [if_neg hn];exact hfin.1,by rw [if_neg hn];exact hfin.2⟩
      ·rw [tw,zqt v1]
       cbv
       have hfin:S3.mk q w=R4:=by
        rw [hmid,hR3,hR4]
        exact X.setI_two fr rt sz hlh' _ [] (by rw [←hVI,if_pos v0,hLO]) (by rw [←hVI,if_neg v1])
       rw [hR4]at hfin
       simp only [S3.mk.injEq]at hfin
       exact wO hF rfl rfl rfl ⟨rfl,rfl,rfl,rfl,rfl,rfl,rfl,trivial⟩ (by rw [k1];exact ag _ _) (by rw [k2];exact ag _ _) rfl ⟨_,rfl,p1,q,w,by simp [hn],by rw [k1,k2],by rw [if_neg hn];exact hfin.1,by rw [if_neg hn];exact hfin.2⟩
    ·rw [tv,zqt v0]
     cbv
     rw [tw,zqu (by omega)]
     cbv
     have h50:S3.go ⟨sz,fr⟩ (HI.map fun i=>(i,mj (itA X.xs i)))=R4:=by
      rw [hR4]
      exact X.setI_two fr rt sz hlh' [] _ (by rw [←hVI,if_neg v0]) (by rw [←hVI,if_pos (by omega),hHI])
     refine aY hg aD (by kernel_rfl) eH (fun x=>lc (ao x)) HI heH hHl (fun z(s:S3×LLA×LLA)=>[(0,.p 0),(261,.v eH),(262,.i (g .ln eH)),(263,.i (z))]) (fun z(s:S3×LLA×LLA)=>[.bx 282 7 [.view V,.J X.gap,.J X.inner,.B GR,.own 1,.own 2,.J p1],.rw ⟨3,1,s.2.1⟩,.rw ⟨4,1,s.2.2⟩]) (fun z(s:S3×LLA×LLA)=>s.2.1=vw ao s.1.s∧s.2.2=vw kg s.1.f∧s.1.s.length=X.xs.length∧s.1.f.length=X.xs.length) (fun(s:S3×LLA×LLA) rest=>S3.go s.1 (rest.map fun i=>(i,mj (itA X.xs i)))) (R4) (⟨sz,fr⟩,Z,R) h50 ⟨hZ,hR,hs,hf⟩ (bH (sl1 4 eH) (jb rfl keH deH) (Wk.weak (wkG [some 0,some 1,some 2] ⟨rfl,rfl,rfl,rfl,trivial⟩ ⟨⟨_,_,rfl,rfl,rfl,rfl,.inr ⟨⟨rfl,rfl,rfl,rfl,rfl,rfl,rfl,trivial⟩,trivial⟩⟩,⟨_,_,rfl,rfl,rfl,rfl,.inl (bG pZ)⟩,⟨_,_,rfl,rfl,rfl,rfl,.inl (bG pR)⟩,trivial⟩ (by decide) (by decide)))) (fun z s B hz h0 hi he=> ?_) (fun z s x rest B z0 z1 z2 hx hy h0 hi hc e1 hB=> ?_)
     rotate_left
     ·have hmem:x∈fre 0 fr:=by
       have:=zqd hx
       rw [hHI,Fx.hig,←hFR]at this
       exact hFR▸(List.mem_filter.1 this).1
      obtain⟨⟨q,w⟩,eZ,eR⟩:=s
      obtain⟨k1,k2,k3,k4⟩:=hi
      dsimp only at k1 k2 k3 k4 h0
      have hfm:=gP fr 0 (Int.le_refl 0) x hmem
      have hi0:=hfm.1
      obtain⟨y,hyd⟩:=nmE (itA X.xs x)
      have hVy:V[x.toNat]? =some (lc (ah.c y)):=by rw [hV0,hyd];exact bh (oI hfm.1 (by rw [←hf];omega))
      have hiR:x<bg eR:=by rw [k2,aN,k4,←hf];omega
      have hiZ:x<bg eZ:=by rw [k1,aN,k3,←hf];omega
      have hiw:x.toNat<w.length:=by rw [k4,←hf];omega
      have hiq:x.toNat<q.length:=by rw [k3,←hf];omega
      have sR:eR.set x.toNat [.B true]=vw kg (w.set x.toNat true):=by rw [iq,k2];rfl
      have sZ:∀u:Int,eZ.set x.toNat [.J u]=vw ao (q.set x.toNat u):=fun u=>by rw [iq,k1];rfl
      obtain⟨y0,y1,y2,y3,y4,y5,y6,y7,y8⟩:=y
      cbv;rw [hc];cbv;refine goX hg _ z0 hy rfl ?_;cbv
      refine goY hg hi0 hiR fun j hj hjl=> ?_
      cbv
      refine goN hg ⟨_,by rw [hj,k2];exact bh (zqc hiw),rfl⟩ ?_
      cbv
      refine goX hg _ hi0 hVy rfl ?_
      cbv
      (first|refine bq hg (dr ⟨y0,y1,y2,y3,y4,y5,y6,y7,y8⟩) rfl (fun Q0 hQ0=> ?_)|refine aX hg (dr ⟨y0,y1,y2,y3,y4,y5,y6,y7,y8⟩) rfl (fun Q0 hQ0=> ?_));cbv
      refine goY hg hi0 hiZ fun j2 hj2 hjl2=> ?_
      cbv
      refine goN hg ⟨_,by rw [hj2,k1];exact bh (zqc hiq),rfl⟩ ?_
      cbv
      rw [e1]
      simp only [mH hg]
      subst hj hj2
      exact hB ((⟨q.set x.toNat Q0,w.set x.toNat true⟩,_,_)) _ _ ⟨(by rw [hQ0,hyd];exact h0),⟨sZ _,sR,by simpa using k3,by simpa using k4⟩⟩ (Wk.weak (wkG [some 0,some 1,some 2] ⟨rfl,rfl,rfl,rfl,trivial⟩ ⟨⟨_,_,rfl,rfl,rfl,rfl,.inr ⟨⟨rfl,rfl,rfl,rfl,rfl,rfl,rfl,trivial⟩,trivial⟩⟩,⟨_,_,rfl,rfl,rfl,rfl,.inl ⟨rfl,(sZ _).symm▸ag _ _⟩⟩,⟨_,_,rfl,rfl,rfl,rfl,.inl ⟨rfl,sR.symm▸ag _ _⟩⟩,trivial⟩ (by decide) (by decide)))
     ·obtain⟨⟨q,w⟩,eZ,eR⟩:=s
      obtain⟨k1,k2,k3,k4⟩:=hi
      dsimp only at k1 k2 k3 k4 h0
      cbv;rw [he];cbv
      have hfin:S3.mk q w=R4:=h0
      rw [hR4]at hfin
      simp only [S3.mk.injEq]at hfin
      exact wO hF rfl rfl rfl ⟨rfl,rfl,rfl,rfl,rfl,rfl,rfl,trivial⟩ (by rw [k1];exact ag _ _) (by rw [k2];exact ag _ _) rfl ⟨_,rfl,p1,q,w,by simp [hn],by rw [k1,k2],by rw [if_neg hn];exact hfin.1,by rw [if_neg hn];exact hfin.2⟩
end Go.Proofs.YtdnnffbbhijmkaaGreat
