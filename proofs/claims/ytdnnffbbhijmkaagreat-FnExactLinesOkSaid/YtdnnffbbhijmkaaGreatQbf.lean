/- The reference's passes over a line that flexes, as maps of data. -/
import Derived.Test.YtdnnffbbhijmkaaGreatQbe
set_option linter.unusedVariables false
set_option linter.unusedSimpArgs false
set_option maxHeartbeats 3200000
namespace Go.Proofs.YtdnnffbbhijmkaaGreat
open Go.ChangeShapes Go.WideShapes Go.ChangeAt Go.RowKit Am Go.Proofs.Tryz
set_option maxRecDepth 100000
def yo(h:AH):List AC→List AC→Prop
 | [],[]=>True
 |c::cs,d::ds=>oP h c d∧yo h cs ds
 |_,_=>False
theorem yo.at_{h:AH}:∀(cs ds:List AC),yo h cs ds→cs.length=ds.length∧∀(j:Nat)(c d:AC),cs[j]? =some c→ds[j]? =some d→oP h c d
 | [],[],_=>⟨rfl,fun j c d hc=>by simp at hc⟩
 |c::cs,d::ds,hr=>by
  obtain⟨h1,h2⟩:=yo.at_ cs ds hr.2
  refine⟨by simp [h1],fun j x y hx hy=> ?_⟩
  cases j with
  |zero=>simp only [zqw,zqy]at hx hy;subst hx hy;exact hr.1
  |succ j=>exact h2 j x y (by simpa using hx) (by simpa using hy)
 | [],_::_,hr=>hr.elim
 |_::_,[],hr=>hr.elim
theorem vq{h:AH}{r off:Nat}{t k:Nat}{cs ds:List AC}(hr:h[r]? =some (.live ⟨t,k,[cs]⟩))(hl:yo h cs ds):A8 h (.ptr r 0 off) (.eptr ds off):=
 .ptr r 0 off ⟨t,k,[cs]⟩ cs ds hr rfl (yo.at_ cs ds hl).1 (yo.at_ cs ds hl).2
structure S4 where
 i:Int
 p:List Int
 w:List Int
 a:Int
def S4.go(gr:Bool):S4→List (ah×Bool)→S4
 |s,[]=>s
 |s,(x,f)::r=>S4.go gr (if f then⟨s.i+1,s.p,s.w,s.a⟩else⟨s.i+1,s.p++[s.i],s.w++[wgt gr x],wrap64 (s.a+wgt gr x)⟩) r
theorem S4.go_eq(X:Fx):∀(xs:List ah)(fr:List Bool)(n:Nat)(p w:List Int)(a:Int),fr.length=xs.length→(∀j:Nat,j<xs.length→itA X.xs ((n:Int)+(j:Int))=xs[j]?.getD ⟨0,0,0,0,0,0,0,false,false⟩)→
  S4.go X.gr ⟨n,p,w,a⟩ (xs.zip fr)=⟨(n:Int)+xs.length,p++fre n fr,w++(fre n fr).map fun i=>wgt X.gr (itA X.xs i),oA a ((fre n fr).map fun i=>wgt X.gr (itA X.xs i))⟩
 | [],[],n,p,w,a,_,_=>by simp [S4.go,fre,oA]
 | [],_::_,_,_,_,_,h,_=>by simp at h
 |_::_,[],_,_,_,_,h,_=>by simp at h
 |x::xs,b::fr,n,p,w,a,h1,h3=>by
  have hx:itA X.xs (n:Int)=x:=by have:=h3 0 (by simp);simpa using this
  have h4:∀j:Nat,j<xs.length→itA X.xs (((n+1:Nat):Int)+(j:Int))=xs[j]?.getD ⟨0,0,0,0,0,0,0,false,false⟩:=fun j hj=>by
   have:=h3 (j+1) (by simp;omega)
   simp only [List.getElem?_cons_succ]at this
   rw [←this]
   congr 1
   omega
  have ih:=fun p w a=>S4.go_eq X xs fr (n+1) p w a (by simpa using h1) h4
  have en:((n+1:Nat):Int)=(n:Int)+1:=by omega
  rw [List.zip_cons_cons]
  cases b with
  |true=>
   simp only [S4.go,if_true,fre]
   have:=ih p w a
   rw [en]at this
   rw [this,zqx]
   congr 1
   omega
  |false=>
   simp only [S4.go,Bool.false_eq_true,if_false,fre]
   have:=ih (p++[(n:Int)]) (w++[wgt X.gr x]) (wrap64 (a+wgt X.gr x))
   rw [en]at this
   rw [this,zqx,zqA,oA,hx,zqC,zqC]
   congr 1
   omega
theorem S4.all_(X:Fx){fr:List Bool}(hf:fr.length=X.xs.length):S4.go X.gr ⟨0,[],[],0⟩ (X.xs.zip fr)=⟨X.xs.length,fre 0 fr,X.ws fr,X.all fr⟩:=by
 have:=S4.go_eq X X.xs fr 0 [] [] 0 hf (fun j hj=>by simp [itA])
 simpa [Fx.all,Fx.ws]using this
theorem jN(xs:List ah)(gr:Bool)(i:Int)(h0:0≤i)(h1:i<xs.length)(c1 c2 c4 c5 c6:AC):PC0 342 [.c (.eptr [.view (vw ah.c xs),c1,c2,.B gr,c4,c5,c6] 0),ai i] (.i (wgt gr (itA xs i))):=by
 obtain⟨y,hyd⟩:=nmE (itA xs i)
 obtain⟨V,hV⟩:=nmE (vw ah.c xs)
 have hVy:V[i.toNat]? =some (lc (ah.c y)):=by rw [hV,hyd];exact bh (oI h0 h1)
 rw [←hV,←hyd]
 obtain⟨y0,y1,y2,y3,y4,y5,y6,y7,y8⟩:=y
 cases gr
 ·refine ae (aK f342) aD func342 fun g F hg hF=> ?_
  cbv
  refine goX hg _ h0 hVy rfl ?_
  cbv
  refine goX hg _ h0 hVy rfl ?_
  cbv
  exact ba hF (by rw [fO hg];rfl)
 ·refine ae (aK f342) aD func342 fun g F hg hF=> ?_
  cbv
  refine goX hg _ h0 hVy rfl ?_
  cbv
  exact ba hF rfl
theorem ri(xs:List ah)(sz:List Int)(gap inner:Int)(gr:Bool)(hx:xs.length≤1048576)(hs:sz.length≤1048576)(c4 c6:AC):PC0 362 [.c (.eptr [.view (vw ah.c xs),.J gap,.J inner,.B gr,c4,.view (vw ao sz),c6] 0)] (.i (uO xs sz gap inner gr)):=by
 have co:=fV xs sz gap hx hs
 obtain⟨V,hV⟩:=nmE (vw ah.c xs)
 obtain⟨Z,hZ⟩:=nmE (vw ao sz)
 obtain⟨r,hr⟩:=nmE (uO xs sz gap inner gr)
 rw [←hV,←hZ]at co⊢
 rw [←hr]
 rw [uO]at hr
 cases gr
 ·refine ae (aK f362) aD func362 fun g F hg hF=> ?_
  cbv
  (first|refine bq hg (co) rfl (fun OV hOV=> ?_)|refine aX hg (co) rfl (fun OV hOV=> ?_));cbv
  obtain⟨n,hn⟩:∃n,n=g .w .sub .i64 inner OV:=⟨_,rfl⟩
  rw [←hn]
  rw [dd hg,hOV]at hn
  cases hq:g .q .gtr n 0<;>cbv
  all_goals rw [cj hg]at hq
  ·(first|refine bq hg (bQ _) rfl (fun Q hQ=> ?_)|refine aX hg (bQ _) rfl (fun Q hQ=> ?_));cbv
   exact ba hF (by rw [hQ,hr,←hn,if_neg (by simpa using hq)])
  ·exact ba hF (by rw [hr,←hn,if_pos (by simpa using hq)])
 ·refine ae (aK f362) aD func362 fun g F hg hF=> ?_
  cbv
  (first|refine bq hg (co) rfl (fun OV hOV=> ?_)|refine aX hg (co) rfl (fun OV hOV=> ?_));cbv
  obtain⟨n,hn⟩:∃n,n=g .w .sub .i64 inner OV:=⟨_,rfl⟩
  rw [←hn]
  rw [dd hg,hOV]at hn
  cases hq:g .q .lss n 0<;>cbv
  all_goals rw [bn hg]at hq
  ·(first|refine bq hg (bQ _) rfl (fun Q hQ=> ?_)|refine aX hg (bQ _) rfl (fun Q hQ=> ?_));cbv
   exact ba hF (by rw [hQ,hr,←hn,if_neg (by simpa using hq)])
  ·exact ba hF (by rw [hr,←hn,if_pos (by simpa using hq)])
structure S5 where
 d:List Int
 s:Int
 b:Bool
def S5.go(X:Fx)(A r:Int):S5→List (Int×Int)→S5
 |s,[]=>s
 |s,(i,_)::is=>S5.go X A r ⟨s.d++[ovr X.gr A r (itA X.xs i)],wrap64 (s.s+ovr X.gr A r (itA X.xs i)),s.b||(ovr X.gr A r (itA X.xs i) !=0)⟩ is
theorem S5.go_eq(X:Fx)(A r:Int):∀(is:List Int)(ws:List Int)(s:S5),ws.length=is.length→S5.go X A r s (is.zip ws)=⟨s.d++is.map (fun i=>ovr X.gr A r (itA X.xs i)),oA s.s (is.map fun i=>ovr X.gr A r (itA X.xs i)),s.b||(is.map fun i=>ovr X.gr A r (itA X.xs i)).any fun o=>o !=0⟩
 | [],_,s,_=>by simp [S5.go,oA]
 |i::is,w::ws,s,h=>by
  rw [List.zip_cons_cons,S5.go,S5.go_eq X A r is ws _ (by simpa using h)]
  simp only [zqA,oA,List.any_cons,zqC,List.singleton_append,Bool.or_assoc]
 |_::_,[],_,h=>by simp at h
theorem DJ(d:List Int)(m k:Nat)(v:Int)(hk:k=d.length):(d++List.replicate (m+1) 0).set k v=(d++[v])++List.replicate m 0:=by
 subst hk
 simp [List.replicate_succ]
def FU(X:Fx)(so:Bool)(sum:Int)(p:Int×Int×Int):Option (Int×Int):=
 if so=false then some (p.1,cl (wrap64 ((itA X.xs p.1).base+p.2.2)))
 else if 0<p.2.1∧0≤sum then some (p.1,(itA X.xs p.1).least)
 else if p.2.1<0∧sum≤0 then some (p.1,s4 (itA X.xs p.1))else none
theorem Fx.setS_eq(X:Fx)(fr:List Bool)(rest:Int):X.setS fr rest=((fre 0 fr).zip ((X.ovs fr rest).zip (shr rest (X.ws fr)))).filterMap (FU X ((X.ovs fr rest).any fun o=>o !=0) (oA 0 (X.ovs fr rest))):=rfl
theorem rg(X:Fx)(hX:dT X.xs=true)(sz:List Int)(fr:List Bool)(hs:sz.length=X.xs.length)(hf:fr.length=X.xs.length)(p:Int):
  Con prog 343 (toH [.bx 300 7 (X.bx p),.rw ⟨4,1,vw kg fr⟩,.rw ⟨3,1,vw ao sz⟩]) [.c (.ptr 0 0 0)] fun res h'=>∃eh,toH eh=h'∧∃p' sz' fr',
   res= .t (abl (decide (fre 0 fr≠[])))∧eh=[.bx 300 7 (X.bx p'),.rw ⟨4,1,vw kg fr'⟩,.rw ⟨3,1,vw ao sz'⟩]∧
   sz'=(if fre 0 fr=[]then sz else o1 (X.setS fr (uO X.xs sz X.gap X.inner X.gr)) sz)∧fr'=(if fre 0 fr=[]then fr else oD ((X.setS fr (uO X.xs sz X.gap X.inner X.gr)).map (·.1)) fr):=by
 have hall:=S4.all_ X hf
 obtain⟨hxo,hxl⟩:=eG hX
 obtain⟨zs,hzs⟩:=nmE (X.xs.zip fr)
 have hV:vw ah.c X.xs=zs.map fun t=>lc (ah.c t.1):=by
  rw [hzs,vw]
  conv=>lhs;rw [←List.map_fst_zip (l₁:=X.xs) (l₂:=fr) (by omega)]
  rw [List.map_map];rfl
 have hzl:zs.length≤1048576:=by rw [hzs,zqB];omega
 rw [←hzs]at hall
 obtain⟨rt,hrt⟩:=nmE (uO X.xs sz X.gap X.inner X.gr)
 have cw:=fun(i:Int)(h0:0≤i)(h1:i<X.xs.length)(c1 c2 c4 c5 c6:AC)=>jN X.xs X.gr i h0 h1 c1 c2 c4 c5 c6
 have cfr:=fun(c4 c6:AC)=>ri X.xs sz X.gap X.inner X.gr (by omega) (by omega) c4 c6
 obtain⟨V,hV0⟩:=nmE (vw ah.c X.xs)
 obtain⟨Z,hZ⟩:=nmE (vw ao sz)
 have hZl:Z.length=sz.length:=by rw [hZ,af]
 have iZ:bR Z=true:=by rw [hZ];exact aG _ _
 have kZ:∀y∈Z,y.length=1:=by rw [hZ];exact bC (c:=ao) (k:=1) fun _=>rfl
 have dZ:∀y∈Z,y.all dat=true:=by rw [hZ];exact az
 obtain⟨R,hR⟩:=nmE (vw kg fr)
 obtain⟨FR,hFR⟩:=nmE (fre 0 fr)
 obtain⟨WS,hWS⟩:=nmE (X.ws fr)
 obtain⟨AL,hAL⟩:=nmE (X.all fr)
 obtain⟨GR,hGR⟩:=nmE X.gr
 have pZ:aj Z=true:=by rw [hZ];exact ag _ _
 have pR:aj R=true:=by rw [hR];exact ag _ _
 have kR:∀y∈R,y.length=1:=by rw [hR];exact bC (c:=kg) (k:=1) fun _=>rfl
 have dR:∀y∈R,y.all dat=true:=by rw [hR];exact az
 have hRl:bg R=(X.xs.length:Int):=by rw [hR,aN,hf]
 simp only [←hrt]at cfr⊢
 simp only [Fx.bx,←hV0,←hZ,←hR,←hGR]at cw cfr⊢
 rw [←hV0]at hV
 rw [←hFR,←hWS,←hAL]at hall
 rw [←hFR]
 have hVl:bg V=(X.xs.length:Int):=by rw [hV0,aN]
 obtain⟨R1,hR1⟩:=nmE (S4.mk (X.xs.length:Int) FR WS AL)
 rw [←hR1]at hall
 refine wT (c:=aK f343) aD func343 (by kernel_rfl) (by kernel_rfl) (bl (by rfl)) (by kernel_rfl) fun g F hg hF=> ?_
 replace hg:g=G0 prog 3 f343.ntmps:=hg
 replace hF:F=nR 3 _:=hF
 cbv
 refine aY hg aD (by kernel_rfl) V (fun t=>lc (ah.c t.1)) zs hV hzl (fun z(s:S4×LLA×LLA)=>[(0,.p 0),(3,.o 3),(4,.o 4),(5,.i (s.1.a)),(6,.i (z))]) (fun z(s:S4×LLA×LLA)=>[.bx 300 7 [.view V,.J X.gap,.J X.inner,.B GR,.own 1,.own 2,.J p],.rw ⟨4,1,R⟩,.rw ⟨3,1,Z⟩,.rw ⟨3,1,s.2.1⟩,.rw ⟨3,1,s.2.2⟩]) (fun z(s:S4×LLA×LLA)=>s.2.1=vw ao s.1.w∧s.2.2=vw ao s.1.p∧s.1.i=z∧(s.1.w.length:Int)≤z∧(s.1.p.length:Int)≤z) (fun(s:S4×LLA×LLA) rest=>S4.go X.gr s.1 rest) (R1) (⟨0,[],[],0⟩,[],[]) hall ⟨rfl,rfl,rfl,by simp,by simp⟩ (Wk.weak (wkG [some 0,some 1,some 2,some 3,some 4] ⟨rfl,rfl,rfl,rfl,rfl,trivial⟩ ⟨⟨_,_,rfl,rfl,rfl,rfl,.inr ⟨⟨rfl,rfl,rfl,rfl,rfl,rfl,rfl,trivial⟩,trivial⟩⟩,wqE rfl pR,wqE rfl pZ,wqE rfl rfl,wqE rfl rfl,trivial⟩ (by decide) (by decide))) (fun z s B hz h0 hi he=> ?_) (fun z s x rest B z0 z1 z2 hx hy h0 hi hc e1 hB=> ?_)
 rotate_left
 ·obtain⟨⟨i,pl,w,a⟩,eW,eP⟩:=s
  obtain⟨b1,b2,b3,b4,b5⟩:=hi
  dsimp only at b1 b2 b3 b4 b5 h0
  subst b3
  obtain⟨x,b⟩:=x
  have q12:=hx
  rw [hzs,List.getElem?_zip_eq_some]at q12
  obtain⟨q1,q2⟩:=q12
  have hVx:bg V=(X.xs.length:Int):=hVl
  have lW:eW.length≤1048576:=by rw [b1,af];omega
  have lP:eP.length≤1048576:=by rw [b2,af];omega
  have pW:aj eW=true:=by rw [b1];exact ag _ _
  have pP:aj eP=true:=by rw [b2];exact ag _ _
  have cw1:=fun c1 c2 c4 c5 c6=>cw i z0 (hVl▸z1) c1 c2 c4 c5 c6
  have hix:itA X.xs i=x:=by unfold itA;rw [q1];rfl
  obtain⟨w0,hw0⟩:=nmE (wgt GR (itA X.xs i))
  simp only [←hw0]at cw1
  rw [hix,hGR]at hw0
  have aP:eP++[[.J i]]=vw ao (pl++[i]):=by rw [bA,b2];rfl
  have aW:eW++[[.J w0]]=vw ao (w++[w0]):=by rw [bA,b1];rfl
  have hiR:i<bg R:=by rw [hRl,←hVl];exact z1
  cbv
  rw [hc]
  cbv
  refine goY hg z0 hiR fun j hj hjl=> ?_
  cbv
  refine⟨_,by rw [hj,hR];exact bh q2,?_⟩
  cases b<;>cbv
  ·refine dl hg rfl (by decide) lP ?_
   cbv
   refine gR hg (cw1 _ _ (.view R) (.view Z) _) (dm (vq rfl ⟨ay rfl,ay rfl,ay rfl,ay rfl,bi (ab:=⟨_,_,R⟩) rfl kR dR,bi (ab:=⟨_,_,Z⟩) rfl kZ dZ,ay rfl,trivial⟩) (aq (ay rfl) aF)) rfl ?_
   cbv
   refine dl hg rfl (by decide) lW ?_
   cbv
   refine gR hg (cw1 _ _ (.view R) (.view Z) _) (dm (vq rfl ⟨ay rfl,ay rfl,ay rfl,ay rfl,bi (ab:=⟨_,_,R⟩) rfl kR dR,bi (ab:=⟨_,_,Z⟩) rfl kZ dZ,ay rfl,trivial⟩) (aq (ay rfl) aF)) rfl ?_
   cbv
   rw [e1]
   simp only [gG hg,aM hg]
   exact hB ((⟨i+1,pl++[i],w++[w0],wrap64 (a+w0)⟩,_,_)) _ _ ⟨(by simpa [S4.go,hw0,hGR]using h0),⟨aW,aP,rfl,by simp;omega,by simp;omega⟩⟩ (Wk.weak (wkG [some 0,some 1,some 2,some _,some _] ⟨rfl,rfl,rfl,rfl,rfl,trivial⟩ ⟨⟨_,_,rfl,rfl,rfl,rfl,.inr ⟨⟨rfl,rfl,rfl,rfl,rfl,rfl,rfl,trivial⟩,trivial⟩⟩,wqE rfl pR,wqE rfl pZ,⟨_,_,rfl,rfl,rfl,rfl,.inl ⟨rfl,aW.symm▸ag _ _⟩⟩,⟨_,_,rfl,rfl,rfl,rfl,.inl ⟨rfl,aP.symm▸ag _ _⟩⟩,trivial⟩ (by decide) (by decide)))
  ·rw [e1]
   exact hB ((⟨i+1,pl,w,a⟩,eW,eP)) _ _ ⟨(by simpa [S4.go]using h0),⟨b1,b2,rfl,by dsimp only;omega,by dsimp only;omega⟩⟩ (Wk.weak (wkG [some 0,some 1,some 2,some 3,some 4] ⟨rfl,rfl,rfl,rfl,rfl,trivial⟩ ⟨⟨_,_,rfl,rfl,rfl,rfl,.inr ⟨⟨rfl,rfl,rfl,rfl,rfl,rfl,rfl,trivial⟩,trivial⟩⟩,wqE rfl pR,wqE rfl pZ,wqE rfl pW,wqE rfl pP,trivial⟩ (by decide) (by decide)))
 obtain⟨⟨i,pl,w,a⟩,eW,eP⟩:=s
 obtain⟨b1,b2,b3,b4,b5⟩:=hi
 dsimp only at b1 b2 h0
 rw [hR1]at h0
 simp only [S4.go,S4.mk.injEq]at h0
 obtain⟨-,h2,h3,h4⟩:=h0
 obtain rfl:FR=pl:=h2.symm
 obtain rfl:WS=w:=h3.symm
 obtain rfl:AL=a:=h4.symm
 have pW:aj eW=true:=by rw [b1];exact ag _ _
 have pP:aj eP=true:=by rw [b2];exact ag _ _
 have keP:∀y∈eP,y.length=1:=by rw [b2];exact bC (c:=ao) (k:=1) fun _=>rfl
 have deP:∀y∈eP,y.all dat=true:=by rw [b2];exact az
 have keW:∀y∈eW,y.length=1:=by rw [b1];exact bC (c:=ao) (k:=1) fun _=>rfl
 have deW:∀y∈eW,y.all dat=true:=by rw [b1];exact az
 have hFl:FR.length≤12:=by have:=jE fr 0;rw [←hFR,hf]at this;omega
 have hWl:WS.length=FR.length:=by rw [hWS,hFR,Fx.ws,zql]
 cbv;rw [he];cbv
 by_cases hn:FR=[]
 ·have e:g .q .eql (g .ln eP) 0=true:=by rw [bv hg,bD hg,b2,hn];rfl
  rw [e]
  cbv
  exact wO hF rfl rfl rfl ⟨rfl,rfl,rfl,rfl,rfl,rfl,rfl,trivial⟩ pR pZ rfl ⟨_,rfl,p,sz,fr,by simp [hn],by rw [hZ,hR],by simp [hn],by simp [hn]⟩
 have e:g .q .eql (g .ln eP) 0=false:=by
  rw [bv hg,bD hg,b2,aN]
  have:FR.length≠0:=fun h=>hn (zqv h)
  simp;omega
 rw [e]
 cbv
 obtain⟨p1,hp1⟩:∃p1,p1=g .w .add .i64 p 1:=⟨_,rfl⟩
 rw [←hp1]
 refine gR hg (cfr (.view R) _) (dm (vq rfl ⟨ay rfl,ay rfl,ay rfl,ay rfl,bi (ab:=⟨_,_,R⟩) rfl kR dR,bi (ab:=⟨_,_,Z⟩) rfl kZ dZ,ay rfl,trivial⟩) aF) rfl ?_
 cbv
 refine D0 hg (by decide) (by rw [b2,af];omega) ?_
 cbv
 generalize hO:g .rp (g .ln eP) _=O0
 replace hO:O0=vw ao (List.replicate FR.length 0):=by
  rw [←hO,yM hg,bD hg,b2,aN,CD]
  rfl
 have pO:aj O0=true:=by rw [hO];exact ag _ _
 obtain⟨qs,hqs⟩:=nmE (FR.zip WS)
 have heP:eP=qs.map fun t=>lc (ao t.1):=by
  rw [b2,hqs,vw]
  conv=>lhs;rw [←List.map_fst_zip (l₁:=FR) (l₂:=WS) (by omega)]
  rw [List.map_map];rfl
 have hql:qs.length≤1048576:=by rw [hqs,zqB];omega
 obtain⟨OVS,hOVS⟩:=nmE (X.ovs fr rt)
 obtain⟨SM,hSM⟩:=nmE (oA 0 OVS)
 obtain⟨SB,hSB⟩:=nmE (OVS.any fun o=>o !=0)
 obtain⟨R2,hR2⟩:=nmE (S5.mk OVS SM SB)
 have h20:S5.go X AL rt ⟨[],0,false⟩ qs=R2:=by
  rw [hqs,S5.go_eq X AL rt FR WS _ hWl,hR2,hSM,hSB,hOVS,Fx.ovs,←hFR,←hAL]
  simp
 have hOl:OVS.length=FR.length:=by rw [hOVS,Fx.ovs,←hFR,zql]
 refine aY hg aD (by kernel_rfl) eP (fun t=>lc (ao t.1)) qs heP hql (fun z(s:S5×LLA)=>[(0,.p 0),(3,.o 3),(4,.v eP),(5,.i (AL)),(7,.i (rt)),(8,.o 4),(9,.i (s.1.s)),(10,.t (abl (s.1.b))),(11,.i (z))]) (fun z(s:S5×LLA)=>[.bx 300 7 [.view V,.J X.gap,.J X.inner,.B GR,.own 1,.own 2,.J p1],.rw ⟨4,1,R⟩,.rw ⟨3,1,Z⟩,.rw ⟨3,1,eW⟩,.rw ⟨3,1,s.2⟩]) (fun z(s:S5×LLA)=>s.2=vw ao (s.1.d++List.replicate (FR.length-s.1.d.length) 0)∧(s.1.d.length:Int)=z) (fun(s:S5×LLA) rest=>S5.go X AL rt s.1 rest) (R2) (⟨[],0,false⟩,O0) h20 ⟨by simpa using hO,rfl⟩ (bH (sl1 4 eP) (jb rfl keP deP) (Wk.weak (wkG [some 0,some 1,some 2,some 3,some 5] ⟨rfl,rfl,rfl,rfl,rfl,rfl,rfl,rfl,rfl,trivial⟩ ⟨⟨_,_,rfl,rfl,rfl,rfl,.inr ⟨⟨rfl,rfl,rfl,rfl,rfl,rfl,rfl,trivial⟩,trivial⟩⟩,⟨_,_,rfl,rfl,rfl,rfl,.inl (bG pR)⟩,⟨_,_,rfl,rfl,rfl,rfl,.inl (bG pZ)⟩,⟨_,_,rfl,rfl,rfl,rfl,.inl (bG pW)⟩,⟨_,_,rfl,rfl,rfl,rfl,.inl (bG pO)⟩,trivial⟩ (by decide) (by decide)))) (fun z s B hz h0 hi he=> ?_) (fun z s x rest B z0 z1 z2 hx hy h0 hi hc e1 hB=> ?_)
 rotate_left
 ·obtain⟨⟨d,s,b⟩,eO⟩:=s
  obtain⟨i1,i2⟩:=hi
  dsimp only at i1 i2 h0
  obtain⟨x,w⟩:=x
  have q12:=hx
  rw [hqs,List.getElem?_zip_eq_some]at q12
  obtain⟨q1,q2⟩:=q12
  have hzF:z.toNat<FR.length:=(List.getElem?_eq_some_iff.1 q1).1
  have hmem:x∈fre 0 fr:=hFR▸zqd q1
  have hfm:=gP fr 0 (Int.le_refl 0) x hmem
  have hx0:=hfm.1
  have hEPz:eP[z.toNat]? =some (lc (ao x)):=by rw [b2];exact bh q1
  have hEWz:eW[z.toNat]? =some (lc (ao w)):=by rw [b1];exact bh q2
  have hzW:z<bg eW:=by rw [b1,aN,hWl];omega
  have hzO:z<bg eO:=by rw [i1,aN];simp only [zqe,List.length_replicate];omega
  obtain⟨y,hyd⟩:=nmE (itA X.xs x)
  have hVy:V[x.toNat]? =some (lc (ah.c y)):=by rw [hV0,hyd];exact bh (oI hfm.1 (by rw [←hf];omega))
  have hw:w=wgt GR y:=by
   rw [hWS,Fx.ws,←hFR,zqi,q1,Option.map_some,zqy,←hGR,←hyd]at q2
   exact q2.symm
  obtain⟨v,hv⟩:=nmE (ovr GR AL rt y)
  have hgo:S5.go X AL rt ⟨d++[v],wrap64 (s+v),b||(v !=0)⟩ rest=R2:=by rw [hv,hyd,hGR];exact h0
  have hm1:FR.length-d.length=FR.length-(d.length+1)+1:=by omega
  have hz1:z.toNat=d.length:=by omega
  have hset:(d++List.replicate (FR.length-d.length) 0).set z.toNat v=(d++[v])++List.replicate (FR.length-(d.length+1)) 0:=by
   rw [show FR.length-d.length=FR.length-(d.length+1)+1 by omega]
   exact DJ d _ _ v (by omega)
  have hat0:(d++List.replicate (FR.length-d.length) 0)[z.toNat]? =some 0:=by
   rw [hm1,List.replicate_succ,hz1]
   simp
  have hat:((d++[v])++List.replicate (FR.length-(d.length+1)) 0)[z.toNat]? =some v:=by
   rw [show z.toNat=d.length by omega]
   simp
  have hdl:((d++[v]).length:Int)=z+1:=by simp;omega
  obtain⟨y0,y1,y2,y3,y4,y5,y6,y7,y8⟩:=y
  have hov:v=if pg GR AL rt ⟨y0,y1,y2,y3,y4,y5,y6,y7,y8⟩then wrap64 (wrap64 (y1*AL)-tgt GR AL rt ⟨y0,y1,y2,y3,y4,y5,y6,y7,y8⟩)else if 0≤y2∧wrap64 (s4 ⟨y0,y1,y2,y3,y4,y5,y6,y7,y8⟩*AL)<tgt GR AL rt ⟨y0,y1,y2,y3,y4,y5,y6,y7,y8⟩then wrap64 (wrap64 (s4 ⟨y0,y1,y2,y3,y4,y5,y6,y7,y8⟩*AL)-tgt GR AL rt ⟨y0,y1,y2,y3,y4,y5,y6,y7,y8⟩)else 0:=hv
  cbv
  rw [hc]
  cbv
  refine goX hg _ z0 hEPz rfl ?_
  cbv
  refine goX hg _ hx0 hVy rfl ?_
  cbv
  refine goY hg z0 hzW fun jw hjw hjlw=> ?_
  cbv
  refine⟨_,by rw [hjw];exact hEWz,?_⟩
  cbv
  have hT:g .w .add .i64 (g .w .mul .i64 y0 AL) (g .w .mul .i64 rt w)=tgt GR AL rt ⟨y0,y1,y2,y3,y4,y5,y6,y7,y8⟩:=by simp only [aM hg,fO hg,hw];rfl
  have hT1:g .q .lss (g .w .add .i64 (g .w .mul .i64 y0 AL) (g .w .mul .i64 rt w)) (g .w .mul .i64 y1 AL)=pg GR AL rt ⟨y0,y1,y2,y3,y4,y5,y6,y7,y8⟩:=by rw [hT];simp only [bn hg,fO hg];rfl
  rw [hT1]
  cases hl:pg GR AL rt ⟨y0,y1,y2,y3,y4,y5,y6,y7,y8⟩
  ·rw [hl]at hov
   simp only [Bool.false_eq_true,if_false]at hov
   cbv
   cases h2:g .q .geq y2 0
   ·have hv0:v=0:=by
     rw [gO hg]at h2
     have:=of_decide_eq_false h2
     rw [hov,if_neg (by omega)]
    cbv
    obtain⟨E1,hE0⟩:=nmE eO
    have hE1:E1=vw ao ((d++[v])++List.replicate (FR.length-(d.length+1)) 0):=by
     rw [hE0,i1,←hset,hv0]
     congr 1
     rw [hm1,List.replicate_succ,hz1]
     simp
    have pE1:aj E1=true:=by rw [hE1];exact ag _ _
    have hinv:E1=vw ao ((d++[v])++List.replicate (FR.length-(d++[v]).length) 0):=by rw [hE1];simp
    rw [←hE0]
    cbv
    refine goY hg z0 (by rw [hE1,aN];simp only [zqe,List.length_replicate,zqm];omega) fun j1 hj1 hjl1=> ?_
    cbv
    refine⟨_,by rw [hj1,hE1];exact bh hat,?_⟩
    cbv
    cases hb:b
    ·cbv
     refine goY hg z0 (by rw [hE1,aN];simp only [zqe,List.length_replicate,zqm];omega) fun j2 hj2 hjl2=> ?_
     cbv
     refine⟨_,by rw [hj2,hE1];exact bh hat,?_⟩
     cbv
     rw [e1,bk hg,aM hg]
     exact hB ((⟨d++[v],wrap64 (s+v),(v !=0)⟩,E1)) _ _ ⟨(by rw [hb]at hgo;exact hgo),⟨hinv,hdl⟩⟩ (Wk.weak (wkG [some 0,some 1,some 2,some 3,some 4] ⟨rfl,rfl,rfl,rfl,rfl,rfl,rfl,rfl,rfl,trivial⟩ ⟨⟨_,_,rfl,rfl,rfl,rfl,.inr ⟨⟨rfl,rfl,rfl,rfl,rfl,rfl,rfl,trivial⟩,trivial⟩⟩,wqE rfl pR,wqE rfl pZ,wqE rfl pW,wqE rfl pE1,trivial⟩ (by decide) (by decide)))
    ·cbv
     rw [e1,aM hg]
     exact hB ((⟨d++[v],wrap64 (s+v),true⟩,E1)) _ _ ⟨(by rw [hb]at hgo;exact hgo),⟨hinv,hdl⟩⟩ (Wk.weak (wkG [some 0,some 1,some 2,some 3,some 4] ⟨rfl,rfl,rfl,rfl,rfl,rfl,rfl,rfl,rfl,trivial⟩ ⟨⟨_,_,rfl,rfl,rfl,rfl,.inr ⟨⟨rfl,rfl,rfl,rfl,rfl,rfl,rfl,trivial⟩,trivial⟩⟩,wqE rfl pR,wqE rfl pZ,wqE rfl pW,wqE rfl pE1,trivial⟩ (by decide) (by decide)))
   ·cbv
    have h2':0≤y2:=by rw [gO hg]at h2;exact of_decide_eq_true h2
    (first|refine bq hg (dv ⟨y0,y1,y2,y3,y4,y5,y6,y7,y8⟩) rfl (fun Q1 hQ1=> ?_)|refine aX hg (dv ⟨y0,y1,y2,y3,y4,y5,y6,y7,y8⟩) rfl (fun Q1 hQ1=> ?_));cbv
    have hT2:g .q .gtr (g .w .add .i64 (g .w .mul .i64 y0 AL) (g .w .mul .i64 rt w)) (g .w .mul .i64 Q1 AL)=decide (wrap64 (s4 ⟨y0,y1,y2,y3,y4,y5,y6,y7,y8⟩*AL)<tgt GR AL rt ⟨y0,y1,y2,y3,y4,y5,y6,y7,y8⟩):=by rw [hT];simp only [cj hg,fO hg,hQ1]
    rw [hT2]
    by_cases h3:wrap64 (s4 ⟨y0,y1,y2,y3,y4,y5,y6,y7,y8⟩*AL)<tgt GR AL rt ⟨y0,y1,y2,y3,y4,y5,y6,y7,y8⟩
    ·rw [zqu h3]
     have hv0:v=wrap64 (wrap64 (s4 ⟨y0,y1,y2,y3,y4,y5,y6,y7,y8⟩*AL)-tgt GR AL rt ⟨y0,y1,y2,y3,y4,y5,y6,y7,y8⟩):=by rw [hov,if_pos ⟨h2',h3⟩]
     cbv
     (first|refine bq hg (dv ⟨y0,y1,y2,y3,y4,y5,y6,y7,y8⟩) rfl (fun Q2 hQ2=> ?_)|refine aX hg (dv ⟨y0,y1,y2,y3,y4,y5,y6,y7,y8⟩) rfl (fun Q2 hQ2=> ?_));cbv
     refine goY hg z0 hzO fun j hj hjl=> ?_
     cbv
     refine goN hg ⟨_,by rw [hj,i1];exact bh hat0,rfl⟩ ?_
     cbv
     generalize hG1:g .st _ _ _=E1
     have hE1:E1=vw ao ((d++[v])++List.replicate (FR.length-(d.length+1)) 0):=by
      rw [←hG1,mH hg,hj,show g .w .sub .i64 (g .w .mul .i64 Q2 AL) (g .w .add .i64 (g .w .mul .i64 y0 AL) (g .w .mul .i64 rt w))=v by rw [hT,hv0,hQ2];simp only [dd hg,fO hg]]
      have:=iq ao (d++List.replicate (FR.length-d.length) 0) z.toNat v
      rw [←hset,this,i1]
      rfl
     have pE1:aj E1=true:=by rw [hE1];exact ag _ _
     have hinv:E1=vw ao ((d++[v])++List.replicate (FR.length-(d++[v]).length) 0):=by rw [hE1];simp
     refine goY hg z0 (by rw [hE1,aN];simp only [zqe,List.length_replicate,zqm];omega) fun j1 hj1 hjl1=> ?_
     cbv
     refine⟨_,by rw [hj1,hE1];exact bh hat,?_⟩
     cbv
     cases hb:b
     ·cbv
      refine goY hg z0 (by rw [hE1,aN];simp only [zqe,List.length_replicate,zqm];omega) fun j2 hj2 hjl2=> ?_
      cbv
      refine⟨_,by rw [hj2,hE1];exact bh hat,?_⟩
      cbv
      rw [e1,bk hg,aM hg]
      exact hB ((⟨d++[v],wrap64 (s+v),(v !=0)⟩,E1)) _ _ ⟨(by rw [hb]at hgo;exact hgo),⟨hinv,hdl⟩⟩ (Wk.weak (wkG [some 0,some 1,some 2,some 3,some 4] ⟨rfl,rfl,rfl,rfl,rfl,rfl,rfl,rfl,rfl,trivial⟩ ⟨⟨_,_,rfl,rfl,rfl,rfl,.inr ⟨⟨rfl,rfl,rfl,rfl,rfl,rfl,rfl,trivial⟩,trivial⟩⟩,wqE rfl pR,wqE rfl pZ,wqE rfl pW,wqE rfl pE1,trivial⟩ (by decide) (by decide)))
     ·cbv
      rw [e1,aM hg]
      exact hB ((⟨d++[v],wrap64 (s+v),true⟩,E1)) _ _ ⟨(by rw [hb]at hgo;exact hgo),⟨hinv,hdl⟩⟩ (Wk.weak (wkG [some 0,some 1,some 2,some 3,some 4] ⟨rfl,rfl,rfl,rfl,rfl,rfl,rfl,rfl,rfl,trivial⟩ ⟨⟨_,_,rfl,rfl,rfl,rfl,.inr ⟨⟨rfl,rfl,rfl,rfl,rfl,rfl,rfl,trivial⟩,trivial⟩⟩,wqE rfl pR,wqE rfl pZ,wqE rfl pW,wqE rfl pE1,trivial⟩ (by decide) (by decide)))
    ·rw [zqt h3]
     have hv0:v=0:=by rw [hov,if_neg (fun h=>h3 h.2)]
     cbv
     obtain⟨E1,hE0⟩:=nmE eO
     have hE1:E1=vw ao ((d++[v])++List.replicate (FR.length-(d.length+1)) 0):=by
      rw [hE0,i1,←hset,hv0]
      congr 1
      rw [hm1,List.replicate_succ,hz1]
      simp
     have pE1:aj E1=true:=by rw [hE1];exact ag _ _
     have hinv:E1=vw ao ((d++[v])++List.replicate (FR.length-(d++[v]).length) 0):=by rw [hE1];simp
     rw [←hE0]
     cbv
     refine goY hg z0 (by rw [hE1,aN];simp only [zqe,List.length_replicate,zqm];omega) fun j1 hj1 hjl1=> ?_
     cbv
     refine⟨_,by rw [hj1,hE1];exact bh hat,?_⟩
     cbv
     cases hb:b
     ·cbv
      refine goY hg z0 (by rw [hE1,aN];simp only [zqe,List.length_replicate,zqm];omega) fun j2 hj2 hjl2=> ?_
      cbv
      refine⟨_,by rw [hj2,hE1];exact bh hat,?_⟩
      cbv
      rw [e1,bk hg,aM hg]
      exact hB ((⟨d++[v],wrap64 (s+v),(v !=0)⟩,E1)) _ _ ⟨(by rw [hb]at hgo;exact hgo),⟨hinv,hdl⟩⟩ (Wk.weak (wkG [some 0,some 1,some 2,some 3,some 4] ⟨rfl,rfl,rfl,rfl,rfl,rfl,rfl,rfl,rfl,trivial⟩ ⟨⟨_,_,rfl,rfl,rfl,rfl,.inr ⟨⟨rfl,rfl,rfl,rfl,rfl,rfl,rfl,trivial⟩,trivial⟩⟩,wqE rfl pR,wqE rfl pZ,wqE rfl pW,wqE rfl pE1,trivial⟩ (by decide) (by decide)))
     ·cbv
      rw [e1,aM hg]
      exact hB ((⟨d++[v],wrap64 (s+v),true⟩,E1)) _ _ ⟨(by rw [hb]at hgo;exact hgo),⟨hinv,hdl⟩⟩ (Wk.weak (wkG [some 0,some 1,some 2,some 3,some 4] ⟨rfl,rfl,rfl,rfl,rfl,rfl,rfl,rfl,rfl,trivial⟩ ⟨⟨_,_,rfl,rfl,rfl,rfl,.inr ⟨⟨rfl,rfl,rfl,rfl,rfl,rfl,rfl,trivial⟩,trivial⟩⟩,wqE rfl pR,wqE rfl pZ,wqE rfl pW,wqE rfl pE1,trivial⟩ (by decide) (by decide)))
  ·rw [hl]at hov
   simp only [if_true]at hov
   cbv
   refine goY hg z0 hzO fun j hj hjl=> ?_
   cbv
   refine goN hg ⟨_,by rw [hj,i1];exact bh hat0,rfl⟩ ?_
   cbv
   generalize hG1:g .st _ _ _=E1
   have hE1:E1=vw ao ((d++[v])++List.replicate (FR.length-(d.length+1)) 0):=by
    rw [←hG1,mH hg,hj,show g .w .sub .i64 (g .w .mul .i64 y1 AL) (g .w .add .i64 (g .w .mul .i64 y0 AL) (g .w .mul .i64 rt w))=v by rw [hT,hov];simp only [dd hg,fO hg]]
    have:=iq ao (d++List.replicate (FR.length-d.length) 0) z.toNat v
    rw [←hset,this,i1]
    rfl
   have pE1:aj E1=true:=by rw [hE1];exact ag _ _
   have hinv:E1=vw ao ((d++[v])++List.replicate (FR.length-(d++[v]).length) 0):=by rw [hE1];simp
   refine goY hg z0 (by rw [hE1,aN];simp only [zqe,List.length_replicate,zqm];omega) fun j1 hj1 hjl1=> ?_
   cbv
   refine⟨_,by rw [hj1,hE1];exact bh hat,?_⟩
   cbv
   cases hb:b
   ·cbv
    refine goY hg z0 (by rw [hE1,aN];simp only [zqe,List.length_replicate,zqm];omega) fun j2 hj2 hjl2=> ?_
    cbv
    refine⟨_,by rw [hj2,hE1];exact bh hat,?_⟩
    cbv
    rw [e1,bk hg,aM hg]
    exact hB ((⟨d++[v],wrap64 (s+v),(v !=0)⟩,E1)) _ _ ⟨(by rw [hb]at hgo;exact hgo),⟨hinv,hdl⟩⟩ (Wk.weak (wkG [some 0,some 1,some 2,some 3,some 4] ⟨rfl,rfl,rfl,rfl,rfl,rfl,rfl,rfl,rfl,trivial⟩ ⟨⟨_,_,rfl,rfl,rfl,rfl,.inr ⟨⟨rfl,rfl,rfl,rfl,rfl,rfl,rfl,trivial⟩,trivial⟩⟩,wqE rfl pR,wqE rfl pZ,wqE rfl pW,wqE rfl pE1,trivial⟩ (by decide) (by decide)))
   ·cbv
    rw [e1,aM hg]
    exact hB ((⟨d++[v],wrap64 (s+v),true⟩,E1)) _ _ ⟨(by rw [hb]at hgo;exact hgo),⟨hinv,hdl⟩⟩ (Wk.weak (wkG [some 0,some 1,some 2,some 3,some 4] ⟨rfl,rfl,rfl,rfl,rfl,rfl,rfl,rfl,rfl,trivial⟩ ⟨⟨_,_,rfl,rfl,rfl,rfl,.inr ⟨⟨rfl,rfl,rfl,rfl,rfl,rfl,rfl,trivial⟩,trivial⟩⟩,wqE rfl pR,wqE rfl pZ,wqE rfl pW,wqE rfl pE1,trivial⟩ (by decide) (by decide)))
 obtain⟨⟨d,s,b⟩,eO⟩:=s
 obtain⟨i1,i2⟩:=hi
 dsimp only at i1 i2 h0
 rw [hR2]at h0
 simp only [S5.go,S5.mk.injEq]at h0
 obtain⟨h2,h3,h4⟩:=h0
 obtain rfl:OVS=d:=h2.symm
 obtain rfl:SM=s:=h3.symm
 obtain rfl:SB=b:=h4.symm
 have hO2:eO=vw ao OVS:=by rw [i1,hOl,Nat.sub_self];simp
 have pO:aj eO=true:=by rw [hO2];exact ag _ _
 have hsl:(shr rt WS).length=FR.length:=by rw [hWS,hFR];exact X.shr_len hX hf rt
 have cs:=mV rt WS (by omega)
 obtain⟨SH,hSH⟩:=nmE (shr rt WS)
 obtain⟨ES,hES⟩:=nmE (vw ao SH)
 have iES:bR ES=true:=by rw [hES];exact aG _ _
 have pES:aj ES=true:=ej iES
 rw [←hSH,←b1,←hES]at cs
 rw [←hSH]at hsl
 obtain⟨q3,hq3⟩:=nmE (FR.zip (OVS.zip SH))
 have heP:eP=q3.map fun t=>lc (ao t.1):=by
  rw [b2,hq3,vw]
  conv=>lhs;rw [←List.map_fst_zip (l₁:=FR) (l₂:=OVS.zip SH) (by rw [zqB];omega)]
  rw [List.map_map];rfl
 have hq3l:q3.length≤1048576:=by rw [hq3,zqB];omega
 obtain⟨R3,hR3⟩:=nmE (S3.mk (o1 (X.setS fr rt) sz) (oD ((X.setS fr rt).map (·.1)) fr))
 have h30:S3.go ⟨sz,fr⟩ (q3.filterMap (FU X SB SM))=R3:=by rw [hR3,X.setS_eq,←hFR,←hOVS,←hWS,←hSH,←hSB,←hSM,←hq3];rfl
 cbv;rw [he];cbv
 first|(refine bB hg cs (aq (ay rfl) (aq (bi (ab:=⟨_,_,eW⟩) rfl keW deW) (aF))) iES ?_;cbv)|(refine bN hg cs (aq (ay rfl) (aq (bi (ab:=⟨_,_,eW⟩) rfl keW deW) (aF))) iES ?_;cbv)
 refine aY hg aD (by kernel_rfl) eP (fun t=>lc (ao t.1)) q3 heP hq3l (fun z(s:S3×LLA×LLA)=>[(0,.p 0),(4,.v eP),(8,.o 3),(9,.i (SM)),(10,.t (abl (SB))),(14,.o 4),(15,.i (z))]) (fun z(s:S3×LLA×LLA)=>[.bx 300 7 [.view V,.J X.gap,.J X.inner,.B GR,.own 1,.own 2,.J p1],.rw ⟨4,1,s.2.2⟩,.rw ⟨3,1,s.2.1⟩,.rw ⟨3,1,eO⟩,.rw ⟨3,1,ES⟩]) (fun z(s:S3×LLA×LLA)=>s.2.1=vw ao s.1.s∧s.2.2=vw kg s.1.f∧s.1.s.length=X.xs.length∧s.1.f.length=X.xs.length) (fun(s:S3×LLA×LLA) rest=>S3.go s.1 (rest.filterMap (FU X SB SM))) (R3) (⟨sz,fr⟩,Z,R) h30 ⟨hZ,hR,hs,hf⟩ (Wk.weak (wkG [some 0,some 1,some 2,some 4,some 5] ⟨rfl,rfl,rfl,rfl,rfl,rfl,rfl,trivial⟩ ⟨⟨_,_,rfl,rfl,rfl,rfl,.inr ⟨⟨rfl,rfl,rfl,rfl,rfl,rfl,rfl,trivial⟩,trivial⟩⟩,wqE rfl pR,wqE rfl pZ,wqE rfl pO,wqE rfl pES,trivial⟩ (by decide) (by decide))) (fun z s B hz h0 hi he=> ?_) (fun z s x rest B z0 z1 z2 hx hy h0 hi hc e1 hB=> ?_)
 rotate_left
 ·obtain⟨⟨q,u⟩,eZ,eR⟩:=s
  obtain⟨k1,k2,k3,k4⟩:=hi
  dsimp only at k1 k2 k3 k4 h0
  obtain⟨x,o,sh⟩:=x
  have q12:=hx
  rw [hq3,List.getElem?_zip_eq_some,List.getElem?_zip_eq_some]at q12
  obtain⟨q1,q2,q4⟩:=q12
  have hzF:z.toNat<FR.length:=(List.getElem?_eq_some_iff.1 q1).1
  have hmem:x∈fre 0 fr:=hFR▸zqd q1
  have hfm:=gP fr 0 (Int.le_refl 0) x hmem
  have hi0:=hfm.1
  have hEPz:eP[z.toNat]? =some (lc (ao x)):=by rw [b2];exact bh q1
  have hEOz:eO[z.toNat]? =some (lc (ao o)):=by rw [hO2];exact bh q2
  have hESz:ES[z.toNat]? =some (lc (ao sh)):=by rw [hES];exact bh q4
  have hzO:z<bg eO:=by rw [hO2,aN];omega
  have hzS:z<bg ES:=by rw [hES,aN];omega
  obtain⟨y,hyd⟩:=nmE (itA X.xs x)
  have hVy:V[x.toNat]? =some (lc (ah.c y)):=by rw [hV0,hyd];exact bh (oI hfm.1 (by rw [←hf];omega))
  have hiR:x<bg eR:=by rw [k2,aN,k4,←hf];omega
  have hiZ:x<bg eZ:=by rw [k1,aN,k3,←hf];omega
  have hiw:x.toNat<u.length:=by rw [k4,←hf];omega
  have hiq:x.toNat<q.length:=by rw [k3,←hf];omega
  have sR:eR.set x.toNat [.B true]=vw kg (u.set x.toNat true):=by rw [iq,k2];rfl
  have sZ:∀v:Int,eZ.set x.toNat [.J v]=vw ao (q.set x.toNat v):=fun v=>by rw [iq,k1];rfl
  have pq:aj eZ=true:=by rw [k1];exact ag _ _
  have pu:aj eR=true:=by rw [k2];exact ag _ _
  have hse:FU X SB SM (x,o,sh)=if SB=false then some (x,cl (wrap64 (y.base+sh)))else if 0<o∧0≤SM then some (x,y.least)else if o<0∧SM≤0 then some (x,s4 y)else none:=by rw [hyd];rfl
  obtain⟨y0,y1,y2,y3,y4,y5,y6,y7,y8⟩:=y
  dsimp only at hse
  cbv
  rw [hc]
  cbv
  refine goX hg _ z0 hEPz rfl ?_
  cbv
  cases hSBc:SB
  ·cbv
   refine goX hg _ hi0 hVy rfl ?_
   cbv
   refine goY hg z0 hzS fun j3 hj3 hjl3=> ?_
   cbv
   refine⟨_,by rw [hj3];exact hESz,?_⟩
   cbv
   (first|refine bq hg (aO _) rfl (fun Q0 hQ0=> ?_)|refine aX hg (aO _) rfl (fun Q0 hQ0=> ?_));cbv
   rw [aM hg]at hQ0
   refine goY hg hi0 hiZ fun j2 hj2 hjl2=> ?_
   cbv
   refine goN hg ⟨_,by rw [hj2,k1];exact bh (zqc hiq),rfl⟩ ?_
   cbv
   refine goY hg hi0 hiR fun j hj hjl=> ?_
   cbv
   refine goN hg ⟨_,by rw [hj,k2];exact bh (zqc hiw),rfl⟩ ?_
   cbv
   rw [e1]
   simp only [mH hg]
   subst hj hj2
   exact hB ((⟨q.set x.toNat (Q0),u.set x.toNat true⟩,_,_)) _ _ ⟨(by rw [List.filterMap_cons_some (b:=(x,Q0)) (by rw [hse,if_pos hSBc,hQ0])]at h0;exact h0),⟨sZ _,sR,by simpa using k3,by simpa using k4⟩⟩ (Wk.weak (wkG [some 0,some 1,some 2,some 3,some 4] ⟨rfl,rfl,rfl,rfl,(by rw [hSBc];exact rfl),rfl,rfl,trivial⟩ ⟨⟨_,_,rfl,rfl,rfl,rfl,.inr ⟨⟨rfl,rfl,rfl,rfl,rfl,rfl,rfl,trivial⟩,trivial⟩⟩,⟨_,_,rfl,rfl,rfl,rfl,.inl ⟨rfl,sR.symm▸ag _ _⟩⟩,⟨_,_,rfl,rfl,rfl,rfl,.inl ⟨rfl,(sZ _).symm▸ag _ _⟩⟩,wqE rfl pO,wqE rfl pES,trivial⟩ (by decide) (by decide)))
  ·rw [if_neg (by rw [hSBc];simp)]at hse
   cbv
   refine goY hg z0 hzO fun j3 hj3 hjl3=> ?_
   cbv
   refine⟨_,by rw [hj3];exact hEOz,?_⟩
   cbv
   have tg:g .q .gtr o 0=decide (0<o):=by rw [cj hg]
   have tl:g .q .lss o 0=decide (o<0):=bn hg _ _
   have tm:g .q .geq SM 0=decide (0≤SM):=by rw [gO hg]
   have tn:g .q .leq SM 0=decide (SM≤0):=ip hg _ _
   by_cases c1:0<o
   ·rw [tg,zqu c1]
    cbv
    by_cases c2:0≤SM
    ·rw [tm,zqu c2]
     cbv
     refine goX hg _ hi0 hVy rfl ?_
     cbv
     refine goY hg hi0 hiZ fun j2 hj2 hjl2=> ?_
     cbv
     refine goN hg ⟨_,by rw [hj2,k1];exact bh (zqc hiq),rfl⟩ ?_
     cbv
     refine goY hg hi0 hiR fun j hj hjl=> ?_
     cbv
     refine goN hg ⟨_,by rw [hj,k2];exact bh (zqc hiw),rfl⟩ ?_
     cbv
     rw [e1]
     simp only [mH hg]
     subst hj hj2
     exact hB ((⟨q.set x.toNat (y1),u.set x.toNat true⟩,_,_)) _ _ ⟨(by rw [List.filterMap_cons_some (b:=(x,y1)) (by rw [hse,if_pos ⟨c1,c2⟩])]at h0;exact h0),⟨sZ _,sR,by simpa using k3,by simpa using k4⟩⟩ (Wk.weak (wkG [some 0,some 1,some 2,some 3,some 4] ⟨rfl,rfl,rfl,rfl,(by rw [hSBc];exact rfl),rfl,rfl,trivial⟩ ⟨⟨_,_,rfl,rfl,rfl,rfl,.inr ⟨⟨rfl,rfl,rfl,rfl,rfl,rfl,rfl,trivial⟩,trivial⟩⟩,⟨_,_,rfl,rfl,rfl,rfl,.inl ⟨rfl,sR.symm▸ag _ _⟩⟩,⟨_,_,rfl,rfl,rfl,rfl,.inl ⟨rfl,(sZ _).symm▸ag _ _⟩⟩,wqE rfl pO,wqE rfl pES,trivial⟩ (by decide) (by decide)))
    ·rw [tm,zqt c2]
     cbv
     refine goY hg z0 hzO fun j4 hj4 hjl4=> ?_
     cbv
     refine⟨_,by rw [hj4];exact hEOz,?_⟩
     cbv
     rw [tl,zqt (by omega)]
     cbv
     rw [e1]
     exact hB ((⟨q,u⟩,eZ,eR)) _ _ ⟨(by rw [List.filterMap_cons_none (by rw [hse,if_neg (fun h=>c2 h.2),if_neg (by omega)])]at h0;exact h0),⟨k1,k2,k3,k4⟩⟩ (Wk.weak (wkG [some 0,some 1,some 2,some 3,some 4] ⟨rfl,rfl,rfl,rfl,(by rw [hSBc];exact rfl),rfl,rfl,trivial⟩ ⟨⟨_,_,rfl,rfl,rfl,rfl,.inr ⟨⟨rfl,rfl,rfl,rfl,rfl,rfl,rfl,trivial⟩,trivial⟩⟩,wqE rfl pu,wqE rfl pq,wqE rfl pO,wqE rfl pES,trivial⟩ (by decide) (by decide)))
   ·rw [tg,zqt c1]
    cbv
    refine goY hg z0 hzO fun j4 hj4 hjl4=> ?_
    cbv
    refine⟨_,by rw [hj4];exact hEOz,?_⟩
    cbv
    by_cases c3:o<0
    ·rw [tl,zqu c3]
     cbv
     by_cases c4:SM≤0
     ·rw [tn,zqu c4]
      cbv
      refine goX hg _ hi0 hVy rfl ?_
      cbv
      (first|refine bq hg (dv ⟨y0,y1,y2,y3,y4,y5,y6,y7,y8⟩) rfl (fun Q0 hQ0=> ?_)|refine aX hg (dv ⟨y0,y1,y2,y3,y4,y5,y6,y7,y8⟩) rfl (fun Q0 hQ0=> ?_));cbv
      refine goY hg hi0 hiZ fun j2 hj2 hjl2=> ?_
      cbv
      refine goN hg ⟨_,by rw [hj2,k1];exact bh (zqc hiq),rfl⟩ ?_
      cbv
      refine goY hg hi0 hiR fun j hj hjl=> ?_
      cbv
      refine goN hg ⟨_,by rw [hj,k2];exact bh (zqc hiw),rfl⟩ ?_
      cbv
      rw [e1]
      simp only [mH hg]
      subst hj hj2
      exact hB ((⟨q.set x.toNat (Q0),u.set x.toNat true⟩,_,_)) _ _ ⟨(by rw [List.filterMap_cons_some (b:=(x,Q0)) (by rw [hse,if_neg (fun h=>c1 h.1),if_pos ⟨c3,c4⟩,hQ0])]at h0;exact h0),⟨sZ _,sR,by simpa using k3,by simpa using k4⟩⟩ (Wk.weak (wkG [some 0,some 1,some 2,some 3,some 4] ⟨rfl,rfl,rfl,rfl,(by rw [hSBc];exact rfl),rfl,rfl,trivial⟩ ⟨⟨_,_,rfl,rfl,rfl,rfl,.inr ⟨⟨rfl,rfl,rfl,rfl,rfl,rfl,rfl,trivial⟩,trivial⟩⟩,⟨_,_,rfl,rfl,rfl,rfl,.inl ⟨rfl,sR.symm▸ag _ _⟩⟩,⟨_,_,rfl,rfl,rfl,rfl,.inl ⟨rfl,(sZ _).symm▸ag _ _⟩⟩,wqE rfl pO,wqE rfl pES,trivial⟩ (by decide) (by decide)))
     ·rw [tn,zqt c4]
      cbv
      rw [e1]
      exact hB ((⟨q,u⟩,eZ,eR)) _ _ ⟨(by rw [List.filterMap_cons_none (by rw [hse,if_neg (fun h=>c1 h.1),if_neg (fun h=>c4 h.2)])]at h0;exact h0),⟨k1,k2,k3,k4⟩⟩ (Wk.weak (wkG [some 0,some 1,some 2,some 3,some 4] ⟨rfl,rfl,rfl,rfl,(by rw [hSBc];exact rfl),rfl,rfl,trivial⟩ ⟨⟨_,_,rfl,rfl,rfl,rfl,.inr ⟨⟨rfl,rfl,rfl,rfl,rfl,rfl,rfl,trivial⟩,trivial⟩⟩,wqE rfl pu,wqE rfl pq,wqE rfl pO,wqE rfl pES,trivial⟩ (by decide) (by decide)))
    ·rw [tl,zqt c3]
     cbv
     rw [e1]
     exact hB ((⟨q,u⟩,eZ,eR)) _ _ ⟨(by rw [List.filterMap_cons_none (by rw [hse,if_neg (fun h=>c1 h.1),if_neg (fun h=>c3 h.1)])]at h0;exact h0),⟨k1,k2,k3,k4⟩⟩ (Wk.weak (wkG [some 0,some 1,some 2,some 3,some 4] ⟨rfl,rfl,rfl,rfl,(by rw [hSBc];exact rfl),rfl,rfl,trivial⟩ ⟨⟨_,_,rfl,rfl,rfl,rfl,.inr ⟨⟨rfl,rfl,rfl,rfl,rfl,rfl,rfl,trivial⟩,trivial⟩⟩,wqE rfl pu,wqE rfl pq,wqE rfl pO,wqE rfl pES,trivial⟩ (by decide) (by decide)))
 obtain⟨⟨q,u⟩,eZ,eR⟩:=s
 obtain⟨k1,k2,k3,k4⟩:=hi
 dsimp only at k1 k2 k3 k4 h0
 cbv;rw [he];cbv
 have hfin:S3.mk q u=R3:=h0
 rw [hR3]at hfin
 simp only [S3.mk.injEq]at hfin
 exact wO hF rfl rfl rfl ⟨rfl,rfl,rfl,rfl,rfl,rfl,rfl,trivial⟩ (by rw [k2];exact ag _ _) (by rw [k1];exact ag _ _) rfl ⟨_,rfl,p1,q,u,by simp [hn],by rw [k1,k2],by rw [if_neg hn];exact hfin.1,by rw [if_neg hn];exact hfin.2⟩
end Go.Proofs.YtdnnffbbhijmkaaGreat
