/- A node's table is set. -/
import Derived.Test.YtckchgoblpgpbaaGreatJ6au
set_option linter.unusedVariables false
set_option linter.unusedSimpArgs false
set_option maxHeartbeats 16000000
namespace Go.Proofs.YtckchgoblpgpbaaGreat
open Go.ChangeShapes Go.WideShapes Go.ChangeAt Go.RowKit Am Go.Proofs.Tryz
set_option maxRecDepth 100000
def upD(ns:List af):Nat->Int->Prop
 |0,n=>isN ns n=false
 |k+1,n=>isN ns n=false\/upD ns k (upN ns n)
variable {ns:List af}
theorem zX{n:Int}(h:isN ns n=false):∀k,upD ns k n
 |0=>h
 |_+1=> .inl h
theorem tB(ns:List af):isN ns 0=false:=by simp [isN,rng]
theorem vv{ns:List af}:∀(f:Nat)(k n:Int),mi ns f k n≠0->upD ns f n
 |0,k,n,h=>by
  by_cases h0:n=0
  ·subst h0;exact tB ns
  ·exact absurd (qu ns h0) h
 |f+1,k,n,h=>by
  by_cases h0:n=0
  ·subst h0;exact .inl (tB ns)
  ·cases hi:isN ns n
   ·exact .inl hi
   ·rw [fg ns h0 hi]at h
    exact .inr (vv f _ _ h)
theorem vx(h:aV ns=true)(n:Int):upD ns ns.length n:=by
 cases hi:isN ns n
 ·exact zX hi _
 ·obtain⟨i1,i2,x,hx⟩:=aI hi
  simp only [aV,zqs]at h
  have h3:=(eJ ns ns 0).1 h.2 (n-1).toNat x hx
  rw [show(0:Int)+(((n-1).toNat:Nat):Int)+1=n by omega]at h3
  simp only [bP,zqs,rng,zqp]at h3
  exact vv _ 0 n (by show jn ns n≠0;omega)
def u7(ns:List af)(xs:List ag):Nat->Int->Int->Int->Int×Int
 |0,_,X,Y=>(X,Y)
 |k+1,n,X,Y=>if isN ns n=true then(if upN ns n=0\/(frF (upN ns n) xs).2=false then(X,Y)else u7 ns xs k (upN ns n) (wrap64 (X+(frF (upN ns n) xs).1.x)) (wrap64 (Y+(frF (upN ns n) xs).1.y)))else(X,Y)
def DW(ns:List af)(xs:List ag)(f:ag):ag:=⟨f.node,(u7 ns xs ns.length f.node f.x f.y).1,(u7 ns xs ns.length f.node f.x f.y).2,f.wide,f.high⟩
def BR(ns:List af)(xs:List ag):List ag:=if aV ns=true then xs.map (DW ns xs)else xs
variable {xs:List ag}
theorem yL{n:Int}(h:isN ns n=false)(k:Nat)(X Y:Int):u7 ns xs k n X Y=(X,Y):=by cases k<;>simp [u7,h]
theorem yM{n u:Int}{f:ag}{ok:Bool}(h:isN ns n=true)(hu:upN ns n=u)(hf:frF u xs=(f,ok))(hs:u=0\/ok=false)(k:Nat)(X Y:Int):u7 ns xs (k+1) n X Y=(X,Y):=by
 rw [u7,if_pos h,hu,hf,if_pos hs]
theorem Br{n u:Int}{f:ag}(h:isN ns n=true)(hu:upN ns n=u)(hf:frF u xs=(f,true))(hs:u≠0)(k:Nat)(X Y:Int):u7 ns xs (k+1) n X Y=u7 ns xs k u (wrap64 (X+f.x)) (wrap64 (Y+f.y)):=by
 rw [u7,if_pos h,hu,hf,if_neg (by simp [hs])]
structure sI(V G E:LLA)(z:Int):Prop where
 z0:0<=z
 z1:z<=aC V
 vg:V.length=G.length
 el:E.length=V.length
 eq:∀i:Nat,E[i]? =if(i:Int)<z then G[i]? else V[i]?
theorem sI.start{V G:LLA}(h:V.length=G.length):sI V G V 0:=⟨Int.le_refl 0,by rw [ar];omega,h,rfl,fun i=>by rw [if_neg (by omega)]⟩
variable {z:Int}{y:List AC}
theorem sI.at{V G E:LLA}(h:sI V G E z)(hy:V[z.toNat]? =some y):E[z.toNat]? =some y:=by
 have h0:=h.z0
 rw [h.eq,if_neg (by omega),hy]
theorem sI.step{V G E:LLA}(h:sI V G E z)(hz:z<aC V)(hy:G[z.toNat]? =some y):sI V G (E.set z.toNat y) (z+1):=by
 have h0:=h.z0
 have hl:=h.el
 rw [ar]at hz
 refine⟨by omega,by rw [ar];omega,h.vg,by rw [List.length_set,hl],fun i=> ?_⟩
 rw [List.getElem?_set]
 by_cases hi:z.toNat=i
 ·subst hi
  rw [if_pos rfl,if_pos (by omega),if_pos (by omega),hy]
 ·rw [if_neg hi,h.eq]
  by_cases hj:(i:Int)<z
  ·rw [if_pos hj,if_pos (by omega)]
  ·rw [if_neg hj,if_neg (by omega)]
theorem sI.done{V G E:LLA}(h:sI V G E z)(hz:¬z<aC V):E=G:=by
 rw [ar]at hz
 refine List.ext_getElem? fun i=> ?_
 have h1:=h.el
 have h2:=h.vg
 rw [h.eq]
 by_cases hi:(i:Int)<z
 ·rw [if_pos hi]
 ·rw [if_neg hi,zqz (by omega),zqz (by omega)]
theorem sI.plain{V G E:LLA}(h:sI V G E z)(hV:aO V=true)(hG:aO G=true):aO E=true:=by
 rw [aO,zqf]
 intro x hx
 obtain⟨i,hi⟩:=List.getElem?_of_mem hx
 rw [h.eq]at hi
 by_cases hj:(i:Int)<z
 ·rw [if_pos hj]at hi;exact List.all_eq_true.1 hG x (zqd hi)
 ·rw [if_neg hj]at hi;exact List.all_eq_true.1 hV x (zqd hi)
theorem np(ns:List af)(hl:ns.length<=1048576)(hs:∀y∈ns,y.small)(xs:List ag)(hx:xs.length<=1048576):cj prog 14 [.agg [.view (vwA af.ac ns)],.c (.view (vw ag.c xs))] fun res hw=>res= .o 0/\hw=[⟨45,5,vw ag.c (BR ns xs)⟩]:=by
 have cc:=lh xs hx
 have cT:=kl ns hl hs
 have cF:=jx xs hx
 obtain⟨T,hT⟩:=nmE (vwA af.ac ns)
 have hE:aC T=(ns.length:Int):=by rw [ar,hT,bi]
 have ht:∀n,isN ns n=rng n 1 (aC T):=fun n=>by rw [hE];rfl
 have xS:aC T<=1048576:=by omega
 obtain⟨V,hV⟩:=nmE (vw ag.c xs)
 have xT:=lmV hV
 have iV:=imV hV
 have kV:=kmV (k:=5) hV fun _=>rfl
 have dV:=dmV hV
 have pV:=eI iV
 obtain⟨G,hG⟩:=nmE (vw ag.c (BR ns xs))
 have pG:=pmV hG
 have x0:aC V<=1048576:=by rw [ar];omega
 rw [<-hV]at cc cF
 rw [<-hT]at cT
 rw [<-hT,<-hV,<-hG]
 refine ae (aM f14) aB func14 fun g F hg hF=> ?_
 cbv
 refine bQ hg cc (bK rfl) iV ?_
 cbv
 cases hTB:aV ns
 case false=>
  rw [hTB]at cT
  refine ad hg cT ?_
  cbv
  have xQ:V=G:=by rw [hG,BR,hTB,hV];rfl
  rw [<-xQ]at hF
  exact db hF rfl pV
 rw [hTB]at cT
 refine ad hg cT ?_
 cbv
 replace hG:G=vw ag.c (xs.map (DW ns xs)):=by rw [hG,BR,if_pos hTB]
 have xR:G.length=xs.length:=by rw [hG,ao];simp
 have xV:=vx hTB
 refine bV hg aB (by kernel_rfl) (fun t:Int×LLA=>[(1,.v V),(2,.p 0),(5,.o 1),(17,.i (g .ln V)),(18,.i t.1)]) (fun t=>[.bx 28 1 [.view T],.rw ⟨45,5,t.2⟩]) (fun t=>sI V G t.2 t.1) (fun t=>(aC V).toNat-t.1.toNat)
  (0,V) [some 0,some 1] (sI.start (by rw [xR,xT])) (wkS [0,1] (by decide) ⟨⟨_,rfl,rfl,rfl⟩,⟨_,rfl,rfl,pV⟩,trivial⟩ zr5) (fun t B hd hB=> ?_)
 obtain⟨z,E⟩:=t
 simp only at hd
 have h0:=hd.z0
 have h1:=hd.z1
 have x3:=hd.el
 cbv
 cases hc:g .q .lss z (g .ln V)
 ·rw [bF hg,bO hg,zqo]at hc
  cbv
  obtain rfl:=hd.done hc
  exact db hF rfl pG
 rw [bF hg,bO hg,zqp]at hc
 cbv
 obtain⟨x,hJ⟩:=ub (xs:=xs) h0 (by rw [ar]at hc;omega)
 have xW:V[z.toNat]? =some (lc (ag.c x)):=by rw [hV];exact bv hJ
 have xP:G[z.toNat]? =some (lc (ag.c (DW ns xs x))):=by rw [hG];exact bv (by simp [hJ])
 have he:=hd.at xW
 obtain⟨j,hj⟩:=nmE z.toNat
 have hk:j<E.length:=by rw [ar]at hc;omega
 have hH:=hd.plain pV pG
 have ha:=hd.step hc xP
 obtain⟨a0,a1,a2,a3,a4⟩:=x
 obtain⟨RX,hA⟩:=nmE (u7 ns xs ns.length a0 a1 a2)
 replace ha:sI V G (E.set z.toNat [.J a0,.J RX.1,.J RX.2,.J a3,.J a4]) (z+1):=by rw [hA];exact ha
 replace he:E[z.toNat]? =some [.J a0,.J a1,.J a2,.J a3,.J a4]:=he
 rw [<-hj]at he ha
 refine CJ hg h0 hj hk ?_
 cbv
 refine⟨_,he,?_⟩
 cbv
 refine bV hg aB (by kernel_rfl) (fun t:Nat×Int×Int×Int×LLA=>[(1,.v V),(2,.p 0),(5,.o 1),(6,.i z),(7,.i t.2.1),(17,.i (g .ln V)),(18,.i z)]) (fun t=>[.bx 28 1 [.view T],.rw ⟨45,5,t.2.2.2.2⟩])
  (fun t=>upD ns t.1 t.2.1/\u7 ns xs t.1 t.2.1 t.2.2.1 t.2.2.2.1=RX/\t.2.2.2.2=E.set j [.J a0,.J t.2.2.1,.J t.2.2.2.1,.J a3,.J a4]) (fun t=>t.1)
  (ns.length,a0,a1,a2,E) [some 0,some 1] ⟨xV _,hA.symm,(xJ he).symm⟩ (wkS [0,1] (by decide) ⟨⟨_,rfl,rfl,rfl⟩,⟨_,rfl,rfl,hH⟩,trivial⟩ zr7) (fun t B2 hv xO=> ?_)
 obtain⟨k,n,X,Y,R⟩:=t
 obtain⟨hu,hU,hR⟩:=hv
 simp only at hu hU hR
 cbv
 have ci:=fE T n
 rw [<-ht n]at ci
 cases hi:isN ns n
 ·rw [hi]at ci
  rw [yL hi]at hU
  refine ad hg ci ?_
  cbv
  have e1:g .w .add .i64 z 1=z+1:=by rw [aJ hg,az _ (by omega)]
  rw [e1]
  subst hU
  rw [<-hR]at ha
  exact gA hB (z+1,_) [some 0,some 1] (wkS [0,1] (by decide) ⟨⟨_,rfl,rfl,rfl⟩,⟨_,rfl,rfl,ha.plain pV pG⟩,trivial⟩ zr5) ha (by show(aC V).toNat-(z+1).toNat<(aC V).toNat-z.toNat;omega)
 rw [hi]at ci
 refine ad hg ci ?_
 cbv
 cases k with
 |zero=>exact absurd hu (by rw [upD,hi];decide)
 |succ k=>
 obtain⟨i1,i2,x,hx⟩:=aI hi
 have xU:n<=1048576:=Int.le_trans (hE▸i2) xS
 have ho:T[(n-1).toNat]? =some x.ac:=by rw [hT];exact fy hx
 have hp:=lx hx
 have hI:upD ns k x.up:=by
  rcases hu with h|h
  ·rw [hi]at h;cases h
  ·rw [<-hp];exact h
 obtain⟨b0,b1,⟨b2,b3,b4,b5,b6,b7,b8,b9,hN,hO,hS,⟨hW,hX⟩,⟨hY,hZ⟩,⟨h2,h3⟩,⟨h4,h5⟩,⟨h6,h7⟩,⟨h8,h9⟩,⟨xa,xb⟩,xc,⟨⟨xd,xe⟩,⟨xf,xg⟩,⟨xh,xi⟩,⟨xj,xk⟩,⟨xl,xm⟩,⟨xn,xo⟩⟩,⟨⟨xp,xq⟩,⟨xr,xt⟩,⟨xu,xv⟩,⟨xw,xx⟩,⟨xy,xz⟩,⟨xA,xB⟩⟩,⟨xC,xD,xE,xF⟩,⟨xG,xH,xI,xK⟩,xL,xM⟩,xN,⟨hy⟩⟩:=x
 replace ho:T[(n-1).toNat]? =some [.J b0,.view (vw ak b1),.J b2,.J b3,.J b4,.J b5,.J b6,.J b7,.B b8,.B b9,.J hN,.J hO,.J hS,.J hW,.J hX,.J hY,.J hZ,.J h2,.J h3,.J h4,.J h5,.J h6,.J h7,.J h8,.J h9,.J xa,.J xb,.J xc,.J xd,.J xe,.J xf,.J xg,.J xh,.J xi,.J xj,.J xk,.J xl,.J xm,.J xn,.J xo,.J xp,.J xq,.J xr,.J xt,.J xu,.J xv,.J xw,.J xx,.J xy,.J xz,.J xA,.J xB,.J xC,.J xD,.J xE,.J xF,.J xG,.J xH,.J xI,.J xK,.J xL,.J xM,.B xN,.view (vw aK.c hy)]:=ho
 obtain⟨xY,hq⟩:=nmE (vw ak b1)
 obtain⟨hM,hf⟩:=nmE (vw aK.c hy)
 rw [<-hq,<-hf]at ho
 simp only at hp hI
 refine ad hg (d4 T n i1 xU ho) ?_
 cbv
 have cf:=cF b0
 obtain⟨⟨⟨r0,r1,r2,r3,r4⟩,ok⟩,hr⟩:∃r,r=frF b0 xs:=⟨_,rfl⟩
 rw [<-hr]at cf
 refine ad hg cf ?_
 cbv
 have hD:j<R.length:=by rw [hR,List.length_set];exact hk
 have hC:R[j]? =some [.J a0,.J X,.J Y,.J a3,.J a4]:=by rw [hR];exact List.getElem?_set_self hk
 have hn:(b0=0\/ok=false)->(X,Y)=RX:=fun h=>by rw [<-hU,yM hi hp hr.symm h]
 have hb:b0≠0->ok=true->u7 ns xs k b0 (wrap64 (X+r1)) (wrap64 (Y+r2))=RX:=fun h h'=>by subst h';rw [<-hU,Br hi hp hr.symm h]
 have ez:g .w .add .i64 z 1=z+1:=by rw [aJ hg,az _ (by omega)]
 have hh:(X,Y)=RX->sI V G R (z+1):=fun h=>by subst h;rw [hR];exact ha
 cases e0:g .q .eql b0 0
 case true=>
  rw [bA hg,beq_iff_eq]at e0
  have hm:=hh (hn (.inl e0))
  cbv
  rw [ez]
  exact gA hB (z+1,_) [some 0,some 1] (wkS [0,1] (by decide) ⟨⟨_,rfl,rfl,rfl⟩,⟨_,rfl,rfl,hm.plain pV pG⟩,trivial⟩ zr5) hm (by show(aC V).toNat-(z+1).toNat<(aC V).toNat-z.toNat;omega)
 rw [bA hg,zqr]at e0
 cases ok
 case false=>
  have hm:=hh (hn (.inr rfl))
  cbv
  rw [ez]
  exact gA hB (z+1,_) [some 0,some 1] (wkS [0,1] (by decide) ⟨⟨_,rfl,rfl,rfl⟩,⟨_,rfl,rfl,hm.plain pV pG⟩,trivial⟩ zr5) hm (by show(aC V).toNat-(z+1).toNat<(aC V).toNat-z.toNat;omega)
 replace hb:=hb e0 rfl
 obtain⟨P,hP⟩:=nmE (wrap64 (X+r1))
 obtain⟨Q,hQ⟩:=nmE (wrap64 (Y+r2))
 have eP:g .w .add .i64 X r1=P:=by rw [aJ hg,hP]
 have eQ:g .w .add .i64 Y r2=Q:=by rw [aJ hg,hQ]
 rw [<-hP,<-hQ]at hb
 cbv
 refine CJ hg h0 hj hD ?_
 cbv
 refine⟨_,hC,?_⟩
 cbv
 refine CJ hg h0 hj hD ?_
 cbv
 refine⟨_,hC,?_⟩
 cbv
 rw [eP]
 generalize hG1:g .st _ _ _=R1
 generalize hX1:wf _ _ _=x1 at hG1
 cbv at hX1
 subst hX1
 obtain⟨xX,hz,hK⟩:=vH hg hG1 hR hk
 clear hG1
 refine CJ hg h0 hj hK ?_
 cbv
 refine⟨_,hz,?_⟩
 cbv
 refine CJ hg h0 hj hK ?_
 cbv
 refine⟨_,hz,?_⟩
 cbv
 rw [eQ]
 generalize hG2:g .st _ _ _=R2
 generalize hX2:wf _ _ _=x2 at hG2
 cbv at hX2
 subst hX2
 obtain⟨hL,xZ,x4⟩:=vH hg hG2 xX hk
 clear hG2
 exact gA xO (k,b0,P,Q,R2) [some 0,some 1] (wkS [0,1] (by decide) ⟨⟨_,rfl,rfl,rfl⟩,⟨_,rfl,rfl,(by rw [hL];exact qY hH rfl)⟩,trivial⟩ zr7) ⟨hI,hb,hL⟩ (Nat.lt_succ_self _)
def ik(ns:List af)(a:Int):Nat->Int->Bool
 |0,_=>false
 |k+1,n=>isN ns n&&(if upN ns n=a then isN ns a else ik ns a k (upN ns n))
theorem lY{a n:Int}(h:isN ns n=false)(k:Nat):ik ns a k n=false:=by cases k<;>simp [ik,h]
theorem sQ{a n u:Int}(h:isN ns n=true)(hu:upN ns n=u)(hs:u=a)(k:Nat):ik ns a (k+1) n=isN ns a:=by rw [ik,h,hu,if_pos hs];rfl
theorem vy{a n u:Int}(h:isN ns n=true)(hu:upN ns n=u)(hs:u≠a)(k:Nat):ik ns a (k+1) n=ik ns a k u:=by rw [ik,h,hu,if_neg hs];rfl
theorem mp{ns:List af}{a:Int}:∀(k:Nat)(n:Int),upD ns k n->ik ns a (k+1) n=ik ns a k n
 |0,n,h=>lY h 1
 |k+1,n,h=>by
  rcases h with h|h
  ·rw [lY h,lY h]
  ·have:=mp (a:=a) k _ h
   show(isN ns n&&(if upN ns n=a then isN ns a else ik ns a (k+1) (upN ns n)))=(isN ns n&&(if upN ns n=a then isN ns a else ik ns a k (upN ns n)))
   rw [this]
theorem nT(ns:List af)(hl:ns.length<=1048576)(n0 a:Int)(hud:upD ns ns.length n0):PC0 37 [.agg [.view (vwA af.ac ns)],ai n0,ai a] (.t (abl (ik ns a ns.length n0))):=by
 rw [<-mp ns.length n0 hud]
 clear hud
 obtain⟨T,hT⟩:=nmE (vwA af.ac ns)
 have hk:aC T=(ns.length:Int):=by rw [ar,hT,bi]
 have hb:∀n,isN ns n=rng n 1 (aC T):=fun n=>by rw [hk];rfl
 have xo:aC T<=1048576:=by omega
 have xu:0<=aC T:=by omega
 have xq:∀z:Int,0<=z->z<=aC T->ns.length+1-z.toNat=(ns.length+1-(z+1).toNat)+1:=fun d h0 h1=>by omega
 have xp:∀z:Int,¬z<=aC T->ns.length+1-z.toNat=0:=fun z h=>by omega
 obtain⟨R,hR⟩:=nmE (ik ns a (ns.length+1) n0)
 have xs:ik ns a (ns.length+1-(0:Int).toNat) n0=R:=by rw [hR];rfl
 rw [<-hR,<-hT]
 have ca:=dz T a
 rw [<-hb a]at ca
 refine ae (aM f37) aB func37 fun g F hg hF=> ?_
 cbv
 refine bV hg aB (by kernel_rfl) (fun s:Int×Int=>[(1,.i s.2),(2,.i a),(3,.p 0),(7,.i s.1)]) (fun _=>[.bx 28 1 [.view T]]) (fun s=>0<=s.1/\ik ns a (ns.length+1-s.1.toNat) s.2=R) (fun s=>(aC T+1).toNat-s.1.toNat)
  (0,n0) [some 0] ⟨Int.le_refl 0,xs⟩ (wkS [0] (by decide) ⟨⟨_,rfl,rfl,rfl⟩,trivial⟩ zr4) (fun s B hs hB=> ?_)
 obtain⟨z,n⟩:=s
 obtain⟨h0,hU⟩:=hs
 simp only at h0 hU
 cbv
 cases hc:g .q .leq z (g .ln T)
 ·rw [iO hg,bO hg,zqo]at hc
  cbv
  exact aY hF (by rw [<-hU,xp z hc];rfl)
 rw [iO hg,bO hg,zqp]at hc
 cbv
 have cn:=dz T n
 rw [<-hb n]at cn
 cases hi:isN ns n
 case false=>
  rw [hi]at cn
  refine ad hg cn ?_
  cbv
  exact aY hF (by rw [<-hU,lY hi])
 rw [hi]at cn
 refine ad hg cn ?_
 cbv
 obtain⟨i1,i2,x,hx⟩:=aI hi
 have xr:n<=1048576:=Int.le_trans (hk▸i2) xo
 have hd:T[(n-1).toNat]? =some x.ac:=by rw [hT];exact fy hx
 have hh:=lx hx
 rw [xq z h0 hc]at hU
 obtain⟨b0,b1,⟨b2,b3,b4,b5,b6,b7,b8,b9,hn,ho,hp,⟨hq,hr⟩,⟨ht,hu⟩,⟨hv,hw⟩,⟨hy,hz⟩,⟨hA,hC⟩,⟨hD,hE⟩,⟨hG,hH⟩,hI,⟨⟨hJ,hK⟩,⟨hL,hM⟩,⟨hN,hO⟩,⟨hP,hQ⟩,⟨hS,hV⟩,⟨hW,hX⟩⟩,⟨⟨hY,hZ⟩,⟨h2,h3⟩,⟨h4,h5⟩,⟨h6,h7⟩,⟨h8,h9⟩,⟨xa,xb⟩⟩,⟨xc,xd,xe,xf⟩,⟨xg,xh,xi,xj⟩,xk,xl⟩,xm,⟨hj⟩⟩:=x
 replace hd:T[(n-1).toNat]? =some [.J b0,.view (vw ak b1),.J b2,.J b3,.J b4,.J b5,.J b6,.J b7,.B b8,.B b9,.J hn,.J ho,.J hp,.J hq,.J hr,.J ht,.J hu,.J hv,.J hw,.J hy,.J hz,.J hA,.J hC,.J hD,.J hE,.J hG,.J hH,.J hI,.J hJ,.J hK,.J hL,.J hM,.J hN,.J hO,.J hP,.J hQ,.J hS,.J hV,.J hW,.J hX,.J hY,.J hZ,.J h2,.J h3,.J h4,.J h5,.J h6,.J h7,.J h8,.J h9,.J xa,.J xb,.J xc,.J xd,.J xe,.J xf,.J xg,.J xh,.J xi,.J xj,.J xk,.J xl,.B xm,.view (vw aK.c hj)]:=hd
 obtain⟨xt,hf⟩:=nmE (vw ak b1)
 obtain⟨hm,ha⟩:=nmE (vw aK.c hj)
 rw [<-hf,<-ha]at hd
 simp only at hh
 refine ad hg (bz T n i1 xr hd) ?_
 cbv
 cases he:g .q .eql b0 a
 case true=>
  rw [bA hg,beq_iff_eq]at he
  cbv
  refine bN hg ca rfl (fun R1 xn=> ?_)
  cbv
  exact aY hF (by rw [<-hU,sQ hi hh he,xn])
 rw [bA hg,zqr]at he
 rw [vy hi hh he]at hU
 cbv
 have e1:g .w .add .i64 z 1=z+1:=by rw [aJ hg,az _ (by omega)]
 rw [e1]
 exact gA hB (z+1,b0) [some 0] (wkS [0] (by decide) ⟨⟨_,rfl,rfl,rfl⟩,trivial⟩ zr4) ⟨by simp only;omega,hU⟩ (by show(aC T+1).toNat-(z+1).toNat<(aC T+1).toNat-z.toNat;omega)
structure fo(k:Nat)(E V:LLA)(lo:Nat):Prop where
 kk:∀e∈E,e.length=k
 bare:∀e∈E,e.all jP=true
 eq:E.map (·.map vwC)=V
 new:jT lo (fpE E)
theorem qo(a b:LLA):fpE (a++b)=fpE a++fpE b:=List.flatMap_append ..
theorem fo.nil(k lo:Nat):fo k [] [] lo:=⟨fun e h=>by simp at h,fun e h=>by simp at h,rfl,jT.nil lo⟩
variable {E V:LLA}
theorem fo.len{k lo:Nat}(h:fo k E V lo):E.length=V.length:=by rw [<-h.eq,zql]
structure nJ(k:Nat)(V es:LLA)(z:Int)(lo:Nat):Prop where
 z0:0<=z
 z1:z<=aC V
 cp:fo k es (V.take z.toNat) lo
theorem nJ.start(k:Nat)(V:LLA)(lo:Nat):nJ k V [] 0 lo:=⟨Int.le_refl 0,by rw [ar];omega,fo.nil k lo⟩
variable {lo:Nat}{k:Nat}
theorem nJ.len{V es:LLA}(h:nJ k V es z lo):es.length<=V.length:=by rw [h.cp.len,List.length_take];omega
theorem nJ.done{V es:LLA}(h:nJ k V es z lo)(hz:¬z<aC V):fo k es V lo:=by
 have:=h.cp
 rwa [List.take_of_length_le (by rw [ar]at hz;omega)]at this
theorem qn{ab:AB}:∀(h:EH)(r:Nat),h[r]? =some (.rw ab)->∀b∈fpE ab.es,b∈fpH h
 | [],r,hr,b,hb=>by simp at hr
 |e::h,0,hr,b,hb=>by simp at hr;subst hr;exact List.mem_append_left _ hb
 |e::h,r+1,hr,b,hb=>by have:=qn h r (by simpa using hr) b hb;cases e<;>first|exact List.mem_append_right _ this|exact this
variable {es:LLA}
theorem AQ{P:Program}{n0 N:Nat}{β:BP}{g:Gd}(hg:g=G0 P n0 N){t k by_:Nat}{q:Prop}(hk:y.length=k)(hb:by_<=65536)(hl:es.length<=1048576)(hq:q):
  g .N ((∀x,x∈[y]->x.length=k)/\((AB.mk t k es).es.length+[y].length)*by_<=140737488355328/\(AB.mk t k es).es.length+[y].length<=4611686018427387904) q:=
 goN hg ⟨fun x hx=>by rw [List.mem_singleton.1 hx];exact hk,Nat.le_trans (Nat.mul_le_mul (show es.length+1<=1048577 by omega) hb) (by decide),by show es.length+1<=_;omega⟩ hq
theorem bU{bl:Nat->Nat}{h:AH}{r t k k' lo:Nat}(hr:h[r]? =some (.live ⟨t,k,E⟩))(hc:fo k' E V lo):o9 bl h (.own r) (.fv (hd1 (bl r) E++fpE E) V):=by
 have:=qU (bl:=bl) hr hc.bare
 rw [hc.eq]at this
 exact this
section
variable {P:Program}{n0 N:Nat}{g:Gd}
end
theorem nJ.step2{V es:LLA}{y v:List AC}(h:nJ k V es z lo)(hv:V[z.toNat]? =some v)(hy:y.map vwC=v)(hk:y.length=k)(hb:y.all jP=true)(hn:jT lo (fpL y))(hd:∀b∈fpE es,b∉fpL y):nJ k V (es++[y]) (z+1) lo:=by
 have h0:=h.z0
 have hl:=(List.getElem?_eq_some_iff.1 hv).1
 refine⟨by omega,by rw [ar];omega,⟨fun e he=> ?_,fun e he=> ?_,?_,?_⟩⟩
 ·rcases List.mem_append.1 he with h1|h1
  ·exact h.cp.kk e h1
  ·rw [List.mem_singleton.1 h1];exact hk
 ·rcases List.mem_append.1 he with h1|h1
  ·exact h.cp.bare e h1
  ·rw [List.mem_singleton.1 h1];exact hb
 ·rw [show(z+1).toNat=z.toNat+1 by omega,List.take_add_one,hv,List.map_append,h.cp.eq,<-hy];rfl
 ·rw [qo,show fpE [y]=fpL y from List.append_nil _]
  exact⟨List.nodup_append.2 ⟨h.cp.new.1,hn.1,fun a h1 b h2 he=>by subst he;exact hd a h1 h2⟩,fun b ha=>(List.mem_append.1 ha).elim (h.cp.new.2 b) (hn.2 b)⟩
theorem wP{b:Nat}(hi:so es=true):(AC.fv (hd1 b es++fpE es) (es.map (·.map vwC)))= .fv (hd1 b es) es:=by rw [CF hi,CG hi,List.append_nil]
theorem nq(hi:so es=true):∀e∈es,e.all jP=true:=fun e he=>List.all_eq_true.2 fun c hc=>by obtain⟨u,rfl⟩:=wM hi e he c hc;rfl
section
variable {P:Program}{n0 N:Nat}{g:Gd}
theorem sB{β:BP}(hg:g=G0 P n0 N){h:EH}{f:FuncId}{args args':List AT}{K:AV->EH->Prop}{t k:Nat}{Q:Nat->LLA->Prop}(hc:Bs P f args' fun lo res hb=>∃E,res= .t (.agg [.own 0])/\hb=[⟨t,k,E⟩]/\Q lo E)(ha:dwA args args')
  (hp:∀lo E,Q lo E->aO E=true)
  (hK:∀lo E,BP.lo<=lo->(∀b∈fpH h,b<lo)->(∀b∈fpA args,b<lo)->Q lo E->K (.t (.agg [.own (jH h)])) (h++[.rw ⟨t,k,E⟩])):g .C f h args K:=
 DR hg hc ha fun lo res hb h1 h2 h3⟨E,hres,hrows,hQ⟩=>by
  subst hres hrows
  refine⟨[.rw ⟨t,k,E⟩],?_,?_⟩
  ·simp only [zqA,List.map_nil,fN (ab:=⟨t,k,E⟩) (hp lo E hQ)];rfl
  ·have:=hK lo E h1 h2 h3 hQ
   rw [bR]at this
   rw [aQ];exact this
theorem CQ{β:BP}{F:List AT->EH->Prop}{Post:AV->List AB->Prop}{r:Nat}{eh:EH}{ab:AB}(hF:F=fun xs eh=>BU Post xs (toH eh))(hr:nth eh r=some (.rw ab))(hp:aO ab.es=true)(hpost:Post (.t (.agg [.own 0])) [ab]):F [.agg [.own r]] eh:=by
 subst hF
 refine .inl ⟨.t (.agg [.own 0]),[.live ab],[some r],⟨Nat.zero_le _,fun i hi=>absurd hi (Nat.not_lt_zero _),by simp,?_,?_⟩,[ab],rfl,hpost⟩
 ·simp only [rnH,zqw,dJ hr]
  exact⟨fun h=>absurd h (Nat.not_lt_zero _),⟨by first|trivial|rfl,by first|trivial|rfl,.inl ⟨by first|trivial|rfl,hp⟩⟩,trivial⟩
 ·exact⟨.inr zr1,trivial⟩
end
theorem jq(ns:List af)(hl:ns.length<=1048576)(hs:∀y∈ns,af.small y):Bs prog 33 [.agg [.view (vwA af.ac ns)]] fun lo res xE=>∃E,res= .t (.agg [.own 0])/\xE=[⟨69,64,E⟩]/\fo 64 E (vwA af.ac ns) lo:=by
 obtain⟨M,hM⟩:=nmE (vwA af.ac ns)
 have xN:M.length=ns.length:=by rw [hM,bi]
 have xO:aC M=(ns.length:Int):=by rw [ar,xN]
 have xS:aC M<=1048576:=by omega
 rw [<-hM]
 refine pm ([(6,.hand),(7,.hand)]) ([]) (c:=aM f33) aB func33 (by kernel_rfl) (by kernel_rfl) (by rfl) (by kernel_rfl) fun β g xR hd F xw xy hg hF=> ?_
 cbv
 refine i9 [(6,.hand),(7,.hand)] [] xw xy hg aB (by kernel_rfl) (fun s:Int×LLA=>[(1,.p 3),(2,.p 0),(3,.p 1),(4,.i (s.1))]) (fun s=>[.bx 28 1 [.N],.bx 28 1 [.own 2],.rw ⟨69,64,s.2⟩,.bx 28 1 [.view M]]) (fun s=>nJ 64 M s.2 s.1 β.lo) (fun s=>(aC M).toNat-s.1.toNat)
  (0,[]) (nJ.start 64 M β.lo) (Wk.weak (wkG [some 1,some 2,none,some 0] zr4 ⟨wqE rfl rfl,⟨_,_,rfl,rfl,rfl,rfl,.inr ⟨zr1,trivial⟩⟩,⟨_,rfl,rfl⟩,wqE rfl rfl,trivial⟩ (by decide) aw)) (fun s B hq hB=> ?_)
 obtain⟨z,es⟩:=s
 simp only at hq
 have h0:=hq.z0
 have xQ:=hq.len
 cbv
 cases hc:g .q .lss z (g .ln M)
 ·rw [bF hg,bO hg,zqo]at hc
  cbv
  have hd:=hq.done hc
  exact CQ hF rfl (d7 hd.bare) ⟨es,rfl,rfl,hd⟩
 rw [bF hg,bO hg,zqp]at hc
 cbv
 obtain⟨x,hx⟩:=ub (xs:=ns) h0 (gc xO hc)
 have xK:=hs x (zqd hx)
 have hr:M[z.toNat]? =some x.ac:=by rw [hM];exact fy hx
 obtain⟨a0,a1,⟨a2,a3,a4,a5,a6,a7,a8,a9,hv,hw,hy,⟨hz,hA⟩,⟨hC,hD⟩,⟨hE,hG⟩,⟨hH,hI⟩,⟨hJ,hK⟩,⟨hL,hN⟩,⟨hO,hP⟩,hQ,⟨⟨hR,hS⟩,⟨hT,hU⟩,⟨hV,hW⟩,⟨hX,hY⟩,⟨hZ,h3⟩,⟨h4,h5⟩⟩,⟨⟨h6,h7⟩,⟨h8,h9⟩,⟨xa,xb⟩,⟨xc,xd⟩,⟨xe,xf⟩,⟨xg,xh⟩⟩,⟨xi,xj,xk,xl⟩,⟨xm,xn,xo,xp⟩,xq,xr⟩,xt,⟨xF⟩⟩:=x
 replace hr:M[z.toNat]? =some [.J a0,.view (vw ak a1),.J a2,.J a3,.J a4,.J a5,.J a6,.J a7,.B a8,.B a9,.J hv,.J hw,.J hy,.J hz,.J hA,.J hC,.J hD,.J hE,.J hG,.J hH,.J hI,.J hJ,.J hK,.J hL,.J hN,.J hO,.J hP,.J hQ,.J hR,.J hS,.J hT,.J hU,.J hV,.J hW,.J hX,.J hY,.J hZ,.J h3,.J h4,.J h5,.J h6,.J h7,.J h8,.J h9,.J xa,.J xb,.J xc,.J xd,.J xe,.J xf,.J xg,.J xh,.J xi,.J xj,.J xk,.J xl,.J xm,.J xn,.J xo,.J xp,.J xq,.J xr,.B xt,.view (vw aK.c xF)]:=hr
 obtain⟨hm,hf⟩:=nmE (vw ak a1)
 have ho:=lmV hf
 have ht:=imV hf
 have xC:=kmV (k:=1) hf fun _=>rfl
 have xM:=dmV hf
 obtain⟨he,ha⟩:=nmE (vw aK.c xF)
 have hi:=lmV ha
 have hh:=imV ha
 have hu:=kmV (k:=3) ha fun _=>rfl
 have xG:=dmV ha
 rw [<-hf,<-ha]at hr
 refine goX hg _ h0 hr rfl ?_
 cbv
 refine sr xy aB [] [] 6 hm (nq ht) rfl (by kernel_rfl) (fun g2 xu xP B2 xv xx hj hn=> ?_)
 cbv
 refine AP hj xC (by decide) (by rw [ho];exact xK.1) ?_
 cbv
 rw [ig hj,List.nil_append]
 refine hn _ _ _ _ rfl rfl (fun xL b1 p1 hp=> ?_)
 rw [wP ht]
 obtain⟨c1,xH⟩:=nmE (hd1 b1 hm)
 rw [<-xH]at hp⊢
 clear xH
 refine⟨[(1,.p 3),(2,.p 0),(3,.p 1),(4,.i (z)),(5,.p 4)],[.bx 28 1 [.N],.bx 28 1 [.own 2],.rw ⟨69,64,es⟩,.bx 28 1 [.view M],.bx 69 64 [.J a0,.fv c1 hm,.J a2,.J a3,.J a4,.J a5,.J a6,.J a7,.B a8,.B a9,.J hv,.J hw,.J hy,.J hz,.J hA,.J hC,.J hD,.J hE,.J hG,.J hH,.J hI,.J hJ,.J hK,.J hL,.J hN,.J hO,.J hP,.J hQ,.J hR,.J hS,.J hT,.J hU,.J hV,.J hW,.J hX,.J hY,.J hZ,.J h3,.J h4,.J h5,.J h6,.J h7,.J h8,.J h9,.J xa,.J xb,.J xc,.J xd,.J xe,.J xf,.J xg,.J xh,.J xi,.J xj,.J xk,.J xl,.J xm,.J xn,.J xo,.J xp,.J xq,.J xr,.B xt,.view he],.gn,.gn],⟨.inl rfl,.inl rfl,.inl rfl,.inl rfl,.inl rfl,trivial⟩,⟨⟨rfl,rfl,.inl rfl,trivial⟩,⟨rfl,rfl,.inl rfl,trivial⟩,.inl rfl,⟨rfl,rfl,.inl rfl,trivial⟩,⟨rfl,rfl,⟨.inl rfl,.inr (.inl ⟨rfl,rfl⟩),.inl rfl,.inl rfl,.inl rfl,.inl rfl,.inl rfl,.inl rfl,.inl rfl,.inl rfl,.inl rfl,.inl rfl,.inl rfl,.inl rfl,.inl rfl,.inl rfl,.inl rfl,.inl rfl,.inl rfl,.inl rfl,.inl rfl,.inl rfl,.inl rfl,.inl rfl,.inl rfl,.inl rfl,.inl rfl,.inl rfl,.inl rfl,.inl rfl,.inl rfl,.inl rfl,.inl rfl,.inl rfl,.inl rfl,.inl rfl,.inl rfl,.inl rfl,.inl rfl,.inl rfl,.inl rfl,.inl rfl,.inl rfl,.inl rfl,.inl rfl,.inl rfl,.inl rfl,.inl rfl,.inl rfl,.inl rfl,.inl rfl,.inl rfl,.inl rfl,.inl rfl,.inl rfl,.inl rfl,.inl rfl,.inl rfl,.inl rfl,.inl rfl,.inl rfl,.inl rfl,.inl rfl,.inl rfl,trivial⟩⟩,trivial,rfl,trivial⟩,?_⟩
 clear hn hj xx xv
 cbv
 refine sr xy aB [] [] 8 he (nq hh) rfl (by kernel_rfl) (fun g2 xu xP B2 xv xx hj hn=> ?_)
 cbv
 refine AP hj hu (by decide) (by rw [hi];exact xK.2.1) ?_
 cbv
 rw [ig hj,List.nil_append]
 refine hn _ _ _ _ rfl rfl (fun xD b2 q1 hk=> ?_)
 rw [wP hh]
 obtain⟨c2,xI⟩:=nmE (hd1 b2 he)
 rw [<-xI]at hk⊢
 clear xI
 refine⟨[(1,.p 3),(2,.p 0),(3,.p 1),(4,.i (z)),(5,.p 4)],[.bx 28 1 [.N],.bx 28 1 [.own 2],.rw ⟨69,64,es⟩,.bx 28 1 [.view M],.bx 69 64 [.J a0,.fv c1 hm,.J a2,.J a3,.J a4,.J a5,.J a6,.J a7,.B a8,.B a9,.J hv,.J hw,.J hy,.J hz,.J hA,.J hC,.J hD,.J hE,.J hG,.J hH,.J hI,.J hJ,.J hK,.J hL,.J hN,.J hO,.J hP,.J hQ,.J hR,.J hS,.J hT,.J hU,.J hV,.J hW,.J hX,.J hY,.J hZ,.J h3,.J h4,.J h5,.J h6,.J h7,.J h8,.J h9,.J xa,.J xb,.J xc,.J xd,.J xe,.J xf,.J xg,.J xh,.J xi,.J xj,.J xk,.J xl,.J xm,.J xn,.J xo,.J xp,.J xq,.J xr,.B xt,.fv c2 he],.gn,.gn,.gn,.gn],⟨.inl rfl,.inl rfl,.inl rfl,.inl rfl,.inl rfl,trivial⟩,⟨⟨rfl,rfl,.inl rfl,trivial⟩,⟨rfl,rfl,.inl rfl,trivial⟩,.inl rfl,⟨rfl,rfl,.inl rfl,trivial⟩,⟨rfl,rfl,⟨.inl rfl,.inl rfl,.inl rfl,.inl rfl,.inl rfl,.inl rfl,.inl rfl,.inl rfl,.inl rfl,.inl rfl,.inl rfl,.inl rfl,.inl rfl,.inl rfl,.inl rfl,.inl rfl,.inl rfl,.inl rfl,.inl rfl,.inl rfl,.inl rfl,.inl rfl,.inl rfl,.inl rfl,.inl rfl,.inl rfl,.inl rfl,.inl rfl,.inl rfl,.inl rfl,.inl rfl,.inl rfl,.inl rfl,.inl rfl,.inl rfl,.inl rfl,.inl rfl,.inl rfl,.inl rfl,.inl rfl,.inl rfl,.inl rfl,.inl rfl,.inl rfl,.inl rfl,.inl rfl,.inl rfl,.inl rfl,.inl rfl,.inl rfl,.inl rfl,.inl rfl,.inl rfl,.inl rfl,.inl rfl,.inl rfl,.inl rfl,.inl rfl,.inl rfl,.inl rfl,.inl rfl,.inl rfl,.inl rfl,.inr (.inl ⟨rfl,rfl⟩),trivial⟩⟩,trivial,trivial,trivial,rfl,trivial⟩,?_⟩
 clear hn hj xx xv
 have xz:∀b∈fpE es,b<xL:=fun b hb=>hp.old b (qn _ 2 rfl b hb)
 have xA:∀b∈fpE es,b<xD:=fun b hb=>hk.old b (qn _ 2 rfl b hb)
 have xB:∀b∈c1,b<xD:=fun b hb=>hk.old b (by simp [fpH,fpL,fpC,hb])
 have n1:jT xL c1:=⟨hp.nd,hp.ge⟩
 have n2:jT xD c2:=⟨hk.nd,hk.ge⟩
 clear hp hk
 cbv
 refine AQ hg rfl (by decide) (by omega) ?_
 cbv
 have e1:g .w .add .i64 z 1=z+1:=by rw [aJ hg,az _ (by omega)]
 rw [e1,ig hg]
 have xJ:=hq.step2 (y:=[.J a0,.fv c1 hm,.J a2,.J a3,.J a4,.J a5,.J a6,.J a7,.B a8,.B a9,.J hv,.J hw,.J hy,.J hz,.J hA,.J hC,.J hD,.J hE,.J hG,.J hH,.J hI,.J hJ,.J hK,.J hL,.J hN,.J hO,.J hP,.J hQ,.J hR,.J hS,.J hT,.J hU,.J hV,.J hW,.J hX,.J hY,.J hZ,.J h3,.J h4,.J h5,.J h6,.J h7,.J h8,.J h9,.J xa,.J xb,.J xc,.J xd,.J xe,.J xf,.J xg,.J xh,.J xi,.J xj,.J xk,.J xl,.J xm,.J xn,.J xo,.J xp,.J xq,.J xr,.B xt,.fv c2 he]) hr rfl rfl rfl (by
  have:=(n1.mono p1).app q1 n2 xB
  simpa [fpL,fpC]using this) (fun b hb=>by
  have h1:=xz b hb
  have h2:=xA b hb
  simp only [fpL,fpC,List.flatMap_cons,List.flatMap_nil,List.append_nil,List.nil_append,List.mem_append,not_or]
  exact⟨fun h=>by have:=n1.2 b h;omega,fun h=>by have:=n2.2 b h;omega⟩)
 rw [hB]
 skip
 exact⟨(z+1,_),xJ,by show(aC M).toNat-(z+1).toNat<(aC M).toNat-z.toNat;omega,Wk.weak (wkG [some 0,some 1,some 10,some 3] zr4 ⟨wqE rfl rfl,⟨_,_,rfl,rfl,rfl,rfl,.inr ⟨zr1,trivial⟩⟩,⟨_,_,rfl,rfl,rfl,rfl,.inl ⟨rfl,d7 xJ.cp.bare⟩⟩,wqE rfl rfl,trivial⟩ (by decide) aw)⟩
def D4(s:ah):af:=⟨0,[],s,false,⟨[]⟩⟩
def yK(ns:List af)(s:ah):Bool:=aV ns&&(vJ s&&decide (ns.length<12))
def uh(ns:List af)(s:ah):List af:=if yK ns s=true then ns++[D4 s]else ns
def ve(ns:List af)(s:ah):Int:=if yK ns s=true then(ns.length:Int)+1 else 0
def Co(s:ah):List AC:= .J 0:: .fv [] []::(lc (ah.c s)++[.B false,.fv [] []])
def DF(s:ah):List AC:= .J 0:: .N::(lc (ah.c s)++[.B false,.N])
theorem fo.snoc{k lo:Nat}{y v:List AC}(h:fo k E V lo)(hy:y.map vwC=v)(hk:y.length=k)(hb:y.all jP=true)(hf:fpL y=[]):fo k (E++[y]) (V++[v]) lo:=
 ⟨fun e he=>(List.mem_append.1 he).elim (h.kk e) fun h1=>by rw [List.mem_singleton.1 h1];exact hk,fun e he=>(List.mem_append.1 he).elim (h.bare e) fun h1=>by rw [List.mem_singleton.1 h1];exact hb,
  by rw [List.map_append,h.eq,<-hy];rfl,by rw [qo,show fpE [y]=fpL y from List.append_nil _,hf,List.append_nil];exact h.new⟩
theorem xG{α:Type}(E:List α)(y y':α):E++[y']=(E++[y]).set E.length y'/\(E++[y])[E.length]? =some y:=by
 constructor
 ·rw [List.set_append_right _ _ (Nat.le_refl _),Nat.sub_self];rfl
 ·rw [zqg (Nat.le_refl _),Nat.sub_self];rfl
theorem xv(ns:List af)(x:af):vwA af.ac (ns++[x])=vwA af.ac ns++[x.ac]:=by simp [vwA]
theorem nV(ns:List af)(hl:ns.length<=1048576)(hs:∀y∈ns,af.small y)(s:ah):Bs prog 11 [.agg [.view (vwA af.ac ns)],.agg (lc (ah.c s))] fun lo res hi=>(∃b0,res= .tup [.agg [.fv b0 (vwA af.ac (uh ns s))],ai (ve ns s)]/\jT lo b0)/\fz res=true/\hi=[]:=by
 have ck:=jq ns hl hs
 have cT:=gB ns hl hs
 have cS:=jt s
 obtain⟨M,hM⟩:=nmE (vwA af.ac ns)
 have hx:aC M=(ns.length:Int):=by rw [ar,hM,bi]
 obtain⟨W,hW⟩:=nmE (vwA af.ac (uh ns s))
 obtain⟨AI,hc⟩:=nmE (ve ns s)
 rw [<-hM]at ck cT
 have hu:aC M≥12->decide (ns.length<12)=false:=fun h=>zqt (by omega)
 have hv:¬aC M≥12->decide (ns.length<12)=true:=fun h=>zqu (by omega)
 rw [<-hM,<-hW,<-hc]
 refine pm ([(4,.hand),(5,.hand)]) ([]) (c:=aM f11) aB func11 (by kernel_rfl) (by kernel_rfl) (by rfl) (by kernel_rfl) fun β g hw hd F he hn hg hF=> ?_
 cbv
 refine sB hg ck (gN rfl) (fun lo E h=>d7 h.bare) (fun lo E q1 q2 q3 hE=> ?_)
 clear q2 q3
 replace hE:fo 64 E M β.lo:=⟨hE.kk,hE.bare,hE.eq,hE.new.mono q1⟩
 clear q1
 cbv
 have pE:=d7 hE.bare
 have hf:yK ns s=false->W=M/\AI=0:=fun h=>⟨by rw [hW,hM];unfold uh;rw [if_neg (by rw [h];decide)],by rw [hc];unfold ve;rw [if_neg (by rw [h];decide)]⟩
 have hh:yK ns s=true->W=M++[(D4 s).ac]/\AI=(ns.length:Int)+1:=fun h=>⟨by rw [hW,hM];unfold uh;rw [if_pos h,xv],by rw [hc];unfold ve;rw [if_pos h]⟩
 cases hTB:aV ns
 case false=>
  rw [hTB]at cT
  refine ad hg cT ?_
  cbv
  obtain⟨h1,h2⟩:=hf (by unfold yK;rw [hTB];rfl)
  rw [h1,h2]at hF
  refine kC hF fun bl ha=>⟨[.agg [.fv (hd1 (bl 3) E++fpE E) M],ai 0],.agg (.cons (bU rfl hE) .nil) (.c (.imm _) .nil),⟨_,rfl,en ha (r:=3) (ab:=⟨_,_,E⟩) rfl hE.new⟩,rfl,rfl⟩
 rw [hTB]at cT
 refine ad hg cT ?_
 cbv
 cases hSO:vJ s
 case false=>
  rw [hSO]at cS
  refine ad hg cS ?_
  cbv
  obtain⟨h1,h2⟩:=hf (by unfold yK;rw [hTB,hSO];rfl)
  rw [h1,h2]at hF
  refine kC hF fun bl ha=>⟨[.agg [.fv (hd1 (bl 3) E++fpE E) M],ai 0],.agg (.cons (bU rfl hE) .nil) (.c (.imm _) .nil),⟨_,rfl,en ha (r:=3) (ab:=⟨_,_,E⟩) rfl hE.new⟩,rfl,rfl⟩
 rw [hSO]at cS
 refine ad hg cS ?_
 cbv
 cases hL:g .q .geq (g .ln M) 12
 case true=>
  rw [iP hg,bO hg,zqp]at hL
  cbv
  obtain⟨h1,h2⟩:=hf (by unfold yK;rw [hTB,hSO,hu hL];rfl)
  rw [h1,h2]at hF
  refine kC hF fun bl ha=>⟨[.agg [.fv (hd1 (bl 3) E++fpE E) M],ai 0],.agg (.cons (bU rfl hE) .nil) (.c (.imm _) .nil),⟨_,rfl,en ha (r:=3) (ab:=⟨_,_,E⟩) rfl hE.new⟩,rfl,rfl⟩
 rw [iP hg,bO hg,zqo]at hL
 cbv
 obtain⟨ht,hr⟩:=hh (by unfold yK;rw [hTB,hSO,hv hL];rfl)
 have hk:E.length=ns.length:=by rw [hE.len,hM,bi]
 have hb:fo 64 (E++[Co s]) W β.lo:=by rw [ht];exact hE.snoc rfl rfl rfl rfl
 obtain⟨ho,hp⟩:=xG E (DF s) (Co s)
 have pZ:aO (E++[DF s])=true:=by
  unfold aO at pE⊢
  rw [List.all_append,pE];rfl
 have hq:=d7 hb.bare
 have hj:g .ln (E++[Co s])=AI:=by rw [bO hg,ar,zqe,hr,hk];rfl
 refine ql [] [] he hn hg aB [(4,.p 0),(6,.p 1)] [.bx 28 1 [.N],.bx 28 1 [.own 2],.rw ⟨69,64,E++[Co s]⟩] (by kernel_rfl) (fun B hB=> ?_) ?_
 ·cbv
  refine AQ hg rfl (by decide) (by omega) ?_
  cbv
  rw [ig hg]
  refine hB _ _ (je.trans (l1:=[(4,.p 0),(6,.p 1)]) (h1:=toH [.bx 28 1 [.N],.bx 28 1 [.own 2],.rw ⟨69,64,E++[DF s]⟩]) (Wk.weak (wkG [some 2,some 4,some 6] zr2 ⟨wqE rfl rfl,⟨_,_,rfl,rfl,rfl,rfl,.inr ⟨zr1,trivial⟩⟩,wqE rfl pZ,trivial⟩ (by decide) aw)) (zP ⟨.inl rfl,.inl rfl,trivial⟩ ⟨⟨rfl,rfl,.inl rfl,trivial⟩,⟨rfl,rfl,.inl rfl,trivial⟩,.inr ⟨_,_,_,rfl,rfl,ho,hp,⟨.inl rfl,.inr (.inr ⟨rfl,rfl⟩),.inl rfl,.inl rfl,.inl rfl,.inl rfl,.inl rfl,.inl rfl,.inl rfl,.inl rfl,.inl rfl,.inl rfl,.inl rfl,.inl rfl,.inl rfl,.inl rfl,.inl rfl,.inl rfl,.inl rfl,.inl rfl,.inl rfl,.inl rfl,.inl rfl,.inl rfl,.inl rfl,.inl rfl,.inl rfl,.inl rfl,.inl rfl,.inl rfl,.inl rfl,.inl rfl,.inl rfl,.inl rfl,.inl rfl,.inl rfl,.inl rfl,.inl rfl,.inl rfl,.inl rfl,.inl rfl,.inl rfl,.inl rfl,.inl rfl,.inl rfl,.inl rfl,.inl rfl,.inl rfl,.inl rfl,.inl rfl,.inl rfl,.inl rfl,.inl rfl,.inl rfl,.inl rfl,.inl rfl,.inl rfl,.inl rfl,.inl rfl,.inl rfl,.inl rfl,.inl rfl,.inl rfl,.inr (.inr ⟨rfl,rfl⟩),trivial⟩⟩,trivial⟩))
 obtain⟨E2,hm⟩:=nmE (E++[Co s])
 rw [<-hm]at hb hj hq⊢
 clear ho hp pZ hm hE hk pE
 refine yl hg hn aB (.op 0 (.op 1 (.op 2 (.op 3 (.op 4 (.op 5 .done .none) .none) (.op 4 (.op 3 (.op 5 .done .none) .none) .none)) (.op 4 (.op 2 (.op 3 (.op 5 .done .none) .none) .none) .none)) (.op 4 (.op 1 (.op 2 (.op 3 (.op 5 .done .none) .none) .none) .none) .none)) (.op 1 (.op 0 (.op 2 (.op 3 (.op 4 (.op 5 .done .none) .none) (.op 4 (.op 3 (.op 5 .done .none) .none) .none)) (.op 4 (.op 2 (.op 3 (.op 5 .done .none) .none) .none) .none)) (.op 2 (.op 0 (.op 3 (.op 4 (.op 5 .done .none) .none) (.op 4 (.op 3 (.op 5 .done .none) .none) .none)) (.op 3 (.op 0 (.op 4 (.op 5 .done .none) .none) .none) .none)) .none)) .none)) (by kernel_rfl) (by kernel_rfl) [(4,.p 0),(5,.i (AI))] [.bx 28 1 [.own 1],.rw ⟨69,64,E2⟩] (fun B hB=> ?_) ?_
 ·cbv
  rw [hj]
  repeat' apply And.intro
  all_goals first|exact trivial|exact hB _ _ (Wk.weak (wkG [some 0,some 2] zr2 ⟨⟨_,_,rfl,rfl,rfl,rfl,.inr ⟨zr1,trivial⟩⟩,wqE rfl hq,trivial⟩ (by decide) aw))
 cbv
 refine kC hF fun bl ha=>⟨[.agg [.fv (hd1 (bl 1) E2++fpE E2) W],ai AI],.agg (.cons (bU rfl hb) .nil) (.c (.imm _) .nil),⟨_,rfl,en ha (r:=1) (ab:=⟨_,_,E2⟩) rfl hb.new⟩,rfl,rfl⟩
def kf(u:Int)(K R:LLA)(s:ah)(m:Bool):List AC:= .J u:: .view K::(lc (ah.c s)++[.B m,.view R])
def pW(u:Int)(K R:LLA)(s:ah)(m:Bool)(b1 b2:List Nat):List AC:= .J u:: .fv b1 K::(lc (ah.c s)++[.B m,.fv b2 R])
theorem ru:∀(L e:List AC),e.all jP=true->e.map vwC=L->(L.all fun c=>match c with| .imm _=>true|_=>false)=true->e=L
 | [],e,_,h,_=>by cases e<;>first|rfl|simp at h
 |c::L,e,hb,h,hi=>by
  cases e with
  |nil=>simp at h
  |cons d e=>
   simp only [zqA,List.cons.injEq]at h
   simp only [zqD,zqs]at hb hi
   have h1:=ru L e hb.2 h.2 hi.2
   cases c<;>first|(cases hi.1;done)|skip
   rw [qz hb.1 h.1,h1]
theorem vG(s:ah):((lc (ah.c s)).all fun c=>match c with| .imm _=>true|_=>false)=true:=rfl
variable {j:Nat}
theorem fo.node{E M:LLA}(h:fo 64 E M lo){u:Int}{K R:LLA}{s:ah}{m:Bool}(hj:M[j]? =some (kf u K R s m)):∃b1 b2,E[j]? =some (pW u K R s m b1 b2):=by
 have hl:=(List.getElem?_eq_some_iff.1 hj).1
 have hE:j<E.length:=by rw [h.len];exact hl
 obtain⟨e,he⟩:∃e,E[j]? =some e:=⟨_,zqc hE⟩
 have hb:e.map vwC=kf u K R s m:=by
  have h1:(E.map (·.map vwC))[j]? =some (e.map vwC):=by rw [zqi,he];rfl
  rw [h.eq,hj]at h1
  exact(Option.some.inj h1).symm
 have ha:=h.bare e (zqd he)
 unfold kf at hb
 cases e with
 |nil=>simp at hb
 |cons c0 e=>cases e with
  |nil=>simp at hb
  |cons c1 r=>
   rw [zqA,zqA,List.cons.injEq,List.cons.injEq]at hb
   rw [zqD,zqD,zqs,zqs]at ha
   obtain⟨h0,h1,h2⟩:=hb
   obtain⟨r1,r2,hr,k1,k2⟩:=List.map_eq_append_iff.1 h2
   subst hr
   rw [List.all_append,zqs]at ha
   have hr1:=ru _ _ ha.2.2.1 k1 (vG s)
   cases r2 with
   |nil=>cases k2
   |cons c2 r2=>cases r2 with
    |nil=>simp at k2
    |cons c3 r2=>
     have hn:r2=[]:=by
      have:=congrArg List.length k2
      cases r2 with
      |nil=>rfl
      |cons _ _=>simp at this
     subst hn
     simp only [zqA,List.map_nil,List.cons.injEq,and_true]at k2
     simp only [zqD,List.all_nil,Bool.and_true,zqs]at ha
     obtain⟨b1,hc⟩:=xe ha.2.1 h1
     obtain⟨b2,hd⟩:=xe ha.2.2.2.2 k2.2
     have e0:=qz ha.1 h0
     have e2:=qz ha.2.2.2.1 k2.1
     refine⟨b1,b2,?_⟩
     rw [he,e0,hc,hr1,e2,hd];rfl
theorem fo.set{k lo:Nat}(h:fo k E V lo){e y v:List AC}(he:E[j]? =some e)(hy:y.map vwC=v)(hk:y.length=k)(hb:y.all jP=true)(hf:fpL y=fpL e):fo k (E.set j y) (V.set j v) lo:=
 ⟨fun x hx=>(List.mem_or_eq_of_mem_set hx).elim (h.kk x) fun h1=>by rw [h1];exact hk,fun x hx=>(List.mem_or_eq_of_mem_set hx).elim (h.bare x) fun h1=>by rw [h1];exact hb,by rw [List.map_set,h.eq,hy],by rw [tM he hf];exact h.new⟩
theorem vq(ns:List af)(j:Nat)(x:af):vwA af.ac (ns.set j x)=(vwA af.ac ns).set j x.ac:=by simp [vwA]
variable {a b:List Nat}
theorem jT.perm(h:jT lo a)(hp:a.Perm b):jT lo b:=⟨hp.nodup_iff.1 h.1,fun x hx=>h.2 x (hp.mem_iff.2 hx)⟩
theorem jT.sub(h:jT lo b)(hp:a.Sublist b):jT lo a:=⟨h.1.sublist hp,fun x hx=>h.2 x (hp.subset hx)⟩
theorem tL(u:Int)(K R:LLA)(s:ah)(m:Bool)(b1 b2:List Nat):fpL (pW u K R s m b1 b2)=b1++b2:=by
 show b1++(b2++[])=_
 rw [List.append_nil]
theorem wS{E:LLA}{e:List AC}(he:E[j]? =some e):∃A B,E=A++e::B/\∀y,E.set j y=A++y::B:=by
 obtain⟨hj,rfl⟩:=List.getElem?_eq_some_iff.1 he
 refine⟨E.take j,E.drop (j+1),?_,fun y=> ?_⟩
 ·exact(List.take_append_drop j E).symm.trans (by rw [List.drop_eq_getElem_cons hj])
 ·rw [List.set_eq_take_append_cons_drop,if_pos hj]
theorem fo.put{k lo lo':Nat}(h:fo k E V lo){e y v:List AC}(he:E[j]? =some e)(hy:y.map vwC=v)(hk:y.length=k)(hb:y.all jP=true){b1 bn:List Nat}(hf:(fpL y).Perm (b1++bn))(hs:b1.Sublist (fpL e))(hn:jT lo' bn)(hlo:lo<=lo')(hlt:∀b∈fpE E,b<lo'):fo k (E.set j y) (V.set j v) lo:=
 ⟨fun x hx=>(List.mem_or_eq_of_mem_set hx).elim (h.kk x) fun h1=>by rw [h1];exact hk,fun x hx=>(List.mem_or_eq_of_mem_set hx).elim (h.bare x) fun h1=>by rw [h1];exact hb,by rw [List.map_set,h.eq,hy],by
  obtain⟨A,B,h1,h2⟩:=wS he
  have hE:fpE E=fpE A++(fpL e++fpE B):=by rw [h1,qo];rfl
  rw [h2 y]
  have hc:fpE (A++y::B)=fpE A++(fpL y++fpE B):=by rw [qo];rfl
  rw [hc]
  have ha:(fpE A++(b1++fpE B)).Sublist (fpE E):=by rw [hE];exact List.Sublist.append (List.Sublist.refl _) (List.Sublist.append hs (List.Sublist.refl _))
  have h3:jT lo (fpE A++(b1++fpE B)):=h.new.sub ha
  refine(h3.app hlo hn fun b hb=>hlt b (ha.subset hb)).perm (List.perm_iff_count.2 fun a=> ?_)
  have:=List.perm_iff_count.1 hf a
  simp only [List.count_append]at this⊢
  omega⟩
end Go.Proofs.YtckchgoblpgpbaaGreat
