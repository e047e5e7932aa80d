/- A part. -/
import Derived.Test.YtckchgoblpgpbaaGreatJ8az3
import Derived.Test.YtckchgoblpgpbaaGreatJ8az4
import Derived.Test.YtckchgoblpgpbaaGreatJ8az5
set_option linter.all false
set_option maxHeartbeats 80000000
namespace Go.Proofs.YtckchgoblpgpbaaGreat
open Go.ChangeShapes Go.WideShapes Go.ChangeAt Go.RowKit Am Go.Proofs.Tryz
set_option maxRecDepth 100000
section
variable {xs:List af}
theorem Ia{xs:List Int}{i:Int}(h:i∉xs):cnt xs i=0:=by
 induction xs with
 |nil=>rfl
 |cons x xs ih=>
  have e:cnt (x::xs) i=(if x=i then 1 else 0)+cnt xs i:=by simp [cnt]
  rw [e,ih (fun hm=>h (zpe _ hm)),if_neg (fun hx=>h (by rw [hx];exact zpd ..))]
  rfl
variable {l:List Int}{k:Int}{LL:List (List Int)}
theorem Gv{i:Int}(h:i∈l):qY i k (l::LL)=k:=by
 have:=(GS l i).2 h
 simp only [qY]
 rw [if_pos (by omega)]
theorem Dq{i:Int}(h:i∉l):qY i k (l::LL)=qY i (k+1) LL:=by
 simp only [qY]
 rw [Ia h,if_neg (by omega)]
theorem Gw{i:Int}:∀(LL:List (List Int))(k:Int),i∈LL.flatten->k<=qY i k LL/\qY i k LL<k+(LL.length:Int)
 | [],k,h=>by simp at h
 |l::LL,k,h=>by
  by_cases hm:i∈l
  ·rw [Gv hm];simp only [zqx];omega
  ·rw [Dq hm]
   have:=Gw LL (k+1) (by rw [List.flatten_cons]at h;exact(List.mem_append.1 h).resolve_left hm)
   simp only [zqx];omega
theorem H4(P:List Int)(c:Int)(C:List Int):elZ (P++c::C) (P.length:Int)=c:=oV (by rw [zqg (zpk _)];simp)
theorem GM{α:Type}(f:Int->Int->α):∀(LL:List (List Int))(CC P:List Int)(m n:Nat),CC.length=LL.length->LL.flatten=ixs m n->(ixs m n).map (fun i=>f (elZ (P++CC) (qY i (P.length:Int) LL)) i)=(LL.zip CC).flatMap fun q=>q.1.map (f q.2)
 | [],CC,P,m,n,hc,hf=>by rw [<-hf];rfl
 |l::LL,[],P,m,n,hc,hf=>by simp at hc
 |l::LL,c::CC,P,m,n,hc,hf=>by
  obtain⟨h1,h2,h3⟩:=mR hf
  have e:ixs (m:Int) n=l++LL.flatten:=by rw [<-hf,List.flatten_cons]
  rw [e,List.map_append,List.zip_cons_cons,List.flatMap_cons]
  congr 1
  ·refine zpl fun i hi=> ?_
   rw [Gv hi,H4]
  ·have h4:LL.flatten=ixs ((m+l.length:Nat):Int) (n-l.length):=by rw [h3,Int.natCast_add]
   have:=GM f LL CC (P++[c]) (m+l.length) (n-l.length) (by simpa using hc) h4
   rw [<-this,<-h4]
   refine zpl fun i hi=> ?_
   have ha:i∉l:=fun hm=>by
    rw [h2,mj]at hm
    rw [h4,mj]at hi
    omega
   rw [Dq ha,zqC,zqe,zqm]
   rfl
theorem HZ{α:Type}(f:Int->Int->α)(LL:List (List Int))(CC:List Int)(n:Nat)(hc:CC.length=LL.length)(hf:LL.flatten=ixs 0 n):(ixs 0 n).map (fun i=>f (elZ CC (qY i 0 LL)) i)=(LL.zip CC).flatMap fun q=>q.1.map (f q.2):=GM f LL CC [] 0 n hc hf
variable {cs:List Int}{gap inner ct:Int}
theorem EU(h:acr cs gap inner=true):(pll cs gap inner ct).length=cs.length:=by
 unfold pll
 rw [if_neg (by rw [h];simp),za]
theorem tr(ns:List ae)(hl:ns.length<=1048576)(rtl keeps:Bool)(bx:Bx)(c L:Nat)(n:Int)(p:Pl)(w0 w1 h0' h1':Int)(hpw:p.w=⟨w0,w1⟩)(hph:p.h=⟨h0',h1'⟩)(hkn:p.kids≠[])(hkl:p.kids.length<20)(hk:∀kid∈p.kids,isN ns kid=true)(hbx:∀kid∈p.kids,yD (vwA ae.ac ns) rtl keeps bx c L kid)(st:St)(hm:st.1.length+40*c<=L)(hq:st.2.length+40*c<=L)
  (hal:∀l∈m5 p (mV bx p rtl ns p.kids st).1,al5 (lit (mV bx p rtl ns p.kids st).1 l) (l.map (elZ (tc p (mV bx p rtl ns p.kids st).1))) (El p) (Ek p (mV bx p rtl ns p.kids st).1)=true)
  (hf:∀cs,cs=zK p (m5 p (mV bx p rtl ns p.kids st).1) (vU bx p rtl ns (p.kids.zip (tc p (mV bx p rtl ns p.kids st).1)) (mV bx p rtl ns p.kids st).2).1->acr cs (vb p) (BJ p cs)=true):
  SE prog 148 (sR (vwA ae.ac ns) rtl keeps) (SM st.1) (SA st.2) [.c (.ptr 0 0 0),.agg (nwL n p.s p.row p.al p.ac (knS p.wide) (.view (vw ak p.kids))),agP ⟨w0,w1⟩,agP ⟨h0',h1'⟩] (.t (.agg (jH.ac (Fr bx p rtl ns st).1))) (SM (Fr bx p rtl ns st).2.1) (SA (Fr bx p rtl ns st).2.2):=by
 have cI:=rz ns hl rtl keeps bx c L n p hkl hk hbx st (by omega) (by omega)
 have hb:=zr p ns p.kids st hbx
 have xr:p.kids.length*c<=20*c:=zpf c (by omega)
 obtain⟨ra,x2⟩:=nmE (mV bx p rtl ns p.kids st)
 unfold Fr
 dsimp only
 rw [<-x2]at cI hb hal hf⊢
 obtain⟨I,hD⟩:=ra
 dsimp only at cI hb hal hf⊢
 have hp:=hb.1
 have hL:I.length<=1048576:=by omega
 have hC:=vB p I
 have cS:=nP ns hl rtl keeps bx c L n p (tc p I) hkl (by rw [hC,hp]) hk hbx hD (by omega) (by omega)
 obtain⟨rb,xy⟩:=nmE (vU bx p rtl ns (p.kids.zip (tc p I)) hD)
 have ha:rb.1.length=p.kids.length:=by
  have:=(yV (V:=vwA ae.ac ns) (rtl:=rtl) (keeps:=keeps) (c:=c) (L:=L) p ns (p.kids.zip (tc p I)) hD (fun k x9=>hbx k.1 (by obtain⟨i,hi⟩:=List.mem_iff_getElem?.1 x9;exact zqd (Cx (by obtain⟨a,b⟩:=k;exact hi)).1))).1
  rw [<-xy,zqB,hC,hp,Nat.min_self]at this
  exact this
 rw [<-xy]at cS hf⊢
 obtain⟨S0,x4⟩:=rb
 dsimp only at cS hf ha⊢
 obtain⟨s0,row,wd,ys,iw,ih,al,ac,kids⟩:=p
 dsimp only at hpw hph hkn hkl hk hbx hp hb ha cI cS
 subst hpw hph
 obtain⟨q,he⟩:∃q:Pl,q=⟨s0,row,⟨w0,w1⟩,⟨h0',h1'⟩,iw,ih,al,ac,kids⟩:=⟨_,rfl⟩
 rw [<-he]at hal hf hC cS⊢
 have hn:q.kids=kids:=by rw [he]
 have ht:kids.length<=1048576:=by omega
 have hW:(tc q I).length=kids.length:=by rw [hC,hp]
 have cZ:=ry n s0 row al ac (knS iw) (vw ak kids) I hL
 have cN:=lJ n s0 row al ac (knS iw) (vw ak kids) I hL
 have h2:m5 q I=lns I (jG s0 row) (lw al) (!decide (s0.wrap=1)):=by rw [he];rfl
 have ya:Ek q I=tak al (lng I (jG s0 row) (lw al) (!decide (s0.wrap=1))):=by rw [he];rfl
 have yb:tc q I=lsz I (jG s0 row) (lw al) (!decide (s0.wrap=1)) (tak al (lng I (jG s0 row) (lw al) (!decide (s0.wrap=1)))):=by rw [he];rfl
 rw [<-yb]at cZ
 rw [<-ya]at cN
 have hz:(m5 q I).flatten=ixs 0 kids.length:=by rw [h2,km,hp]
 have hZ:(m5 q I).length<=64:=by rw [h2];exact zpb (mf ..) (by omega)
 have hY:∀l∈m5 q I,l.length<=1048576/\∀i∈l,0<=i/\i<(S0.length:Int):=fun l hm=>by
  rw [h2]at hm
  exact⟨zpb (kl hm) hL,fun i hi=>by have:=wl hm hi;omega⟩
 have hh:=jo I (jG s0 row) (lw al) (!decide (s0.wrap=1)) hL
 rw [<-h2]at hh
 have cC:=o5 n s0 row al ac (knS iw) (vw ak kids) (m5 q I) S0 (by omega) hZ hY
 have yc:zK q (m5 q I) S0=FJ s0 row ac (m5 q I) S0:=by rw [he];rfl
 rw [<-yc]at cC
 have hs:(zK q (m5 q I) S0).length=(m5 q I).length:=rh q _ _ hZ
 have hf:=hf _ rfl
 have xW:El q=jG s0 row:=by rw [he];rfl
 have xX:vb q=jG s0 (!row):=by rw [he];rfl
 unfold Ke
 dsimp only
 obtain⟨LL,xR⟩:=nmE (m5 q I)
 obtain⟨ZZ,xU⟩:=nmE (tc q I)
 obtain⟨IN,xP⟩:=nmE (Ek q I)
 rw [<-xR]at hz hZ hY cC hs hh hal hf⊢
 rw [<-xU]at hW cZ cS hal⊢
 rw [<-xP]at cN hal⊢
 obtain⟨CC,xL⟩:=nmE (zK q LL S0)
 rw [<-xL]at hs cC hf⊢
 obtain⟨S1,xp⟩:=nmE (DN q ns S0 ZZ (LL.zip CC))
 have xs:(ixs 0 S0.length).map (fun i=>zG q ns S0 ZZ (elZ CC (qY i 0 LL)) i)=S1:=by rw [xp,ha];exact HZ (zG q ns S0 ZZ) LL CC kids.length hs hz
 have xY:∀i:Int,0<=i->i<(q.kids.length:Int)->0<=qY i 0 LL/\qY i 0 LL<(CC.length:Int):=fun i h0 h1=>by
  rw [hn]at h1
  have:=Gw LL 0 (show i∈LL.flatten by rw [hz,mj];omega)
  omega
 have cF:=fun C D=>ql ns hl rtl keeps C D n q (by rw [hn];exact ht) (by rw [hn];exact hk) LL CC S0 ZZ (by rw [hn];exact ha) (by rw [hn];exact hW) (by omega) (fun l hm=>(hY l hm).1) xY
 simp only [xs]at cF
 have hA:S1.length=kids.length:=by rw [<-xs,zql,bX,ha]
 rw [<-xp]
 obtain⟨am,an⟩:=ac
 obtain⟨lm,ln⟩:=al
 have cG:=gY s0 row
 have hw:=gY s0 (!row)
 have cT:=gp CC (vb q) (by rw [hs];omega)
 have cK:=dT am an (crt CC (vb q))
 have xZ:BJ q CC=tak ⟨am,an⟩ (crt CC (vb q)):=by rw [he];rfl
 rw [<-xZ]at cK
 have cL:=o8 CC (vb q) (BJ q CC) (ctP q) (by omega)
 have xt:ctP q=if s0.wrap=1 then 2 else s0.content:=by rw [he];rfl
 have xu:It q CC=pll CC (vb q) (BJ q CC) (ctP q):=rfl
 rw [<-xu]at cL
 have hr:(It q CC).length=CC.length:=by rw [xu];exact EU hf
 rw [<-xX]at hw
 rw [xW]at hal
 obtain⟨GP,xm⟩:=nmE (jG s0 row)
 rw [<-xm]at cG hh hal
 obtain⟨GC,xO⟩:=nmE (vb q)
 obtain⟨hv,xJ⟩:=nmE (BJ q CC)
 obtain⟨ST,xS⟩:=nmE (It q CC)
 rw [<-xO]at hw cT cK cL
 rw [<-xJ]at cK cL⊢
 rw [<-xS]at cL hr⊢
 obtain⟨TT,xT⟩:=nmE (crt CC GC)
 rw [<-xT]at cT cK
 have xb:=iv lm ln
 generalize hRM:lw ⟨lm,ln⟩=RM at xb hh
 obtain⟨wr,xD⟩:=nmE ((!decide (s0.wrap=1)))
 rw [<-xD]at hh
 obtain⟨V,hV⟩:=nmE (vwA ae.ac ns)
 have x7:∀zs,zs=tc q I->True:=fun _ _=>trivial
 have yd:q.s=s0/\q.row=row/\q.al=⟨lm,ln⟩/\q.ac=⟨am,an⟩/\q.wide=iw/\q.w=⟨w0,w1⟩/\q.h=⟨h0',h1'⟩:=by rw [he];exact⟨rfl,rfl,rfl,rfl,rfl,rfl,rfl⟩
 obtain⟨h4,h3,xw,xv,xx,x1,x0⟩:=yd
 rw [h4,h3,xw,xv,xx,hn]
 simp only [h4,h3,xw,xv,xx,hn]at cF
 simp only [<-hV]at cF
 rw [<-hV]at cI cS⊢
 generalize hM:knS iw=KW at cI cS cZ cN cC;replace hM:=hM.symm
 simp only [<-hM]at cF
 obtain⟨K,hK⟩:=nmE (vw ak kids)
 have xQ:=lmV hK
 rw [<-hK]at cI cS cZ cN cC⊢
 simp only [<-hK]at cF
 obtain⟨vI,xz⟩:=nmE (vw af.c I)
 have yg:=lmV xz
 rw [<-xz]at cI cZ cN hh
 obtain⟨vZ,h6⟩:=nmE (vw ak ZZ)
 have yk:=lmV h6
 rw [<-h6]at cZ cS
 simp only [<-h6]at cF
 obtain⟨vS,xB⟩:=nmE (vw aw.c S0)
 have yi:=lmV xB
 rw [<-xB]at cS cC
 simp only [<-xB]at cF
 obtain⟨vC,h5⟩:=nmE (vw ak CC)
 have ye:=lmV h5
 rw [<-h5]at cC cT cL
 simp only [<-h5]at cF
 obtain⟨vL,xA⟩:=nmE (vwA lnA LL)
 rw [<-xA]at hh cC
 simp only [<-xA]at cF
 obtain⟨vT,xC⟩:=nmE (vw ak ST)
 have yj:=lmV xC
 rw [<-xC]at cL
 obtain⟨h8,hc⟩:=nmE (vw aw.c S1)
 have x3:=lmV hc
 have xE:=imV hc
 have xF:=kmV (k:=7) hc fun _=>rfl
 have xe:=dmV hc
 simp only [<-hc]at cF
 have xa:=fE s0
 obtain⟨fe,hX⟩:=nmE (mz s0)
 rw [<-hX]at xa
 obtain⟨fl,ft,fr,fb⟩:=fe
 obtain⟨M0,hN⟩:=nmE (SM st.1)
 obtain⟨A0,hI⟩:=nmE (SA st.2)
 obtain⟨M1,hP⟩:=nmE (SM hD.1)
 obtain⟨A1,hJ⟩:=nmE (SA hD.2)
 obtain⟨M2,hy⟩:=nmE (SM x4.1)
 obtain⟨A2,hx⟩:=nmE (SA x4.2)
 have yp:ay M0=true:=by rw [hN];exact bD _
 have ym:ay A0=true:=by rw [hI];exact bG _
 have yq:ay M1=true:=by rw [hP];exact bD _
 have yn:ay A1=true:=by rw [hJ];exact bG _
 have xH:ay M2=true:=by rw [hy];exact bD _
 have xG:ay A2=true:=by rw [hx];exact bG _
 have kM:∀y∈M2,y.length=10:=by rw [hy];exact Km _
 have dM:∀y∈M2,y.all dat=true:=by rw [hy];exact BK _
 have kA:∀y∈A2,y.length=6:=by rw [hx];exact Kn _
 have dA:∀y∈A2,y.all dat=true:=by rw [hx];exact BM _
 have cF:=cF (.view M2) (.view A2)
 rw [<-hN,<-hI,<-hP,<-hJ]at cI
 rw [<-hP,<-hJ,<-hy,<-hx]at cS
 rw [<-hN,<-hI,<-hy,<-hx]
 have hO:=fun(g:Gd)(hg:g= @G0 bp0 prog 3 f148.ntmps)(Q':Exit->List (Nat×AV)->EH->Prop) E hE hQ'=>Fm hg (Q:=Q') V rtl keeps n s0 row ⟨lm,ln⟩ ⟨am,an⟩ KW w0 w1 h0' h1' K M2 A2 xH xG IN GP hv vI vL vZ h8 vC vT fl ft fr fb ⟨w0,w1⟩ ⟨h0',h1'⟩ iw ih kids hK ht I xz hp ZZ CC ST S1 h6 h5 xC hc hr hW hA hX.symm xm LL xA (by omega) hs hz hal E hE hQ'
 rw [<-he]at hO
 obtain⟨FF,xl⟩:=nmE (yh q rtl I IN hv ZZ S1 ST 0 (LL.zip CC))
 have xN:FF.length=kids.length:=by rw [xl,re,fj hs,hz,bX]
 rw [<-xl]at hO⊢
 have yv:0<kids.length:=List.length_pos_iff.2 hkn
 obtain⟨f0,FT,xi⟩:∃f t,FF=f::t:=by
  cases FF with
  |nil=>simp at xN;omega
  |cons a b=>exact⟨_,_,rfl⟩
 obtain⟨h7,hu⟩:∃y,S1[(0:Int).toNat]? =some y:=⟨_,zqc (by show 0<S1.length;omega)⟩
 have hB:sdZ S1 0=h7:=xK (zpc 0) hu
 obtain⟨vF,ho⟩:=nmE (vw ag.c FF)
 have yf:=lmV ho
 have yl:=kmV (k:=5) ho fun _=>rfl
 have x5:=dmV ho
 have pF:=pmV ho
 have xk:vF[(0:Int).toNat]? =some (lc (ag.c f0)):=by rw [ho,xi];rfl
 have xj:(0:Int)<aN vF:=by rw [ho,aU];omega
 have xo:h8[(0:Int).toNat]? =some (lc (aw.c h7)):=by rw [hc];exact aZ hu
 have hH:=fz fl ft fr fb
 have hG:=fB fl ft fr fb
 obtain⟨B1,xf⟩:=nmE (adE fl fr)
 obtain⟨B2,xg⟩:=nmE (adE ft fb)
 change PC0 _ _ (.i (adE fl fr))at hH
 change PC0 _ _ (.i (adE ft fb))at hG
 rw [<-xf]at hH
 rw [<-xg]at hG
 obtain⟨XW,hU⟩:=nmE ((if row then IN else hv))
 obtain⟨XH,hT⟩:=nmE ((if row then hv else IN))
 obtain⟨W1,xq⟩:=nmE (wrap64 (XW+B1))
 obtain⟨H1,xn⟩:=nmE (wrap64 (XH+B2))
 obtain⟨BB,xh⟩:=nmE (wrap64 (f0.y+h7.base))
 have xc:=dT w0 w1 W1
 have xd:=dT h0' h1' H1
 have h9:=aI BB
 generalize hQ:tak ⟨w0,w1⟩ W1=R1 at xc;replace hQ:=hQ.symm
 generalize hR:tak ⟨h0',h1'⟩ H1=R2 at xd;replace hR:=hR.symm
 generalize hS:cl BB=R3 at h9;replace hS:=hS.symm
 have xV:jH.ac (G4 q IN hv FF S1)=[.J R1,.J R2,.J R3,.view vF]:=by
  rw [hQ,hR,hS,xq,xn,xh,hU,hT,xf,xg,ho]
  unfold G4
  rw [h4,x1,x0,h3,<-hX,hB,xi]
  rfl
 rw [xV]
 refine uL (t:=45) (k:=5) (V:=vF) (R:= .t (.agg [.J R1,.J R2,.J R3,.own 5])) ?_ yl x5 rfl rfl rfl
 have xI:∀g:Gd,g=G0 prog 3 f148.ntmps->g .rp (g .ln K) [.J 0,.J 0,.J 0,.J 0,.J 0]=vw ag.c (List.replicate kids.length ⟨0,0,0,0,0⟩):=fun g hg=>by
  rw [zy hg,bz hg,hK,aU,Int.toNat_natCast];exact rk ag.c kids.length ⟨0,0,0,0,0⟩
 have xQ:K.length<=1048576:=by rw [hK,ar];exact ht
 have t0:∀g:Gd,g=G0 prog 3 f148.ntmps->g .q .neq s0.wrap 1=wr:=fun g hg=>by rw [bC hg,xD];exact(dQ _ _).trans (by simp)
 have te:∀g:Gd,g=G0 prog 3 f148.ntmps->g .q .eql s0.wrap 1=decide (s0.wrap=1):=fun g hg=>by rw [bj hg];exact zqn _ _
 have t1:∀g:Gd,g=G0 prog 3 f148.ntmps->g .w .add .i64 XW B1=W1:=fun g hg=>by rw [aG hg,xq]
 have t2:∀g:Gd,g=G0 prog 3 f148.ntmps->g .w .add .i64 XH B2=H1:=fun g hg=>by rw [aG hg,xn]
 have t3:∀g:Gd,g=G0 prog 3 f148.ntmps->g .w .add .i64 f0.y h7.base=BB:=fun g hg=>by rw [aG hg,xh]
 clear xV hQ hR hS xq xn xh xf xg hX h4 h3 xw xv xx x1 x0 hB xi xN xl xp hu hA hp hW hZ hY hz hs xT xO xJ xS xP he xY xs hr hal hf xD xW xX xZ xu x7 hn xR xU xL hC ha hb x2 xy xr hN hI hP hJ hy hx hM hRM hV xm hbx hk hm hq
 refine mC [] func148 (fun g yr hd F x8 yt hg hF=> ?_)
 have t0:=t0 g hg
 have te:=te g hg
 have t1:=t1 g hg
 have t2:=t2 g hg
 have t3:=t3 g hg
 have xI:=xI g hg
 have hO:=hO g hg
 cbv
 ((repeat'((first|rw [t0]|refine ad hg cZ ?_|refine ad hg cN ?_|refine ad hg cG ?_|refine aa hg xb ?_|refine aa hg hh ?_|refine ad hg cC ?_|refine aa hg hw ?_|refine aa hg cT ?_|refine aa hg cK ?_|refine gl rfl hg 0 1 2 cI rfl rfl rfl (by decide) rfl yp ym ⟨rfl,.inl ⟨rfl,rfl⟩,zpt⟩ rfl ?_|refine gl rfl hg 0 7 8 cS rfl rfl rfl (by decide) rfl yq yn ⟨rfl,.inl ⟨rfl,rfl⟩,rfl,zpt⟩ rfl ?_|refine bH hg cF (dz (qw (r:=0) (rm:=9) (ra:=10) [.view V,.B rtl,.B keeps] rfl rfl rfl kM dM rfl kA dA) (bv rfl (aj (av rfl) (aj (av rfl) (aj (av rfl) (aj (av rfl) az)))))) xE ?_);cbv)))
 by_cases hw1:s0.wrap=1
 all_goals
  first|rw [if_pos hw1]at xt|rw [if_neg hw1]at xt
  rw [xt]at cL
  first|rw [zqu hw1]at te|rw [zqt hw1]at te
  ((repeat'((first|rw [te]|refine ad hg hw ?_|refine ad hg cL ?_|refine ad hg xa ?_);cbv)))
  refine GI hg (by decide) xQ ?_
  cbv
  generalize hE0:g .rp (g .ln K) _=E3
  have xM:E3=vw ag.c (List.replicate kids.length ⟨0,0,0,0,0⟩):=by rw [<-hE0];exact xI
  clear hE0
  have yo:=pmV xM
  refine me hg (mZ (jD f148) 0) (by kernel_rfl) [(0,.p 0),(5,.p 3),(6,.p 4),(7,.p 5),(8,.p 6),(9,.v vI),(10,.v vZ),(11,.i (IN)),(12,.i (GP)),(13,.v vL),(14,.v h8),(15,.v vC),(16,.i (hv)),(18,.v vT),(19,.p 9),(20,.p 10),(21,.i (0))] [.bx 91 5 [.view V,.B rtl,.B keeps,.own 7,.own 8],.gn,.gn,.bx 180 68 (nwL n s0 row ⟨lm,ln⟩ ⟨am,an⟩ KW (.view K)),.bx 122 2 [.J w0,.J w1],.bx 122 2 [.J h0',.J h1'],.bx 127 4 [.J 0,.J 0,.J 0,.N],.rw ⟨157,10,M2⟩,.rw ⟨172,6,A2⟩,.bx 34 4 [.J fl,.J ft,.J fr,.J fb],.bx 127 4 [.J 0,.J 0,.J 0,.own 11],.rw ⟨45,5,E3⟩] (bK (sl1 11 h8) (jL rfl xF xe) (Wk.weak (wkM [some 0,none,none,some 3,some 4,some 5,some 6,some 9,some 10,some 12,some 14,some 13] ⟨rfl,rfl,rfl,rfl,rfl,rfl,rfl,rfl,rfl,rfl,rfl,rfl,rfl,rfl,rfl,rfl,rfl,zpt⟩ ⟨.inr (wqB rfl ⟨zr5,zpt⟩),.inl rfl,.inl rfl,.inr (wqE rfl rfl),.inr (wqE rfl rfl),.inr (wqE rfl rfl),.inr (wqE rfl rfl),.inr ⟨_,_,rfl,rfl,rfl,rfl,.inl (bJ xH)⟩,.inr ⟨_,_,rfl,rfl,rfl,rfl,.inl (bJ xG)⟩,.inr (wqE rfl rfl),.inr (wqB rfl ⟨zr4,zpt⟩),.inr ⟨_,_,rfl,rfl,rfl,rfl,.inl (bJ yo)⟩,zpt⟩ (by decide) ⟨.inl rfl,.inl rfl,.inr rfl,zpt⟩ ⟨.inl rfl,.inl rfl,.inr ⟨_,rfl⟩,zpt⟩))) ?_
  refine hO _ E3 xM fun z2 E2 x6=> ?_
  obtain rfl:vF=E2:=by rw [x6,ho]
  cbv
  cases row
  all_goals
   (try simp only [Bool.false_eq_true,if_false]at hU hT)
   (try simp only [if_true]at hU hT)
   subst hU hT
   (try cbv)
   ((repeat'((first|rw [t1]|rw [t2]|rw [t3]|refine aa hg hH ?_|refine aa hg hG ?_|refine aa hg xc ?_|refine aa hg xd ?_|refine aa hg h9 ?_|refine goX hg _ (zpc 0) xo rfl ?_|refine goY hg (zpc 0) xj fun j hj yu=> ?_;subst hj|refine⟨_,xk,?_⟩);cbv)))
   exact Ch 7 8 11 hF rfl (.inr zr4) rfl rfl rfl rfl (by decide) rfl xH xG pF
end
end Go.Proofs.YtckchgoblpgpbaaGreat
