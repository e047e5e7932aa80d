/- A part. -/
import Derived.Test.YtckchgoblpgpbaaGreatJ8az
set_option linter.all false
set_option maxHeartbeats 80000000
namespace Go.Proofs.YtckchgoblpgpbaaGreat
open Go.ChangeShapes Go.WideShapes Go.ChangeAt Go.RowKit Am Go.Proofs.Tryz
set_option maxRecDepth 100000
section
variable {ns:List ae}{n:Int}
theorem yc(ns:List ae)(hl:ns.length<=1048576)(n:Int)(x:ae)(h1:isN ns n=true)(hx:ns[(n-1).toNat]? =some x)(hkl:x.kids.length<20)(hk:∀k∈x.kids,isN ns k=true)(hrl:x.table.rules.length<=1048576)(rtl:Bool)(b:Bv)(hbx:∀kid∈flK ns n,uE (vwA ae.ac ns) rtl b kid):G5 (vwA ae.ac ns) rtl (HE b ns rtl) n:=by
 intro w0 w1 ha hb
 have b2:=bd h1
 have cP:=wq ns n x hl b2.1 (by have:=b2.2.1;omega) hx hkl hk rtl w0 w1 ha hb
 have xm:flK ns n=ix (i9 ns) (x.kids.filter (m6 ns)):=Bm hx
 have hr:∀k∈flK ns n,isN ns k=true:=fun k h=>hk k (by rw [xm]at h;exact(List.mem_filter.1 ((xG _ _ _).1 h)).1)
 have hs:(flK ns n).length<20:=by rw [xm,l6];exact Nat.lt_of_le_of_lt (List.length_filter_le _ _) hkl
 rw [<-xm]at cP
 obtain⟨p,hp⟩:=nmE (plO ns n ⟨w0,w1⟩ ⟨ha,hb⟩)
 have hh:PC0 169 [.agg (lx (vwA ae.ac ns) rtl),ai n,agP ⟨w0,w1⟩,agP ⟨ha,hb⟩] (.t (.agg (plL n p.s p.w p.h p.row p.wide p.high p.al p.ac (.view (vw ak p.kids))))):=by
  rw [hp]
  unfold plO
  rw [gj hx]
  exact cP
 clear cP
 have xQ:kst ns n=x.style:=gj hx
 have yg:nod ns n=x:=Gp hx
 have yi:p.w=⟨w0,w1⟩/\p.h=⟨ha,hb⟩/\p.s=x.style/\p.wide=inW x.style ⟨w0,w1⟩/\p.kids=flK ns n:=by rw [hp];exact⟨rfl,rfl,gj hx,by show inW (kst ns n) _=_;rw [xQ],rfl⟩
 obtain⟨e1,e2,e3,e4,e5⟩:=yi
 unfold F5 HE
 rw [yg,xQ,<-hp,<-e1,<-e2,<-e3,<-e5]
 have yp:inW p.s p.w=p.wide:=by rw [e3,e1,e4]
 rw [yp]
 rw [<-e5]at hr hs hbx
 have cy:=bO ns n x b2.1 (by have:=b2.2.1;omega) hx (vwA ae.ac ns) _ _ rfl rfl rfl
 obtain⟨s0,row,w,h,iw,ih,al,ac,kids⟩:=p
 dsimp only at *
 subst e1 e2
 have cl:=xP n s0 ⟨w0,w1⟩ ⟨ha,hb⟩ row iw ih al ac (vw ak kids)
 have ci:=qy ns hl rtl b n ⟨s0,row,⟨w0,w1⟩,⟨ha,hb⟩,iw,ih,al,ac,kids⟩ (by dsimp only;omega) hr hbx
 have cs:=fun zs yq=>qx ns hl rtl b n ⟨s0,row,⟨w0,w1⟩,⟨ha,hb⟩,iw,ih,al,ac,kids⟩ zs (by dsimp only;omega) yq hr hbx
 obtain⟨V,hV⟩:=nmE (vwA ae.ac ns)
 rw [<-hV]at cy hh ci⊢
 simp only [<-hV]at cs
 obtain⟨Kx,xM⟩:=nmE (vw ak x.kids)
 obtain⟨Rx,xp⟩:=nmE (vw aC.c x.table.rules)
 rw [<-xM,<-xp]at cy
 obtain⟨im,iN⟩:=iw
 have cR:=oI im iN
 have cW:=sG x.table.rules (lw ⟨im,iN⟩) hrl
 rw [<-xp]at cW
 have yf:∀q:jH,jH.ac q=[.J q.wide,.J q.high,.J q.base,.view (vw ag.c q.frames)]:=fun q=>rfl
 obtain⟨x0,x1,x2,x3,x4⟩:=x
 dsimp only at *
 by_cases hy:x3=true
 ·rw [if_pos hy]
  subst hy
  generalize hRO:lw ⟨im,iN⟩=RO at cR cW
  obtain⟨⟨q0,q1⟩,hq⟩:∃q,q=wnt x4.rules RO:=⟨_,rfl⟩
  rw [<-hq]at cW⊢
  have cl:=cl q0 q1
  generalize xo:Cc s0 ⟨w0,w1⟩ ⟨ha,hb⟩ (q0,q1)=LF at cl;replace xo:=xo.symm
  have he:ay (vw ag.c LF.frames)=true:=aD _ _
  generalize xj:vw ag.c LF.frames=FR at cl he;replace xj:=xj.symm
  obtain⟨K,hK⟩:=nmE (vw ak kids)
  have xn:=lmV hK
  rw [<-hK]at hh cl
  clear ci cs hp hbx hr
  refine aV func125 fun g F hg hF=> ?_
  cbv
  (repeat'((first|refine ad hg hh ?_|refine ad hg cy ?_|refine aa hg cR ?_|refine aa hg cW ?_|refine BE hg cl (gV rfl) he ?_);cbv))
  exact wW hF rfl he
 ·rw [if_neg hy]
  replace hy:x3=false:=by simpa using hy
  subst hy
  by_cases hkn:kids=[]
  ·rw [if_pos hkn]
   have cl:=cl 0 0
   generalize xo:Cc s0 ⟨w0,w1⟩ ⟨ha,hb⟩ (0,0)=LF at cl
   have he:ay (vw ag.c LF.frames)=true:=aD _ _
   generalize xj:vw ag.c LF.frames=FR at cl he
   clear ci cs hp hbx hr
   subst hkn
   refine aV func125 fun g F hg hF=> ?_
   have t0:g .ln ([]:LLA)=0:=by rw [bz hg];rfl
   have t1:g .q .eql (0:Int) 0=true:=by rw [bj hg];rfl
   cbv
   (repeat'((first|rw [t0]|rw [t1]|refine ad hg hh ?_|refine ad hg cy ?_|refine xd hg cl rfl he ?_);cbv))
   exact wW hF rfl he
  ·rw [if_neg hkn]
   clear cW cR cl xp xM
   obtain⟨q,hq⟩:∃q:Pl,q=⟨s0,row,⟨w0,w1⟩,⟨ha,hb⟩,⟨im,iN⟩,ih,al,ac,kids⟩:=⟨_,rfl⟩
   rw [<-hq]at ci cs⊢
   have yj:q.kids=kids:=by rw [hq]
   unfold JB
   rw [yj]
   have ci:=yH ci (fun _=>rfl)
   have hf:=Bc b q rtl ns kids
   obtain⟨I,hI⟩:=nmE (Ej b q rtl ns kids)
   rw [<-hI]at ci hf⊢
   have xJ:I.length<=1048576:=by rw [hf];exact Nat.le_of_lt (Nat.lt_trans hs (by decide))
   have cN:=ov n s0 ⟨w0,w1⟩ ⟨ha,hb⟩ row ⟨im,iN⟩ ih al ac (vw ak kids) I xJ
   have h4:=vB q I
   have cs:=cs (tc q I) (by rw [h4,hf])
   obtain⟨S0,xN⟩:=nmE (Gh b q rtl ns (kids.zip (tc q I)))
   have hH:S0.length=kids.length:=by rw [xN,EJ,zqB,h4,hf];exact Nat.min_self _
   rw [<-xN]at cs⊢
   change PC0 _ _ (.tup [.c (.view (vwA lnA (lns I (jG s0 row) (lw al) (!decide (s0.wrap=1))))),ai (tak al (lng I (jG s0 row) (lw al) (!decide (s0.wrap=1)))),.c (.view (vw ak (lsz I (jG s0 row) (lw al) (!decide (s0.wrap=1)) (tak al (lng I (jG s0 row) (lw al) (!decide (s0.wrap=1)))))))])at cN
   have hN:m5 q I=lns I (jG s0 row) (lw al) (!decide (s0.wrap=1)):=by rw [hq];rfl
   have xR:Ek q I=tak al (lng I (jG s0 row) (lw al) (!decide (s0.wrap=1))):=by rw [hq];rfl
   have xS:tc q I=lsz I (jG s0 row) (lw al) (!decide (s0.wrap=1)) (tak al (lng I (jG s0 row) (lw al) (!decide (s0.wrap=1)))):=by rw [hq];rfl
   rw [<-xS,<-xR,<-hN]at cN
   have hw:(m5 q I).flatten=ixs 0 kids.length:=by rw [hN,km,hf]
   have hM:(m5 q I).length<=64:=by rw [hN];exact zpb (mf ..) (by omega)
   have xw:∀l∈m5 q I,l.length<=1048576/\∀i∈l,0<=i/\i<(S0.length:Int):=fun l hm=>by
    rw [hN]at hm
    exact⟨zpb (kl hm) xJ,fun i hi=>by have:=wl hm hi;omega⟩
   have cC:=pk n s0 ⟨w0,w1⟩ ⟨ha,hb⟩ row ⟨im,iN⟩ ih al ac (vw ak kids) (m5 q I) S0 (by omega) hM xw
   have xT:zK q (m5 q I) S0=FJ s0 row ac (m5 q I) S0:=by rw [hq];rfl
   rw [<-xT]at cC
   have hn:(zK q (m5 q I) S0).length=(m5 q I).length:=rh q _ _ hM
   unfold Ke
   dsimp only
   obtain⟨LL,yd⟩:=nmE (m5 q I)
   obtain⟨ZZ,ye⟩:=nmE (tc q I)
   obtain⟨IN,xL⟩:=nmE (Ek q I)
   rw [<-yd]at hw hM xw cC hn cN⊢
   rw [<-ye]at h4 cs cN⊢
   rw [<-xL]at cN⊢
   obtain⟨CC,x9⟩:=nmE (zK q LL S0)
   rw [<-x9]at hn cC⊢
   clear hN xR xS xT
   have cG:=jh s0 (!row)
   have xU:vb q=jG s0 (!row):=by rw [hq];rfl
   have cT:=gy CC (vb q) (by rw [hn];omega)
   obtain⟨am,an⟩:=ac
   have cK:=fQ am an (crt CC (vb q))
   have xV:BJ q CC=tak ⟨am,an⟩ (crt CC (vb q)):=by rw [hq];rfl
   rw [<-xV]at cK
   have cL:=pp CC (vb q) (BJ q CC) (ctP q) (by omega)
   have xx:ctP q=if s0.wrap=1 then 2 else s0.content:=by rw [hq];rfl
   rw [<-xU]at cG
   have xy:It q CC=pll CC (vb q) (BJ q CC) (ctP q):=rfl
   rw [<-xy]at cL
   obtain⟨GC,xI⟩:=nmE (vb q)
   obtain⟨hd,xE⟩:=nmE (BJ q CC)
   obtain⟨ST,xs⟩:=nmE (It q CC)
   rw [<-xI]at cG cT cK cL
   rw [<-xE]at cK cL⊢
   rw [<-xs]at cL⊢
   have xt:ST.length<=1048576:=by rw [xs,xy];exact zpb (Hx ..) (by omega)
   clear xU xV xy
   obtain⟨TT,xO⟩:=nmE (crt CC GC)
   rw [<-xO]at cT cK
   have cB:=eX am an
   obtain⟨KB,xl⟩:=nmE (knS ⟨am,an⟩)
   rw [<-xl]at cB
   obtain⟨K,hK⟩:=nmE (vw ak kids)
   have xn:=lmV hK
   rw [<-hK]at hh ci cN cs cC
   generalize xz:vw af.c I=vI at ci cN;replace xz:=xz.symm
   obtain⟨vZ,h3⟩:=nmE (vw ak ZZ)
   have yo:=lmV h3
   rw [<-h3]at cN cs
   obtain⟨vS,hv⟩:=nmE (vw aw.c S0)
   have ym:=lmV hv
   have yr:=imV hv
   have x7:=kmV (k:=7) hv fun _=>rfl
   have xD:=dmV hv
   rw [<-hv]at cs cC
   obtain⟨vC,hu⟩:=nmE (vw ak CC)
   have yk:=lmV hu
   have x5:=imV hu
   have hQ:=kmV (k:=1) hu fun _=>rfl
   have hB:=dmV hu
   rw [<-hu]at cC cT cL
   generalize h2:vwA lnA LL=vL at cN cC;replace h2:=h2.symm
   obtain⟨vT,hA⟩:=nmE (vw ak ST)
   have yn:=lmV hA
   have x6:=imV hA
   have ys:=kmV (k:=1) hA fun _=>rfl
   have x8:=dmV hA
   rw [<-hA]at cL
   have ho:kids.length<=1048576:=Nat.le_of_lt (Nat.lt_trans hs (by decide))
   have xv:ZZ.length=kids.length:=by rw [h4,hf]
   have hC:LL.length<=1048576:=zpb hM (by decide)
   have hD:=fun(g:Gd)(hg:g= @G0 bp0 prog 0 f125.ntmps)(Q':Exit->List (Nat×AV)->EH->Prop) hQ'=>Dz hg (Q:=Q') ns hl V hV rtl n s0 row ⟨im,iN⟩ ih al ⟨am,an⟩ w0 w1 ha hb kids K hK ho hr IN hd KB xl vI vL vZ vC vT ZZ CC h3 hu S0 xv hH LL h2 hC hn hw hQ'
   rw [<-hq,<-hv]at hD
   obtain⟨S1,xr⟩:=nmE (DN q ns S0 ZZ (LL.zip CC))
   have hJ:S1.length=kids.length:=by rw [xr,Bp,fj hn,hw,bX]
   rw [<-xr]at hD⊢
   have h7:=e9 s0
   obtain⟨fe,h0⟩:=nmE (mz s0)
   rw [<-h0]at h7
   have hO:q.s=s0:=by rw [hq]
   have xY:q.w=⟨w0,w1⟩:=by rw [hq]
   have xW:q.h=⟨ha,hb⟩:=by rw [hq]
   have xX:q.row=row:=by rw [hq]
   obtain⟨fl,ft,fr,fb⟩:=fe
   have hT:=ei fl ft fr fb
   have hS:=ek fl ft fr fb
   obtain⟨hR,hc⟩:=nmE (vw aw.c S1)
   have xZ:=lmV hc
   have xB:=kmV (k:=7) hc fun _=>rfl
   have xa:=dmV hc
   have hG:=fun(g:Gd)(hg:g= @G0 bp0 prog 0 f125.ntmps)(Q':Exit->List (Nat×AV)->EH->Prop) E hE hQ'=>Dy hg (Q:=Q') V rtl n s0 row ⟨im,iN⟩ ih al ⟨am,an⟩ w0 w1 ha hb K IN hd vI vL vZ hR vC vT fl ft fr fb kids hK ho I xz hf ZZ CC ST S1 h3 hu hA hc xt xv hJ h0.symm LL h2 hC hn hw E hE hQ'
   rw [<-hq]at hG
   obtain⟨FF,xi⟩:=nmE (yh q rtl I IN hd ZZ S1 ST 0 (LL.zip CC))
   have xH:FF.length=kids.length:=by rw [xi,re,fj hn,hw,bX]
   rw [<-xi]at hG⊢
   have yv:0<kids.length:=List.length_pos_iff.2 hkn
   obtain⟨f0,FT,xf⟩:∃f t,FF=f::t:=by
    cases FF with
    |nil=>simp at xH;omega
    |cons a b=>exact⟨_,_,rfl⟩
   obtain⟨h5,ht⟩:∃y,S1[(0:Int).toNat]? =some y:=⟨_,zqc (by show 0<S1.length;omega)⟩
   have hP:sdZ S1 0=h5:=xK (zpc 0) ht
   obtain⟨vF,hz⟩:=nmE (vw ag.c FF)
   have yl:=lmV hz
   have pF:=pmV hz
   have xh:vF[(0:Int).toNat]? =some (lc (ag.c f0)):=by rw [hz,xf];rfl
   have xg:(0:Int)<aN vF:=by rw [hz,aU];omega
   have xq:hR[(0:Int).toNat]? =some (lc (aw.c h5)):=by rw [hc];exact aZ ht
   obtain⟨A1,xb⟩:=nmE (adE fl fr)
   obtain⟨A2,xc⟩:=nmE (adE ft fb)
   change PC0 _ _ (.i (adE fl fr))at hT
   change PC0 _ _ (.i (adE ft fb))at hS
   rw [<-xb]at hT
   rw [<-xc]at hS
   obtain⟨XW,hZ⟩:=nmE ((if row then IN else hd))
   obtain⟨XH,hY⟩:=nmE ((if row then hd else IN))
   obtain⟨W1,xu⟩:=nmE (wrap64 (XW+A1))
   obtain⟨H1,xk⟩:=nmE (wrap64 (XH+A2))
   obtain⟨BB,xe⟩:=nmE (wrap64 (f0.y+h5.base))
   have h8:=fQ w0 w1 W1
   have h9:=fQ ha hb H1
   have h6:=aM BB
   generalize hU:tak ⟨w0,w1⟩ W1=R1 at h8;replace hU:=hU.symm
   generalize hW:tak ⟨ha,hb⟩ H1=R2 at h9;replace hW:=hW.symm
   generalize hX:cl BB=R3 at h6;replace hX:=hX.symm
   have hL:(G4 q IN hd FF S1).wide=R1/\(G4 q IN hd FF S1).high=R2/\(G4 q IN hd FF S1).base=R3/\(G4 q IN hd FF S1).frames=FF:=by
    rw [hU,hW,hX,xu,xk,xe,hZ,hY,xb,xc]
    unfold G4
    rw [hO,xY,xW,xX,<-h0,hP,xf]
    exact⟨rfl,rfl,rfl,rfl⟩
   rw [hL.1,hL.2.1,hL.2.2.1,hL.2.2.2,<-hz]
   have t1:∀g:Gd,g=G0 prog 0 f125.ntmps->g .w .add .i64 XW A1=W1:=fun g hg=>by rw [aG hg,xu]
   have t2:∀g:Gd,g=G0 prog 0 f125.ntmps->g .w .add .i64 XH A2=H1:=fun g hg=>by rw [aG hg,xk]
   have t3:∀g:Gd,g=G0 prog 0 f125.ntmps->g .w .add .i64 f0.y h5.base=BB:=fun g hg=>by rw [aG hg,xe]
   have xC:∀g:Gd,g=G0 prog 0 f125.ntmps->g .rp (g .ln K) [.J 0,.J 0,.J 0,.J 0,.J 0]=vw ag.c (List.replicate kids.length ⟨0,0,0,0,0⟩):=fun g hg=>by
    rw [zy hg,bz hg,hK,aU,Int.toNat_natCast];exact rk ag.c kids.length ⟨0,0,0,0,0⟩
   have xn:K.length<=1048576:=by rw [hK,ar];exact ho
   have pS:=pmV hv
   have t0:∀g:Gd,g=G0 prog 0 f125.ntmps->g .q .eql s0.wrap 1=decide (s0.wrap=1):=fun g hg=>by rw [bj hg];exact zqn _ _
   have xA:∀g:Gd,g=G0 prog 0 f125.ntmps->g .q .eql (g .ln K) 0=false:=fun g hg=>by
    rw [bj hg,bz hg,hK,aU]
    have:kids.length≠0:=fun h=>hkn (zqv h)
    exact zqr.2 (by omega)
   clear hL hU hW hX xu xk xe xb xc h0 hO xY xW xX hP xf xH xi xr ht hJ hH hf xv hM xw hw hn xO xl xI xE xs xL hq hp hbx hr
   refine aV func125 fun g F hg hF=> ?_
   have t0:=t0 g hg
   have xA:=xA g hg
   have t1:=t1 g hg
   have t2:=t2 g hg
   have t3:=t3 g hg
   have xC:=xC g hg
   have hD:=hD g hg
   have hG:=hG g hg
   cbv
   (repeat'((first|rw [xA]|refine ad hg hh ?_|refine ad hg cy ?_|refine ad hg ci ?_|refine ad hg cN ?_|refine bH hg cs (bn rfl) yr ?_|refine bH hg cC (bv rfl (aj (av rfl) (aj (aX (ab:=⟨_,_,vS⟩) rfl x7 xD) (az)))) x5 ?_|refine fy hg cT (aj (aX (ab:=⟨_,_,vC⟩) rfl hQ hB) (aj (av rfl) (az))) rfl ?_|refine ad hg cG ?_|refine aa hg cK ?_);cbv))
   by_cases hw1:s0.wrap=1
   all_goals
    first|rw [if_pos hw1]at xx|rw [if_neg hw1]at xx
    rw [xx]at cL
    first|rw [zqu hw1]at t0|rw [zqt hw1]at t0
    (repeat'((first|rw [t0]|refine bH hg cL (aj (aX (ab:=⟨_,_,vC⟩) rfl hQ hB) (aj (av rfl) (aj (av rfl) (aj (av rfl) (az))))) x6 ?_|refine ad hg cB ?_);cbv))
    refine me hg (mZ (jD f125) 0) (by kernel_rfl) [(4,.p 0),(6,.p 1),(7,.p 2),(8,.p 3),(9,.p 4),(11,.v vI),(12,.v vL),(13,.i (IN)),(14,.v vZ),(15,.o 5),(16,.v vC),(18,.i (hd)),(20,.v vT),(21,.i (KB)),(116,.v vL),(117,.i (g .ln vL)),(118,.i (0))] [.bx 76 3 (lx V rtl),.bx 122 2 [.J w0,.J w1],.bx 122 2 [.J ha,.J hb],.bx 127 4 [.J 0,.J 0,.J 0,.N],.bx 196 75 (plL n s0 ⟨w0,w1⟩ ⟨ha,hb⟩ row ⟨im,iN⟩ ih al ⟨am,an⟩ (.view K)),.rw ⟨210,7,vS⟩] (bK (sl2 7 8 vC vT) (Hp rfl hQ hB rfl ys x8) (Wk.weak (wkG [some _,some _,some _,some _,some _,some 6] ⟨rfl,rfl,rfl,rfl,rfl,rfl,rfl,rfl,rfl,rfl,rfl,rfl,rfl,rfl,rfl,rfl,rfl,zpt⟩ ⟨wqE rfl rfl,wqE rfl rfl,wqE rfl rfl,wqE rfl rfl,wqE rfl rfl,⟨_,_,rfl,rfl,rfl,rfl,.inl (bJ pS)⟩,zpt⟩ (by decide) aB))) ?_
    refine hD _ fun z1 E1 ya=> ?_
    obtain rfl:hR=E1:=by rw [ya,hc]
    cbv
    ((repeat'(refine ad hg h7 ?_;cbv)))
    refine GI hg (by decide) xn ?_
    cbv
    generalize hE0:g .rp (g .ln K) _=E3
    have xF:E3=vw ag.c (List.replicate kids.length ⟨0,0,0,0,0⟩):=by rw [<-hE0];exact xC
    clear hE0
    have yt:=pmV xF
    refine me hg (mZ (jD f125) 2) (by kernel_rfl) [(4,.p 0),(6,.p 1),(7,.p 2),(8,.p 3),(9,.p 4),(11,.v vI),(12,.v vL),(13,.i (IN)),(14,.v vZ),(15,.v hR),(16,.v vC),(18,.i (hd)),(20,.v vT),(28,.p 5),(29,.o 6),(210,.v vL),(211,.i (g .ln vL)),(212,.i (0))] [.bx 76 3 (lx V rtl),.bx 122 2 [.J w0,.J w1],.bx 122 2 [.J ha,.J hb],.bx 127 4 [.J 0,.J 0,.J 0,.N],.bx 196 75 (plL n s0 ⟨w0,w1⟩ ⟨ha,hb⟩ row ⟨im,iN⟩ ih al ⟨am,an⟩ (.view K)),.bx 34 4 [.J fl,.J ft,.J fr,.J fb],.rw ⟨45,5,E3⟩] (bK (sl1 5 hR) (jL rfl xB xa) (Wk.weak (wkG [some _,some _,some _,some _,some _,some 6,some 7] ⟨rfl,rfl,rfl,rfl,rfl,rfl,rfl,rfl,rfl,rfl,rfl,rfl,rfl,rfl,rfl,rfl,rfl,rfl,zpt⟩ ⟨wqE rfl rfl,wqE rfl rfl,wqE rfl rfl,wqE rfl rfl,wqE rfl rfl,wqE rfl rfl,⟨_,_,rfl,rfl,rfl,rfl,.inl (bJ yt)⟩,zpt⟩ (by decide) aB))) ?_
    refine hG _ E3 xF fun z2 E2 yb=> ?_
    obtain rfl:vF=E2:=by rw [yb,hz]
    cbv
    cases row
    all_goals
     (try simp only [Bool.false_eq_true,if_false]at hZ hY)
     (try simp only [if_true]at hZ hY)
     subst hZ hY
     (try cbv)
     ((repeat'((first|rw [t1]|rw [t2]|rw [t3]|refine aa hg hT ?_|refine aa hg hS ?_|refine aa hg h8 ?_|refine aa hg h9 ?_|refine aa hg h6 ?_|refine goX hg _ (zpc 0) xq rfl ?_|refine goY hg (zpc 0) xg fun j hj yu=> ?_;subst hj|refine⟨_,xh,?_⟩);cbv)))
     exact wW hF rfl pF
theorem oA{ns:List ae}(hl:ns.length<=1048576)(hs:∀y∈ns,ae.small y)(ht:dl ns=true)(rtl:Bool):∀(f:Nat)(n:Int),isN ns n=true->5<=qg ns n+(f:Int)->Ir (vwA ae.ac ns) rtl (vn ns rtl f) n
 |0,n,hn,hd=>by have:=iu ht hn;omega
 |f+1,n,hn,hd=>by
  obtain⟨n1,n2,x,hx⟩:=bd hn
  have hc:=lB ht n1 hx
  have hb:=fk ht n1 hx
  refine zp _ rtl _ n (yc ns hl n x hn hx (by omega) hb ?_ rtl (vn ns rtl f) fun ha hk=> ?_)
  ·have:=hs x (zqd hx)
   exact this.2.1
  ·have hm:=wV hx ha hk
   have:=nJ ht n1 hx ha hm
   exact sr _ rtl _ ha (oA hl hs ht rtl f ha (hb ha hm) (by omega))
theorem kq(hl:ns.length<=1048576)(hs:∀y∈ns,ae.small y)(ht:dl ns=true)(rtl:Bool)(f:Nat)(n:Int)(hn:isN ns n=true)(hd:5<=qg ns n+(f:Int)):uE (vwA ae.ac ns) rtl (vn ns rtl f) n:=
 sr _ rtl _ n (oA hl hs ht rtl f n hn hd)
theorem mo(ns:List ae)(n:Int)(nd:ae)(h1:isN ns n=true)(hl:ns.length<=1048576)(hnx:ns[(n-1).toNat]? =some nd)(hkl:nd.kids.length<=12)(c:Nat)(hc12:12*c+1<=1048576)(R:Int->List Int)(hR:∀k∈nd.kids,bS prog 99 [.agg [.view (vwA ae.ac ns)],ai k] fun res ha=>res= .o 0/\ha=[⟨3,1,vw ak (R k)⟩])(hRl:∀k∈nd.kids,(R k).length<=c):bS prog 99 [.agg [.view (vwA ae.ac ns)],ai n] fun res ha=>res= .o 0/\ha=[⟨3,1,vw ak (n::nd.kids.flatMap R)⟩]:=by
 have cF:=fun k(h:k∈nd.kids)=>fZ (hR k h) (xj (c:=ak) (k:=1) fun _=>rfl) jc
 clear hR
 obtain⟨W,hW⟩:=nmE (n::nd.kids.flatMap R)
 have hs:W.length<=1048576:=by
  rw [hW,zqx]
  have h2:=yl R c nd.kids hRl
  have h3:=zpf c hkl
  omega
 rw [<-hW]
 have b2:=bd h1
 obtain⟨V,hV⟩:=nmE (vwA ae.ac ns)
 obtain⟨Rt,hn⟩:=nmE (vw aC.c nd.table.rules)
 obtain⟨K,hK⟩:=nmE (vw ak nd.kids)
 have hq:K.length=nd.kids.length:=by rw [hK,ar]
 have cy:=bO ns n nd b2.1 (by have:=b2.2.1;omega) hnx V K Rt hV hK hn
 simp only [<-hV]at cF
 rw [<-hV]
 obtain⟨Z,hZ⟩:=nmE (vw ak W)
 rw [<-hZ]
 have hh:nd.kids.length<=1048576:=by omega
 refine aV func99 fun g F hg hF=> ?_
 cbv
 (repeat'(refine ad hg cy ?_;cbv))
 refine aQ hg bq (by kernel_rfl) K (fun x=>lc (ak x)) nd.kids hK hh (fun z(s:List Int×LLA)=>[(2,.p 0),(5,.o 1),(13,.v K),(14,.i (g .ln K)),(15,.i (z))]) (fun z(s:List Int×LLA)=>[.bx 28 1 [.view V],.rw ⟨3,1,s.2⟩]) (fun z(s:List Int×LLA)=>s.2=vw ak s.1) (fun(s:List Int×LLA) rest=>s.1++rest.flatMap R) (W) ([n],[[.J n]]) (by rw [hW];rfl) rfl (Wk.weak (wkG [some _,some _] zr5 ⟨wqE rfl rfl,wqE rfl rfl,zpt⟩ (by decide) aB)) (fun z s B hz h0 hi he=> ?_) (fun z s x rest B z0 z1 z2 hx hy h0 hi hc e1 hB=> ?_)
 ·obtain⟨hd,E⟩:=s
  dsimp only at hi h0
  have pE:=pmV hi
  obtain rfl:hd=W:=by simpa using h0
  rw [hZ,<-hi]at hF
  cbv;rw [he];cbv
  exact bN hF rfl pE
 ·obtain⟨hd,E⟩:=s
  dsimp only at hi h0
  have hk:x∈nd.kids:=zqd hx
  have cF:=cF x hk
  have ho:=hRl x hk
  obtain⟨Q,hQ⟩:=nmE (vw ak (R x))
  have hr:Q.length=(R x).length:=by rw [hQ,ar]
  have kQ:=kmV (k:=1) hQ fun _=>rfl
  rw [<-hQ]at cF
  have hb:=congrArg List.length h0
  rw [zqe]at hb
  have hm:E.length<=1073741824:=by rw [hi,ar];omega
  have hf:Q.length<=1073741824:=by omega
  have h3:(hd++R x)++rest.flatMap R=W:=by rw [<-h0];simp
  have aE:E++Q=vw ak (hd++R x):=by rw [hi,hQ,zY]
  obtain⟨E2,hj⟩:=nmE (E++Q)
  rw [<-hj]at aE
  have hp:=pmV aE
  clear hb ho
  cbv;rw [hc];cbv;refine goX hg _ z0 hy rfl ?_;cbv
  (repeat'((first|rw [e1]|refine ad hg cF ?_|refine Iy hg kQ (by decide) hm hf ?_;cbv;rw [fI hg,<-hj]);cbv))
  exact hB ((hd++R x,E2)) _ _ ⟨h3,aE⟩ (Wk.weak (wkG [some _,some 2] zr5 ⟨wqE rfl rfl,wqE rfl hp,zpt⟩ (by decide) aB))
theorem mq(ns:List ae)(hl:ns.length<=1048576)(ht:dl ns=true):∀(f:Nat),f<=3->∀n:Int,isN ns n=true->4<=qg ns n+(f:Int)->bS prog 99 [.agg [.view (vwA ae.ac ns)],ai n] fun res ha=>res= .o 0/\ha=[⟨3,1,vw ak (zW ns f n)⟩]
 |0,_,n,hn,hd=>by
  obtain⟨n1,n2,x,hx⟩:=bd hn
  have hk:=oy ht hn hx (by omega)
  have:=mo ns n x hn hl hx (by rw [hk];simp) 0 (by decide) (fun _=>[]) (by rw [hk];simp) (by rw [hk];simp)
  rw [hk]at this
  exact this
 |f+1,hf,n,hn,hd=>by
  obtain⟨n1,n2,x,hx⟩:=bd hn
  have he:=lB ht n1 hx
  have hc:=fk ht n1 hx
  have hb:12*(uN f+1)+1<=1048576:=by
   rcases f with _|_|_|f
   ·decide
   ·decide
   ·decide
   ·omega
  have:=mo ns n x hn hl hx he (uN f+1) hb (zW ns f) (fun k hk=>mq ns hl ht f (by omega) k (hc k hk) (by have:=nJ ht n1 hx k hk;omega)) (fun k _=>mH ht f k)
  rw [<-kr hx]at this
  exact this
theorem zt(V:LLA)(n:Int)(xs:List Int)(hxl:xs.length<=1048576)(hA:bS prog 99 [.agg [.view V],ai n] fun res ha=>res= .o 0/\ha=[⟨3,1,vw ak xs⟩]):bS prog 71 [.agg [.view V],ai n] fun res ha=>res= .o 0/\ha=[⟨45,5,vw ag.c (wS xs)⟩]:=by
 have cA:=fZ hA (xj (c:=ak) (k:=1) fun _=>rfl) jc
 clear hA
 unfold wS
 obtain⟨W,hW⟩:=nmE (xs.map fun k=>(⟨k,0,0,0,0⟩:ag))
 have hl:W.length<=1048576:=by rw [hW,zql];exact hxl
 rw [<-hW]
 obtain⟨K,hK⟩:=nmE (vw ak xs)
 have hk:=lmV hK
 rw [<-hK]at cA
 obtain⟨Z,hZ⟩:=nmE (vw ag.c W)
 rw [<-hZ]
 refine aV func71 fun g F hg hF=> ?_
 cbv
 (repeat'(refine ad hg cA ?_;cbv))
 refine aQ hg bq (by kernel_rfl) K (fun x=>lc (ak x)) xs hK hxl (fun z(s:List ag×LLA)=>[(2,.p 0),(5,.o 1),(10,.v K),(11,.i (g .ln K)),(12,.i (z))]) (fun z(s:List ag×LLA)=>[.bx 28 1 [.view V],.rw ⟨45,5,s.2⟩]) (fun z(s:List ag×LLA)=>s.2=vw ag.c s.1) (fun(s:List ag×LLA) rest=>s.1++rest.map (fun k=>(⟨k,0,0,0,0⟩:ag))) (W) ([],[]) (by rw [hW];rfl) rfl (Wk.weak (wkG [some _,none] zr5 ⟨wqE rfl rfl,⟨_,rfl,rfl⟩,zpt⟩ (by decide) aB)) (fun z s B hz h0 hi he=> ?_) (fun z s x rest B z0 z1 z2 hx hy h0 hi hc e1 hB=> ?_)
 ·obtain⟨hd,E⟩:=s
  dsimp only at hi h0
  have pE:=pmV hi
  obtain rfl:hd=W:=by simpa using h0
  rw [hZ,<-hi]at hF
  cbv;rw [he];cbv
  exact bN hF rfl pE
 ·obtain⟨hd,E⟩:=s
  dsimp only at hi h0
  have hb:=congrArg List.length h0
  rw [zqe]at hb
  have hh:E.length<=1048576:=by rw [hi,ar];omega
  have h3:(hd++[(⟨x,0,0,0,0⟩:ag)])++rest.map (fun k=>(⟨k,0,0,0,0⟩:ag))=W:=by rw [<-h0];simp
  have aE:E++[[.J x,.J 0,.J 0,.J 0,.J 0]]=vw ag.c (hd++[(⟨x,0,0,0,0⟩:ag)]):=by rw [hi,bk];rfl
  obtain⟨E2,hf⟩:∃E2,E2=E++[[.J x,.J 0,.J 0,.J 0,.J 0]]:=⟨_,rfl⟩
  rw [<-hf]at aE
  have hj:=pmV aE
  clear hb
  cbv;rw [hc];cbv;refine goX hg _ z0 hy rfl ?_;cbv
  (repeat'((first|rw [e1]|refine dg hg rfl (by decide) hh ?_;cbv;rw [fI hg,<-hf]);cbv))
  exact hB ((hd++[(⟨x,0,0,0,0⟩:ag)],E2)) _ _ ⟨h3,aE⟩ (Wk.weak (wkG [some _,some 3] zr5 ⟨wqE rfl rfl,wqE rfl hj,zpt⟩ (by decide) aB))
theorem zw(ns:List ae)(hl:ns.length<=1048576)(ht:dl ns=true)(f:Nat)(hf:f<=3)(n:Int)(hn:isN ns n=true)(hd:4<=qg ns n+(f:Int)):bS prog 71 [.agg [.view (vwA ae.ac ns)],ai n] fun res ha=>res= .o 0/\ha=[⟨45,5,vw ag.c (wS (zW ns f n))⟩]:=
 zt _ n _ (by have:=mH ht f n;have:=CF hf;omega) (mq ns hl ht f hf n hn hd)
end
end Go.Proofs.YtckchgoblpgpbaaGreat
