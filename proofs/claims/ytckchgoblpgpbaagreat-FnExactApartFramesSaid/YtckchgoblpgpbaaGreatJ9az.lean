/- The places of items along: the reference. -/
import Derived.Test.YtckchgoblpgpbaaGreatJ9ay
set_option linter.unusedVariables false
set_option linter.unusedSimpArgs false
set_option maxHeartbeats 80000000
namespace Go.Proofs.YtckchgoblpgpbaaGreat
open Go.ChangeShapes Go.WideShapes Go.ChangeAt Go.RowKit Am Go.Proofs.Tryz
set_option maxRecDepth 100000
theorem yy(sp:Int->Int)(gap:Int):∀(cs:List Int)(i a:Int),(plG sp gap i a cs).length=cs.length
 | [],_,_=>rfl
 |c::r,i,a=>by simp only [plG,zqx,yy sp gap r]
theorem GX(cs:List Int)(gap inner ct:Int):(pll cs gap inner ct).length<=cs.length:=by
 unfold pll
 split
 ·exact zpn _
 ·rw [yy];exact zpk _
variable {ns:List ae}{n:Int}
theorem FI{x:ae}(h:ns[(n-1).toNat]? =some x):nod ns n=x:=by
 unfold nod;rw [h];rfl
theorem Ar{x:ae}(h:ns[(n-1).toNat]? =some x):flK ns n=ir (iT ns) (x.kids.filter (mG ns)):=by
 unfold flK kg;rw [h]
theorem xA(ns:List ae)(hl:ns.length<=1048576)(n:Int)(x:ae)(h1:isN ns n=true)(hx:ns[(n-1).toNat]? =some x)(hkl:x.kids.length<20)(hk:∀k∈x.kids,isN ns k=true)(hrl:x.table.rules.length<=1048576)(rtl:Bool)(b:Bv)(hbx:∀kid∈flK ns n,xX (vwA ae.ac ns) rtl b kid):Gm (vwA ae.ac ns) rtl (Iy b ns rtl) n:=by
 intro w0 w1 ha hb
 have b2:=bj h1
 have cP:=vJ ns n x hl b2.1 (by have:=b2.2.1;omega) hx hkl hk rtl w0 w1 ha hb
 have xo:flK ns n=ir (iT ns) (x.kids.filter (mG ns)):=Ar hx
 have hr:∀k∈flK ns n,isN ns k=true:=fun k h=>hk k (by rw [xo]at h;exact(List.mem_filter.1 ((xd _ _ _).1 h)).1)
 have hs:(flK ns n).length<20:=by rw [xo,nO];exact Nat.lt_of_le_of_lt (List.length_filter_le _ _) hkl
 rw [<-xo]at cP
 obtain⟨p,hp⟩:=nmE (plO ns n ⟨w0,w1⟩ ⟨ha,hb⟩)
 have hh:PC0 169 [.agg (mV (vwA ae.ac ns) rtl),ai n,agP ⟨w0,w1⟩,agP ⟨ha,hb⟩] (.t (.agg (plL n p.s p.w p.h p.row p.wide p.high p.al p.ac (.view (vw aj p.kids))))):=by
  rw [hp]
  unfold plO
  rw [il hx]
  exact cP
 clear cP
 have xQ:kst ns n=x.style:=il hx
 have yi:nod ns n=x:=FI hx
 have yj:p.w=⟨w0,w1⟩/\p.h=⟨ha,hb⟩/\p.s=x.style/\p.wide=inW x.style ⟨w0,w1⟩/\p.kids=flK ns n:=by rw [hp];exact⟨rfl,rfl,il hx,by show inW (kst ns n) _=_;rw [xQ],rfl⟩
 obtain⟨e1,e2,e3,e4,e5⟩:=yj
 unfold Fo Iy
 rw [yi,xQ,<-hp,<-e1,<-e2,<-e3,<-e5]
 have yq:inW p.s p.w=p.wide:=by rw [e3,e1,e4]
 rw [yq]
 rw [<-e5]at hr hs hbx
 have cy:=bL ns n x b2.1 (by have:=b2.2.1;omega) hx (vwA ae.ac ns) _ _ rfl rfl rfl
 obtain⟨s0,row,w,h,iw,ih,al,ac,kids⟩:=p
 dsimp only at *
 subst e1 e2
 have cl:=xn n s0 ⟨w0,w1⟩ ⟨ha,hb⟩ row iw ih al ac (vw aj kids)
 have ci:=qm ns hl rtl b n ⟨s0,row,⟨w0,w1⟩,⟨ha,hb⟩,iw,ih,al,ac,kids⟩ (by dsimp only;omega) hr hbx
 have cs:=fun zs yr=>ql ns hl rtl b n ⟨s0,row,⟨w0,w1⟩,⟨ha,hb⟩,iw,ih,al,ac,kids⟩ zs (by dsimp only;omega) yr hr hbx
 obtain⟨V,hV⟩:=nmE (vwA ae.ac ns)
 rw [<-hV]at cy hh ci⊢
 simp only [<-hV]at cs
 obtain⟨Kx,xN⟩:=nmE (vw aj x.kids)
 obtain⟨Rx,xr⟩:=nmE (vw aD.c x.table.rules)
 rw [<-xN,<-xr]at cy
 obtain⟨im,iN⟩:=iw
 have cR:=ou im iN
 have cW:=sm x.table.rules (lj ⟨im,iN⟩) hrl
 rw [<-xr]at cW
 have yh:∀q:jQ,jQ.ac q=[.J q.wide,.J q.high,.J q.base,.view (vw av.c q.frames)]:=fun q=>rfl
 obtain⟨x0,x1,x2,x3,x4⟩:=x
 dsimp only at *
 by_cases hy:x3=true
 ·rw [if_pos hy]
  subst hy
  generalize hRO:lj ⟨im,iN⟩=RO at cR cW
  obtain⟨⟨q0,q1⟩,hq⟩:∃q,q=wnt x4.rules RO:=⟨_,rfl⟩
  rw [<-hq]at cW⊢
  have cl:=cl q0 q1
  generalize xq:Bs s0 ⟨w0,w1⟩ ⟨ha,hb⟩ (q0,q1)=LF at cl;replace xq:=xq.symm
  have he:az (vw av.c LF.frames)=true:=aC _ _
  generalize xk:vw av.c LF.frames=FR at cl he;replace xk:=xk.symm
  obtain⟨K,hK⟩:=nmE (vw aj kids)
  have xp:=lmV hK
  rw [<-hK]at hh cl
  clear ci cs hp hbx hr
  refine aU func125 fun g F hg hF=> ?_
  cbv
  (repeat'((first|refine ad hg hh ?_|refine ad hg cy ?_|refine aa hg cR ?_|refine aa hg cW ?_|refine AN hg cl (gQ rfl) he ?_);cbv))
  exact ww hF rfl he
 ·rw [if_neg hy]
  replace hy:x3=false:=by simpa using hy
  subst hy
  by_cases hkn:kids=[]
  ·rw [if_pos hkn]
   have cl:=cl 0 0
   generalize xq:Bs s0 ⟨w0,w1⟩ ⟨ha,hb⟩ (0,0)=LF at cl
   have he:az (vw av.c LF.frames)=true:=aC _ _
   generalize xk:vw av.c LF.frames=FR at cl he
   clear ci cs hp hbx hr
   subst hkn
   refine aU func125 fun g F hg hF=> ?_
   have t0:g .ln ([]:LLA)=0:=by rw [bu hg];rfl
   have t1:g .q .eql (0:Int) 0=true:=by rw [bg hg];rfl
   cbv
   (repeat'((first|rw [t0]|rw [t1]|refine ad hg hh ?_|refine ad hg cy ?_|refine wF hg cl rfl he ?_);cbv))
   exact ww hF rfl he
  ·rw [if_neg hkn]
   clear cW cR cl xr xN
   obtain⟨q,hq⟩:∃q:Pl,q=⟨s0,row,⟨w0,w1⟩,⟨ha,hb⟩,⟨im,iN⟩,ih,al,ac,kids⟩:=⟨_,rfl⟩
   rw [<-hq]at ci cs⊢
   have yk:q.kids=kids:=by rw [hq]
   unfold JE
   rw [yk]
   have ci:=yc ci (fun _=>rfl)
   have hf:=Eu b q rtl ns kids
   obtain⟨I,hI⟩:=nmE (Ev b q rtl ns kids)
   rw [<-hI]at ci hf⊢
   have xL:I.length<=1048576:=by rw [hf];exact Nat.le_of_lt (Nat.lt_trans hs (by decide))
   have cN:=n7 n s0 ⟨w0,w1⟩ ⟨ha,hb⟩ row ⟨im,iN⟩ ih al ac (vw aj kids) I xL
   have h4:=uW q I
   have cs:=cs (sU q I) (by rw [h4,hf])
   obtain⟨S0,xO⟩:=nmE (Fz b q rtl ns (kids.zip (sU q I)))
   have hH:S0.length=kids.length:=by rw [xO,D5,zqB,h4,hf];exact Nat.min_self _
   rw [<-xO]at cs⊢
   change PC0 _ _ (.tup [.c (.view (vwA lnA (lns I (jA s0 row) (lj al) (!decide (s0.wrap=1))))),ai (tak al (lng I (jA s0 row) (lj al) (!decide (s0.wrap=1)))),.c (.view (vw aj (lsz I (jA s0 row) (lj al) (!decide (s0.wrap=1)) (tak al (lng I (jA s0 row) (lj al) (!decide (s0.wrap=1)))))))])at cN
   have hN:nr q I=lns I (jA s0 row) (lj al) (!decide (s0.wrap=1)):=by rw [hq];rfl
   have xR:DI q I=tak al (lng I (jA s0 row) (lj al) (!decide (s0.wrap=1))):=by rw [hq];rfl
   have xS:sU q I=lsz I (jA s0 row) (lj al) (!decide (s0.wrap=1)) (tak al (lng I (jA s0 row) (lj al) (!decide (s0.wrap=1)))):=by rw [hq];rfl
   rw [<-xS,<-xR,<-hN]at cN
   have hw:(nr q I).flatten=ixs 0 kids.length:=by rw [hN,mu,hf]
   have hM:(nr q I).length<=64:=by rw [hN];exact zpb (nq ..) (by omega)
   have xy:∀l∈nr q I,l.length<=1048576/\∀i∈l,0<=i/\i<(S0.length:Int):=fun l hm=>by
    rw [hN]at hm
    exact⟨zpb (ka hm) xL,fun i hi=>by have:=vD hm hi;omega⟩
   have cC:=o6 n s0 ⟨w0,w1⟩ ⟨ha,hb⟩ row ⟨im,iN⟩ ih al ac (vw aj kids) (nr q I) S0 (by omega) hM xy
   have xT:yZ q (nr q I) S0=E8 s0 row ac (nr q I) S0:=by rw [hq];rfl
   rw [<-xT]at cC
   have hn:(yZ q (nr q I) S0).length=(nr q I).length:=wC q _ _ hM
   unfold JF
   dsimp only
   obtain⟨LL,yf⟩:=nmE (nr q I)
   obtain⟨ZZ,yg⟩:=nmE (sU q I)
   obtain⟨IN,xM⟩:=nmE (DI q I)
   rw [<-yf]at hw hM xy cC hn cN⊢
   rw [<-yg]at h4 cs cN⊢
   rw [<-xM]at cN⊢
   obtain⟨CC,ya⟩:=nmE (yZ q LL S0)
   rw [<-ya]at hn cC⊢
   clear hN xR xS xT
   have cG:=ja s0 (!row)
   have xU:uE q=jA s0 (!row):=by rw [hq];rfl
   have cT:=gu CC (uE q) (by rw [hn];omega)
   obtain⟨am,an⟩:=ac
   have cK:=fP am an (crt CC (uE q))
   have xV:AW q CC=tak ⟨am,an⟩ (crt CC (uE q)):=by rw [hq];rfl
   rw [<-xV]at cK
   have cL:=o9 CC (uE q) (AW q CC) (ctP q) (by omega)
   have xz:ctP q=if s0.wrap=1 then 2 else s0.content:=by rw [hq];rfl
   rw [<-xU]at cG
   have xB:HH q CC=pll CC (uE q) (AW q CC) (ctP q):=rfl
   rw [<-xB]at cL
   obtain⟨GC,xK⟩:=nmE (uE q)
   obtain⟨hd,xH⟩:=nmE (AW q CC)
   obtain⟨ST,xu⟩:=nmE (HH q CC)
   rw [<-xK]at cG cT cK cL
   rw [<-xH]at cK cL⊢
   rw [<-xu]at cL⊢
   have xv:ST.length<=1048576:=by rw [xu,xB];exact zpb (GX ..) (by omega)
   clear xU xV xB
   obtain⟨TT,xP⟩:=nmE (crt CC GC)
   rw [<-xP]at cT cK
   have cB:=eU am an
   obtain⟨KB,xm⟩:=nmE (knS ⟨am,an⟩)
   rw [<-xm]at cB
   obtain⟨K,hK⟩:=nmE (vw aj kids)
   have xp:=lmV hK
   rw [<-hK]at hh ci cN cs cC
   generalize xC:vw af.c I=vI at ci cN;replace xC:=xC.symm
   obtain⟨vZ,h3⟩:=nmE (vw aj ZZ)
   have yp:=lmV h3
   rw [<-h3]at cN cs
   obtain⟨vS,hv⟩:=nmE (vw aw.c S0)
   have yn:=lmV hv
   have ys:=imV hv
   have x8:=kmV (k:=7) hv fun _=>rfl
   have xG:=dmV hv
   rw [<-hv]at cs cC
   obtain⟨vC,hu⟩:=nmE (vw aj CC)
   have yl:=lmV hu
   have x6:=imV hu
   have hQ:=kmV (k:=1) hu fun _=>rfl
   have hB:=dmV hu
   rw [<-hu]at cC cT cL
   generalize h2:vwA lnA LL=vL at cN cC;replace h2:=h2.symm
   obtain⟨vT,hA⟩:=nmE (vw aj ST)
   have yo:=lmV hA
   have x7:=imV hA
   have yt:=kmV (k:=1) hA fun _=>rfl
   have x9:=dmV hA
   rw [<-hA]at cL
   have ho:kids.length<=1048576:=Nat.le_of_lt (Nat.lt_trans hs (by decide))
   have xx:ZZ.length=kids.length:=by rw [h4,hf]
   have hC:LL.length<=1048576:=zpb hM (by decide)
   have hD:=fun(g:Gd)(hg:g= @G0 bp0 prog 0 f125.ntmps)(Q':Exit->List (Nat×AV)->EH->Prop) hQ'=>CX hg (Q:=Q') ns hl V hV rtl n s0 row ⟨im,iN⟩ ih al ⟨am,an⟩ w0 w1 ha hb kids K hK ho hr IN hd KB xm vI vL vZ vC vT ZZ CC h3 hu S0 xx hH LL h2 hC hn hw hQ'
   rw [<-hq,<-hv]at hD
   obtain⟨S1,xt⟩:=nmE (Df q ns S0 ZZ (LL.zip CC))
   have hJ:S1.length=kids.length:=by rw [xt,Aw,fG hn,hw,bW]
   rw [<-xt]at hD⊢
   have h7:=eX s0
   obtain⟨fe,h0⟩:=nmE (l7 s0)
   rw [<-h0]at h7
   have hO:q.s=s0:=by rw [hq]
   have xZ:q.w=⟨w0,w1⟩:=by rw [hq]
   have xW:q.h=⟨ha,hb⟩:=by rw [hq]
   have xY:q.row=row:=by rw [hq]
   obtain⟨fl,ft,fr,fb⟩:=fe
   have hT:=ec fl ft fr fb
   have hS:=ei fl ft fr fb
   obtain⟨hR,hc⟩:=nmE (vw aw.c S1)
   have x5:=lmV hc
   have xE:=kmV (k:=7) hc fun _=>rfl
   have xa:=dmV hc
   have hG:=fun(g:Gd)(hg:g= @G0 bp0 prog 0 f125.ntmps)(Q':Exit->List (Nat×AV)->EH->Prop) E hE hQ'=>CW hg (Q:=Q') V rtl n s0 row ⟨im,iN⟩ ih al ⟨am,an⟩ w0 w1 ha hb K IN hd vI vL vZ hR vC vT fl ft fr fb kids hK ho I xC hf ZZ CC ST S1 h3 hu hA hc xv xx hJ h0.symm LL h2 hC hn hw E hE hQ'
   rw [<-hq]at hG
   obtain⟨FF,xj⟩:=nmE (yd q rtl I IN hd ZZ S1 ST 0 (LL.zip CC))
   have xJ:FF.length=kids.length:=by rw [xj,wt,fG hn,hw,bW]
   rw [<-xj]at hG⊢
   have yw:0<kids.length:=List.length_pos_iff.2 hkn
   obtain⟨f0,FT,xf⟩:∃f t,FF=f::t:=by
    cases FF with
    |nil=>simp at xJ;omega
    |cons a b=>exact⟨_,_,rfl⟩
   obtain⟨h5,ht⟩:∃y,S1[(0:Int).toNat]? =some y:=⟨_,zqc (by show 0<S1.length;omega)⟩
   have hP:sdZ S1 0=h5:=xi (zpc 0) ht
   obtain⟨vF,hz⟩:=nmE (vw av.c FF)
   have ym:=lmV hz
   have pF:=pmV hz
   have xh:vF[(0:Int).toNat]? =some (lc (av.c f0)):=by rw [hz,xf];rfl
   have xg:(0:Int)<aJ vF:=by rw [hz,aR];omega
   have xs:hR[(0:Int).toNat]? =some (lc (aw.c h5)):=by rw [hc];exact aY ht
   obtain⟨A1,xb⟩:=nmE (adE fl fr)
   obtain⟨A2,xc⟩:=nmE (adE ft fb)
   change PC0 _ _ (.i (adE fl fr))at hT
   change PC0 _ _ (.i (adE ft fb))at hS
   rw [<-xb]at hT
   rw [<-xc]at hS
   obtain⟨XW,hZ⟩:=nmE ((if row then IN else hd))
   obtain⟨XH,hY⟩:=nmE ((if row then hd else IN))
   obtain⟨W1,xw⟩:=nmE (wrap64 (XW+A1))
   obtain⟨H1,xl⟩:=nmE (wrap64 (XH+A2))
   obtain⟨BB,xe⟩:=nmE (wrap64 (f0.y+h5.base))
   have h8:=fP w0 w1 W1
   have h9:=fP ha hb H1
   have h6:=aN BB
   generalize hU:tak ⟨w0,w1⟩ W1=R1 at h8;replace hU:=hU.symm
   generalize hW:tak ⟨ha,hb⟩ H1=R2 at h9;replace hW:=hW.symm
   generalize hX:cl BB=R3 at h6;replace hX:=hX.symm
   have hL:(Gl q IN hd FF S1).wide=R1/\(Gl q IN hd FF S1).high=R2/\(Gl q IN hd FF S1).base=R3/\(Gl q IN hd FF S1).frames=FF:=by
    rw [hU,hW,hX,xw,xl,xe,hZ,hY,xb,xc]
    unfold Gl
    rw [hO,xZ,xW,xY,<-h0,hP,xf]
    exact⟨rfl,rfl,rfl,rfl⟩
   rw [hL.1,hL.2.1,hL.2.2.1,hL.2.2.2,<-hz]
   have t1:∀g:Gd,g=G0 prog 0 f125.ntmps->g .w .add .i64 XW A1=W1:=fun g hg=>by rw [aG hg,xw]
   have t2:∀g:Gd,g=G0 prog 0 f125.ntmps->g .w .add .i64 XH A2=H1:=fun g hg=>by rw [aG hg,xl]
   have t3:∀g:Gd,g=G0 prog 0 f125.ntmps->g .w .add .i64 f0.y h5.base=BB:=fun g hg=>by rw [aG hg,xe]
   have xF:∀g:Gd,g=G0 prog 0 f125.ntmps->g .rp (g .ln K) [.J 0,.J 0,.J 0,.J 0,.J 0]=vw av.c (List.replicate kids.length ⟨0,0,0,0,0⟩):=fun g hg=>by
    rw [yP hg,bu hg,hK,aR,Int.toNat_natCast];exact qT av.c kids.length ⟨0,0,0,0,0⟩
   have xp:K.length<=1048576:=by rw [hK,ar];exact ho
   have pS:=pmV hv
   have t0:∀g:Gd,g=G0 prog 0 f125.ntmps->g .q .eql s0.wrap 1=decide (s0.wrap=1):=fun g hg=>by rw [bg hg];exact zqn _ _
   have xD:∀g:Gd,g=G0 prog 0 f125.ntmps->g .q .eql (g .ln K) 0=false:=fun g hg=>by
    rw [bg hg,bu hg,hK,aR]
    have:kids.length≠0:=fun h=>hkn (zqv h)
    exact zqr.2 (by omega)
   clear hL hU hW hX xw xl xe xb xc h0 hO xZ xW xY hP xf xJ xj xt ht hJ hH hf xx hM xy hw hn xP xm xK xH xu xM hq hp hbx hr
   refine aU func125 fun g F hg hF=> ?_
   have t0:=t0 g hg
   have xD:=xD g hg
   have t1:=t1 g hg
   have t2:=t2 g hg
   have t3:=t3 g hg
   have xF:=xF g hg
   have hD:=hD g hg
   have hG:=hG g hg
   cbv
   (repeat'((first|rw [xD]|refine ad hg hh ?_|refine ad hg cy ?_|refine ad hg ci ?_|refine ad hg cN ?_|refine bI hg cs (bv rfl) ys ?_|refine bI hg cC (bq rfl (ah (aq rfl) (ah (aX (ab:=⟨_,_,vS⟩) rfl x8 xG) (ay)))) x6 ?_|refine fj hg cT (ah (aX (ab:=⟨_,_,vC⟩) rfl hQ hB) (ah (aq rfl) (ay))) rfl ?_|refine ad hg cG ?_|refine aa hg cK ?_);cbv))
   by_cases hw1:s0.wrap=1
   all_goals
    first|rw [if_pos hw1]at xz|rw [if_neg hw1]at xz
    rw [xz]at cL
    first|rw [zqu hw1]at t0|rw [zqt hw1]at t0
    (repeat'((first|rw [t0]|refine bI hg cL (ah (aX (ab:=⟨_,_,vC⟩) rfl hQ hB) (ah (aq rfl) (ah (aq rfl) (ah (aq rfl) (ay))))) x7 ?_|refine ad hg cB ?_);cbv))
    refine lO hg (mE (jx f125) 0) (by kernel_rfl) [(4,.p 0),(6,.p 1),(7,.p 2),(8,.p 3),(9,.p 4),(11,.v vI),(12,.v vL),(13,.i (IN)),(14,.v vZ),(15,.o 5),(16,.v vC),(18,.i (hd)),(20,.v vT),(21,.i (KB)),(116,.v vL),(117,.i (g .ln vL)),(118,.i (0))] [.bx 76 3 (mV V rtl),.bx 122 2 [.J w0,.J w1],.bx 122 2 [.J ha,.J hb],.bx 127 4 [.J 0,.J 0,.J 0,.N],.bx 196 75 (plL n s0 ⟨w0,w1⟩ ⟨ha,hb⟩ row ⟨im,iN⟩ ih al ⟨am,an⟩ (.view K)),.rw ⟨210,7,vS⟩] (bG (sl2 7 8 vC vT) (GL rfl hQ hB rfl yt x9) (Wk.weak (wkG [some _,some _,some _,some _,some _,some 6] ⟨rfl,rfl,rfl,rfl,rfl,rfl,rfl,rfl,rfl,rfl,rfl,rfl,rfl,rfl,rfl,rfl,rfl,zpt⟩ ⟨wqE rfl rfl,wqE rfl rfl,wqE rfl rfl,wqE rfl rfl,wqE rfl rfl,⟨_,_,rfl,rfl,rfl,rfl,.inl (bD pS)⟩,zpt⟩ (by decide) aB))) ?_
    refine hD _ fun z1 E1 yb=> ?_
    obtain rfl:hR=E1:=by rw [yb,hc]
    cbv
    ((repeat'(refine ad hg h7 ?_;cbv)))
    refine F6 hg (by decide) xp ?_
    cbv
    generalize hE0:g .rp (g .ln K) _=E3
    have xI:E3=vw av.c (List.replicate kids.length ⟨0,0,0,0,0⟩):=by rw [<-hE0];exact xF
    clear hE0
    have yu:=pmV xI
    refine lO hg (mE (jx f125) 2) (by kernel_rfl) [(4,.p 0),(6,.p 1),(7,.p 2),(8,.p 3),(9,.p 4),(11,.v vI),(12,.v vL),(13,.i (IN)),(14,.v vZ),(15,.v hR),(16,.v vC),(18,.i (hd)),(20,.v vT),(28,.p 5),(29,.o 6),(210,.v vL),(211,.i (g .ln vL)),(212,.i (0))] [.bx 76 3 (mV V rtl),.bx 122 2 [.J w0,.J w1],.bx 122 2 [.J ha,.J hb],.bx 127 4 [.J 0,.J 0,.J 0,.N],.bx 196 75 (plL n s0 ⟨w0,w1⟩ ⟨ha,hb⟩ row ⟨im,iN⟩ ih al ⟨am,an⟩ (.view K)),.bx 34 4 [.J fl,.J ft,.J fr,.J fb],.rw ⟨45,5,E3⟩] (bG (sl1 5 hR) (jE rfl xE xa) (Wk.weak (wkG [some _,some _,some _,some _,some _,some 6,some 7] ⟨rfl,rfl,rfl,rfl,rfl,rfl,rfl,rfl,rfl,rfl,rfl,rfl,rfl,rfl,rfl,rfl,rfl,rfl,zpt⟩ ⟨wqE rfl rfl,wqE rfl rfl,wqE rfl rfl,wqE rfl rfl,wqE rfl rfl,wqE rfl rfl,⟨_,_,rfl,rfl,rfl,rfl,.inl (bD yu)⟩,zpt⟩ (by decide) aB))) ?_
    refine hG _ E3 xI fun z2 E2 ye=> ?_
    obtain rfl:vF=E2:=by rw [ye,hz]
    cbv
    cases row
    all_goals
     (try simp only [Bool.false_eq_true,if_false]at hZ hY)
     (try simp only [if_true]at hZ hY)
     subst hZ hY
     (try cbv)
     ((repeat'((first|rw [t1]|rw [t2]|rw [t3]|refine aa hg hT ?_|refine aa hg hS ?_|refine aa hg h8 ?_|refine aa hg h9 ?_|refine aa hg h6 ?_|refine goX hg _ (zpc 0) xs rfl ?_|refine goY hg (zpc 0) xg fun j hj yv=> ?_;subst hj|refine⟨_,xh,?_⟩);cbv)))
     exact ww hF rfl pF
theorem Az{ns:List ae}:∀(f:Nat)(k n:Int),0<=k->0<uL ns f (k+1) n->uL ns (f+1) k n=uL ns f (k+1) n-1
 |0,k,n,h0,h=>by
  by_cases hn:n=0
  ·subst hn;rw [mC,mC];omega
  ·rw [yX ns hn]at h;omega
 |f+1,k,n,h0,h=>by
  by_cases hn:n=0
  ·subst hn;rw [mC,mC];omega
  ·by_cases hi:isN ns n=true
   ·rw [kz ns hn hi]at h
    rw [kz ns hn hi,kz ns hn hi]
    exact Az f (k+1) (upN ns n) (by omega) h
   ·rw [wA ns (f+1) (k+1) n hn (by simpa using hi)]at h;omega
theorem nA(h:dy ns=true)(hn:isN ns n=true):1<=wB ns n/\wB ns n<=4:=by
 obtain⟨n1,n2,x,hx⟩:=bj hn
 simp only [dy,zqs]at h
 have:=(kq ns ns 0).1 h.2 _ x hx
 simp only [fN,zqs,rng,zqp]at this
 have h2:=this.2.1
 rw [show(0:Int)+(((n-1).toNat:Nat):Int)+1=n by omega]at h2
 exact h2
theorem Gw(h:dy ns=true){x:ae}(h1:1<=n)(hx:ns[(n-1).toNat]? =some x):∀k∈x.kids,upN ns k=n:=fun k ha=>by
 simp only [dy,zqs]at h
 have:=(kq ns ns 0).1 h.2 _ x hx
 simp only [fN,zqs,zqf,jK,zqp]at this
 have:=(this.2.2.2.1 k ha).2
 omega
theorem C0(h:dy ns=true){x:ae}(h1:1<=n)(hx:ns[(n-1).toNat]? =some x):∀k∈x.kids,wB ns k=wB ns n+1:=fun k ha=>by
 have hk:=gR h h1 hx k ha
 obtain⟨k1,k2,y,hy⟩:=bj hk
 have hu:=Gw h h1 hx k ha
 have hd:=nA h hk
 obtain⟨L,hL⟩:∃L,ns.length=L+1:=⟨ns.length-1,by omega⟩
 unfold wB at hd⊢
 rw [hL]at hd⊢
 rw [kz ns (by omega) hk,hu]at hd⊢
 have:=Az (ns:=ns) L 0 n (zpc 0) (by omega)
 rw [this];omega
theorem wv{x:ae}(hx:ns[(n-1).toNat]? =some x):∀k∈flK ns n,k∈x.kids:=fun k hk=>by
 rw [Ar hx,xd]at hk
 exact(List.mem_filter.1 hk).1
theorem oe{ns:List ae}(hl:ns.length<=1048576)(hs:∀y∈ns,ae.small y)(ht:dy ns=true)(rtl:Bool):∀(f:Nat)(n:Int),isN ns n=true->5<=wB ns n+(f:Int)->HG (vwA ae.ac ns) rtl (wG ns rtl f) n
 |0,n,hn,hd=>by have:=nA ht hn;omega
 |f+1,n,hn,hd=>by
  obtain⟨n1,n2,x,hx⟩:=bj hn
  have hc:=uU ht n1 hx
  have hb:=gR ht n1 hx
  refine yL _ rtl _ n (xA ns hl n x hn hx (by omega) hb ?_ rtl (wG ns rtl f) fun ha hk=> ?_)
  ·have:=hs x (zqd hx)
   exact this.2.1
  ·have hm:=wv hx ha hk
   have:=C0 ht n1 hx ha hm
   exact r5 _ rtl _ ha (oe hl hs ht rtl f ha (hb ha hm) (by omega))
theorem vK(hl:ns.length<=1048576)(hs:∀y∈ns,ae.small y)(ht:dy ns=true)(rtl:Bool)(f:Nat)(n:Int)(hn:isN ns n=true)(hd:5<=wB ns n+(f:Int)):xX (vwA ae.ac ns) rtl (wG ns rtl f) n:=
 r5 _ rtl _ n (oe hl hs ht rtl f n hn hd)
theorem m9.swap{lo:Nat}{as_ bs:List Nat}(h:m9 lo (as_++bs)):m9 lo (bs++as_):=by
 obtain⟨h1,h2,h3⟩:=List.nodup_append.1 h.1
 exact⟨List.nodup_append.2 ⟨h2,h1,fun a ha b hb he=>h3 b hb a ha he.symm⟩,fun b hb=>h.2 b (by rcases List.mem_append.1 hb with h|h;exact zpo _ h;exact zpx _ h)⟩
def ae.acT(x:ae)(b1 b63:List Nat):List AC:=
 match x with
 |⟨a0,a1,a2,a62,⟨a63⟩⟩=>(List.append [.imm (.int .i64 a0),.fv b1 (vw aj a1)] (List.append (lc (ag.c a2)) [.imm (.bool a62),.fv b63 (vw aD.c a63)]))
theorem tC(x:jP)(hs:x.small):BI prog 119 [.agg x.ac] fun lo res hc=>(∃b,res= .t (.agg [.fv b (vw aD.c x.rules)])/\m9 lo b)/\dt res=true/\hc=[]:=by
 obtain⟨a0⟩:=x
 obtain⟨hj,-⟩:=hs
 show BI _ _ [.agg [.view (vw aD.c a0)]] (fun lo res hc=>(∃b,res= .t (.agg [.fv b (vw aD.c a0)])/\m9 lo b)/\dt res=true/\hc=[])
 have c0:=DS (mX a0 hj)
 obtain⟨he,ha⟩:=nmE (vw aD.c a0)
 have hf:=lmV ha
 have hb:=imV ha
 rw [<-ha]at c0
 rw [<-ha]
 refine qG ([]) ([]) (c:=jx f119) bn func119 (by kernel_rfl) (by kernel_rfl) (by rfl) (by kernel_rfl) fun β g hk hd F hi hl hg hF=> ?_
 cbv
 repeat'(refine bI hg c0 (bv rfl) hb ?_;cbv)
 refine Hg hF fun bl hh=>⟨[.agg [.fv (hd1 (bl 3) he) he]],.agg (.cons (rA (r:=3) (ab:=⟨_,_,he⟩) rfl hb) .nil) .nil,⟨_,rfl,sF hh (r:=3) (ab:=⟨_,_,he⟩) rfl⟩,rfl,rfl⟩
theorem vQ(x:ae)(hs:x.small):BI prog 80 [.agg x.ac] fun lo res ha=>(∃b1 b63,res= .t (.agg (x.acT b1 b63))/\m9 lo (b1++b63))/\dt res=true/\ha=[]:=by
 obtain⟨a0,a1,a2,hk,⟨he⟩⟩:=x
 obtain⟨hq,hl,-⟩:=hs
 show BI _ _ [.agg (List.append [.J a0,.view (vw aj a1)] (List.append (lc (ag.c a2)) [.B hk,.view (vw aD.c he)]))] (fun lo res ha=>(∃b1 b63,res= .t (.agg (List.append [.J a0,.fv b1 (vw aj a1)] (List.append (lc (ag.c a2)) [.B hk,.fv b63 (vw aD.c he)])))/\m9 lo (b1++b63))/\dt res=true/\ha=[])
 have c1:=DS (oh a1 hq)
 have hj:=tC ⟨he⟩ ⟨hl,zpt⟩
 replace hj:BI prog 119 [.agg [.view (vw aD.c he)]] (fun lo res ha=>(∃b,res= .t (.agg [.fv b (vw aD.c he)])/\m9 lo b)/\dt res=true/\ha=[]):=hj
 obtain⟨hi,hb⟩:=nmE (vw aj a1)
 have hm:=lmV hb
 have hh:=imV hb
 obtain⟨hf,hc⟩:=nmE (vw aD.c he)
 rw [<-hb]at c1
 rw [<-hc]at hj
 rw [<-hb,<-hc]
 refine qG ([]) ([]) (c:=jx f80) bn func80 (by kernel_rfl) (by kernel_rfl) (by rfl) (by kernel_rfl) fun β g hr hd F hp ht hg hF=> ?_
 cbv
 repeat'((first|refine bI hg c1 (bv rfl) hh ?_|refine fU hg (jp (a2:ag)) rfl rfl ?_);cbv)
 refine AJ hg hj (gQ rfl) (fun lo res h1 h2 h3⟨b63,hres,hn⟩=> ?_)
 subst hres
 clear h2 h3
 cbv
 refine Hg hF fun bl ho=>⟨[.agg (List.append [.J a0,.fv (hd1 (bl 3) hi) hi] (List.append (lc (ag.c a2)) [.B hk,.fv b63 hf]))],.agg (by repeat'(first|exact .nil|refine .cons ?_ ?_|exact .imm _|exact .fv _ _|exact rA (r:=3) (ab:=⟨_,_,hi⟩) rfl hh)) .nil,⟨_,_,rfl,(Fc ho (r:=3) (ab:=⟨_,_,hi⟩) rfl (zpa.2 rfl) (ps:=b63) (ys:=hf) (by simp [AT.cells]) (hn.mono h1)).swap⟩,rfl,rfl⟩
theorem tE(xs:List ae)(hl:xs.length<=1048576)(hs:∀y∈xs,y.small):BI prog 51 [.c (.view (vwA ae.ac xs))] fun lo res he=>(∃bs,res= .t (.c (.fv bs (vwA ae.ac xs)))/\m9 lo bs)/\dt res=true/\he=[]:=by
 obtain⟨V,hV⟩:=nmE (vwA ae.ac xs)
 have hw:V.length=xs.length:=by rw [hV,bm]
 have hy:aJ V=(xs.length:Int):=by rw [ak];omega
 have hG:aJ V<=1048576:=by omega
 rw [<-hV]
 refine qG ([]) ([]) (c:=jx f51) bn func51 (by kernel_rfl) (by kernel_rfl) (by rfl) (by kernel_rfl) fun β g hE hd F hr hA hg hF=> ?_
 cbv
 refine F6 hg (by decide) (by rw [hw];exact hl) ?_
 cbv
 have hu:qE 64 V (List.replicate (g .ln V).toNat wR) 0 β.lo:=qE.start rfl rfl (bu hg V)
 refine fO [] [] hr hA hg bn (by kernel_rfl) (fun s:Int×LLA=>[(0,.v V),(3,.o 0),(4,.i s.1)]) (fun s=>[.rw ⟨69,64,s.2⟩]) (fun s=>qE 64 V s.2 s.1 β.lo) (fun s=>(aJ V).toNat-s.1.toNat)
  (0,g .rp (g .ln V) wR) ?_ (Wk.weak (wkS [0] (by decide) ⟨⟨_,rfl,rfl,?_⟩,zpt⟩ zr3)) (fun s B ha hB=> ?_)
 ·simp only [yP hg];exact hu
 ·simp only [yP hg];exact bN hu.bare
 ·obtain⟨z,es⟩:=s
  simp only at ha
  have h0:=ha.z0
  have h1:=ha.z1
  have hh:=ha.len
  cbv
  cases hc:g .q .lss z (g .ln V)
  ·cbv
   rw [ba hg,bu hg,zqo]at hc
   have hq:=ha.all hc
   refine Hg hF fun bl hz=>⟨[.c (.fv (hd1 (bl 0) es++fpE es) V)],.c (by have:=py (bl:=bl) (h:=toH [.rw ⟨69,64,es⟩]) (r:=0) (ab:=⟨69,64,es⟩) rfl ha.bare;rw [hq]at this;exact this) .nil,⟨_,rfl,Hu hz (r:=0) (ab:=⟨_,_,es⟩) rfl ha.new⟩,rfl,rfl⟩
  ·cbv
   rw [ba hg,bu hg,zqp]at hc
   obtain⟨x,hx⟩:=pg (xs:=xs) h0 (fZ hy hc)
   have hD:=hs x (zqd hx)
   have hi:V[z.toNat]? =some x.ac:=by rw [hV];exact ik hx
   have cx:=vQ x hD
   obtain⟨a0,a1,a2,hk,⟨hm⟩⟩:=x
   replace hi:V[z.toNat]? =some (List.append [.J a0,.view (vw aj a1)] (List.append (lc (ag.c a2)) [.B hk,.view (vw aD.c hm)])):=hi
   replace cx:BI _ _ [.agg (List.append [.J a0,.view (vw aj a1)] (List.append (lc (ag.c a2)) [.B hk,.view (vw aD.c hm)]))] (fun lo res he=>(∃b1 b63,res= .t (.agg (List.append [.J a0,.fv b1 (vw aj a1)] (List.append (lc (ag.c a2)) [.B hk,.fv b63 (vw aD.c hm)])))/\m9 lo (b1++b63))/\dt res=true/\he=[]):=cx
   obtain⟨hv,hp⟩:=nmE (vw aj a1)
   obtain⟨ho,hf⟩:=nmE (vw aD.c hm)
   rw [<-hp,<-hf]at hi cx
   refine goX hg _ h0 hi rfl ?_
   cbv
   refine AJ hg cx (gQ rfl) (fun lo res q1 q2 q3⟨b1,b63,hres,hn⟩=> ?_)
   subst hres
   have hC:∀b∈fpE es,b<lo:=fun b hb=>q2 b (zpx _ hb)
   clear q2 q3
   cbv
   obtain⟨j,hj⟩:=nmE z.toNat
   refine yO hg h0 hj (rU h0 (Af hh hc) hj) ?_
   cbv
   refine goN hg (ha.mem (rU h0 (Af hh hc) hj)) ?_
   cbv
   have h2:g .w .add .i64 z 1=z+1:=by rw [aG hg,ao _ (by omega)]
   rw [h2,jv hg]
   have ht:=ha.step (y:=(List.append [.J a0,.fv b1 hv] (List.append (lc (ag.c a2)) [.B hk,.fv b63 ho]))) hc hj hi rfl rfl rfl q1 (by simpa [fpL,fpC,show List.flatMap fpC (lc (ag.c a2))=[]from rfl]using hn) hC
   rw [hB]
   exact⟨(z+1,_),ht,by show(aJ V).toNat-(z+1).toNat<(aJ V).toNat-z.toNat;omega,Wk.weak (wkS [0] (by decide) ⟨⟨_,rfl,rfl,bN ht.bare⟩,zpt⟩ zr3)⟩
theorem vM(x:iR)(hs:x.small):BI prog 17 [.agg x.ac] fun lo res ha=>(∃b,res= .t (.agg [.fv b (vwA ae.ac x.nodes)])/\m9 lo b)/\dt res=true/\ha=[]:=by
 obtain⟨a0⟩:=x
 obtain⟨he,hf,-⟩:=hs
 show BI _ _ [.agg [.view (vwA ae.ac a0)]] (fun lo res ha=>(∃b,res= .t (.agg [.fv b (vwA ae.ac a0)])/\m9 lo b)/\dt res=true/\ha=[])
 have c0:=tE a0 he hf
 obtain⟨hh,hb⟩:=nmE (vwA ae.ac a0)
 rw [<-hb]at c0
 rw [<-hb]
 refine qG ([]) ([]) (c:=jx f17) bn func17 (by kernel_rfl) (by kernel_rfl) (by rfl) (by kernel_rfl) fun β g hi hd F hc hj hg hF=> ?_
 cbv
 refine AJ hg c0 (gQ rfl) (fun lo res h1 h2 h3⟨b,hres,hn⟩=> ?_)
 subst hres
 clear h2 h3
 cbv
 exact J0 hF rfl ⟨⟨b,rfl,hn.mono h1⟩,rfl,rfl⟩
def atF(s:ag)(a b:Int)(rtl:Bool)(base mb all size e0 e1 f0 f1:Int)(turned:Bool):Int:=
 if x9 s a rtl base then wrap64 (wrap64 (e0+xZ s a rtl base)+jo s.margin a rtl mb)
 else if x9 s b rtl base then wrap64 (wrap64 (wrap64 (wrap64 (all-e1)-xZ s b rtl base)-jo s.margin b rtl mb)-size)
 else if turned then wrap64 (wrap64 (wrap64 (all-f1)-jo s.margin b rtl mb)-size)
 else wrap64 (f0+jo s.margin a rtl mb)
def apF (p s : ag) (rtl : Bool) (wide high kid : Int) (b : jQ) : av :=
  ⟨kid, atF s 0 2 rtl (vx p wide) (vx p wide) wide (me s true (vx p wide) b.wide) p.border.left p.border.right (l7 p).left (l7 p).right rtl,
   atF s 1 3 rtl (xq p high) (vx p wide) high (me s false (xq p high) b.high) p.border.top p.border.bottom (l7 p).top (l7 p).bottom false,
   me s true (vx p wide) b.wide, me s false (xq p high) b.high⟩
def apG(b:Bv)(ns:List ae)(rtl:Bool)(n kid w h:Int):av:=apF (kst ns n) (kst ns kid) rtl w h kid (b kid (apX (kst ns kid) rtl (vx (kst ns n) w) (xq (kst ns n) h)) (apY (kst ns kid) rtl (vx (kst ns n) w) (xq (kst ns n) h)))
theorem Es{x:ae}(hx:ns[(n-1).toNat]? =some x):kg ns n=x.kids:=by simp only [kg,hx]
theorem CZ(ht:dy ns=true)(n:Int):(kg ns n).length<=12:=by
 cases hx:ns[(n-1).toNat]? with
 |none=>simp only [kg,hx];exact zpn _
 |some x=>
  rw [Es hx]
  exact uU (n:=((n-1).toNat:Int)+1) ht (by omega) (by rw [show(((n-1).toNat:Int)+1-1).toNat=(n-1).toNat by omega];exact hx)
section
variable {P:Program}{n0 N:Nat}{g:Gd}
end
def uOk(ns:List ae)(n w h:Int):Bool:=dy ns&&(isN ns n&&(rng w 0 1048576&&rng h 0 1048576))
def afO(ns:List ae)(n kid w h:Int)(rtl:Bool):av:=if DN ns n kid w h=false then⟨0,0,0,0,0⟩else apG (wG ns rtl 4) ns rtl n kid w h
def alO(ns:List ae)(n w h:Int)(rtl:Bool):List av:=if uOk ns n w h=false then []else(apK ns n).map fun kid=>apG (wG ns rtl 4) ns rtl n kid w h
theorem HB(ns:List ae)(n w h:Int)(rtl:Bool):(alO ns n w h rtl).length<=1048576:=by
 unfold alO
 split
 ·exact zpn _
 ·rename_i hO
  simp only [Bool.not_eq_false,uOk,zqs]at hO
  have:=CZ hO.1 n
  rw [zql]
  unfold apK
  have:=List.length_filter_le (lk ns) (kg ns n)
  omega
theorem og(ns:List ae)(hl:ns.length<=1048576)(n kid:Int)(x y:ae)(h1:isN ns n=true)(h2:isN ns kid=true)(hx:ns[(n-1).toNat]? =some x)(hy:ns[(kid-1).toNat]? =some y)(rtl:Bool)(b:Bv)(hbx:xX (vwA ae.ac ns) rtl b kid)(wide high:Int):PC0 55 [.agg (mV (vwA ae.ac ns) rtl),ai n,ai kid,ai wide,ai high] (.t (.agg (lc (av.c (apG b ns rtl n kid wide high))))):=by
 have ca:=r6 ns n kid x y hl h1 h2 hx hy rtl wide high
 unfold apG
 rw [il hx,il hy]
 obtain⟨p,hp⟩:=nmE x.style
 obtain⟨s,hs⟩:=nmE y.style
 rw [<-hp,<-hs]at ca⊢
 unfold apF atF
 obtain⟨V,hV⟩:=nmE (vwA ae.ac ns)
 rw [<-hV]at hbx ca⊢
 generalize hW:vx p wide=W at ca
 generalize hH:xq p high=H at ca
 have cs:=ue p s rtl W H
 obtain⟨⟨X0,X1⟩,hX⟩:∃X,X=apX s rtl W H:=⟨_,rfl⟩
 obtain⟨⟨Y0,Y1⟩,hY⟩:∃X,X=apY s rtl W H:=⟨_,rfl⟩
 rw [<-hX,<-hY]at cs⊢
 have cB:=hbx X0 X1 Y0 Y1
 obtain⟨q,hq⟩:=nmE (b kid ⟨X0,X1⟩ ⟨Y0,Y1⟩)
 rw [<-hq]at cB⊢
 rw [show jQ.ac q=[.J q.wide,.J q.high,.J q.base,.view (vw av.c q.frames)]from rfl]at cB
 generalize hFR:vw av.c q.frames=FR at cB
 have c1:=dB s true W q.wide
 have c2:=dB s false H q.high
 generalize hfw:me s true W q.wide=fw at c1
 generalize hfh:me s false H q.high=fh at c2
 have cF:=eX p
 obtain⟨⟨r0,r1,r2,r3⟩,hr⟩:∃q,q=l7 p:=⟨_,rfl⟩
 rw [<-hr]at cF⊢
 have i0:=iA p s rtl W H 0 (.inl rfl)
 have i2:=iA p s rtl W H 2 (.inr rfl)
 have i1:=iz p s rtl W H 1 (.inl rfl)
 have i3:=iz p s rtl W H 3 (.inr rfl)
 have m0:=bJ p s rtl W H 0
 have m1:=bJ p s rtl W H 1
 have m2:=bJ p s rtl W H 2
 have m3:=bJ p s rtl W H 3
 generalize hB0:x9 s 0 rtl W=B0 at i0
 generalize hB1:x9 s 1 rtl H=B1 at i1
 generalize hB2:x9 s 2 rtl W=B2 at i2
 generalize hB3:x9 s 3 rtl H=B3 at i3
 generalize hI0:xZ s 0 rtl W=I0 at i0
 generalize hI1:xZ s 1 rtl H=I1 at i1
 generalize hI2:xZ s 2 rtl W=I2 at i2
 generalize hI3:xZ s 3 rtl H=I3 at i3
 generalize hM0:jo s.margin 0 rtl W=M0 at m0
 generalize hM1:jo s.margin 1 rtl W=M1 at m1
 generalize hM2:jo s.margin 2 rtl W=M2 at m2
 generalize hM3:jo s.margin 3 rtl W=M3 at m3
 clear hB0 hB1 hB2 hB3 hI0 hI1 hI2 hI3 hM0 hM1 hM2 hM3 hr hfw hfh hFR hq hX hY hW hH hp hs hbx hV
 dsimp only at *
 refine rH [(5,.hand)] func55 fun g he hd F hb hc hg hF=> ?_
 cbv
 (repeat'((first|refine ad hg ca ?_|refine ad hg cs ?_|refine ad hg cB ?_|refine aa hg c1 ?_|refine aa hg c2 ?_);cbv))
 refine db hg hc bn [0,1,2,3,4,5] (.op 6 [] (.op 7 [] (.op 8 [] (.op 9 [] .done .none) .none) .none) (.op 7 [] (.op 6 [] (.op 8 [] (.op 9 [] .done .none) .none) .none) .none)) (by kernel_rfl) (by kernel_rfl) (S:=Unit) (fun _=>True) (fun _=>[(3,.i (wide)),(4,.i (high)),(5,.p 0),(10,.p 1),(11,.p 2),(15,.p 3),(16,.p 4),(17,.p 5)]) (fun _=>[.bx 76 3 (mV V rtl),.bx 45 5 [.J 0,.J 0,.J 0,.J 0,.J 0],.bx 134 123 (apC p s rtl W H),.bx 45 5 [.J kid,.J 0,.J 0,.J fw,.J fh],.bx 34 4 [.J p.border.left,.J p.border.top,.J p.border.right,.J p.border.bottom],.bx 34 4 [.J r0,.J r1,.J r2,.J r3]]) (fun BL ha=> ?_) (fun _ _=> ?_)
 ·cbv
  ((repeat'(first|exact trivial|exact rfl|refine And.intro ?_ ?_|(refine aa hg cF ?_;cbv))))
  all_goals first
   |exact ha () trivial _ _ (Wk.weak (wkG [some 0,some 1,some 2,some 6,some 7,some 8] zr8 ⟨wqE rfl rfl,wqE rfl rfl,wqE rfl rfl,wqE rfl rfl,wqE rfl rfl,wqE rfl rfl,zpt⟩ (by decide) aB))
   |exact ha () trivial _ _ (Wk.weak (wkG [some 0,some 1,some 2,some 6,some 8,some 7] zr8 ⟨wqE rfl rfl,wqE rfl rfl,wqE rfl rfl,wqE rfl rfl,wqE rfl rfl,wqE rfl rfl,zpt⟩ (by decide) aB))
 cbv
 (repeat'(first|((first|refine ad hg i0 ?_|refine ad hg i1 ?_|refine ad hg i2 ?_|refine ad hg i3 ?_|refine aa hg m0 ?_|refine aa hg m1 ?_|refine aa hg m2 ?_|refine aa hg m3 ?_);cbv)|(cases B0<;>cbv)|(cases B1<;>cbv)|(cases B2<;>cbv)|(cases B3<;>cbv)|(cases rtl<;>cbv)))
 all_goals exact gj hF rfl ⟨by simp only [aG hg,bZ hg];rfl,rfl⟩
theorem oB(ns:List ae)(hl:ns.length<=1048576)(hs:∀y∈ns,ae.small y)(n wide high:Int)(rtl:Bool):bX prog 22 [.agg [.view (vwA ae.ac ns)],ai n,ai wide,ai high,abl rtl] fun res ht=>res= .o 0/\ht=[⟨45,5,vw av.c (alO ns n wide high rtl)⟩]:=by
 have cT:=wj ns hl hs
 have hd:aJ (vwA ae.ac ns)=(ns.length:Int):=by rw [ak,bm]
 have cI:=kj (vwA ae.ac ns) n
 rw [hd]at cI
 change PC0 _ _ (.t (abl (isN ns n)))at cI
 have cz:=sj wide high
 have hb:uOk ns n wide high=false->vw av.c (alO ns n wide high rtl)=[]:=fun h=>by unfold alO;rw [if_pos h];rfl
 cases hT:dy ns
 case false=>
  rw [hb (by simp [uOk,hT])]
  rw [hT]at cT
  obtain⟨V,hV⟩:=nmE (vwA ae.ac ns)
  rw [<-hV]at cT⊢
  clear cI hd hb
  refine aU func22 fun g F hg hF=> ?_
  cbv
  repeat'(refine ad hg cT ?_;cbv)
  exact uI _ _ hF ⟨rfl,rfl⟩
 rw [hT]at cT
 cases hI:isN ns n
 case false=>
  rw [hb (by simp [uOk,hI])]
  rw [hI]at cI
  obtain⟨V,hV⟩:=nmE (vwA ae.ac ns)
  rw [<-hV]at cT cI⊢
  clear hd hb
  refine aU func22 fun g F hg hF=> ?_
  cbv
  repeat'((first|refine ad hg cT ?_|refine ad hg cI ?_);cbv)
  exact uI _ _ hF ⟨rfl,rfl⟩
 rw [hI]at cI
 cases hS:(rng wide 0 1048576&&rng high 0 1048576)
 case false=>
  rw [hb (by simp only [uOk,hS,Bool.and_false])]
  rw [hS]at cz
  obtain⟨V,hV⟩:=nmE (vwA ae.ac ns)
  rw [<-hV]at cT cI⊢
  clear hd hb
  refine aU func22 fun g F hg hF=> ?_
  cbv
  repeat'((first|refine ad hg cT ?_|refine ad hg cI ?_|refine ad hg cz ?_);cbv)
  exact uI _ _ hF ⟨rfl,rfl⟩
 rw [hS]at cz
 have hD:uOk ns n wide high=true:=by simp only [uOk,hT,hI,hS,Bool.and_self]
 have e:alO ns n wide high rtl=(apK ns n).map fun hr=>apG (wG ns rtl 4) ns rtl n hr wide high:=by unfold alO;rw [if_neg (by rw [hD];simp)]
 rw [e]
 clear e hb
 obtain⟨n1,n2,nd,hj⟩:=bj hI
 have ha:=gR hT n1 hj
 have hw:=oY nd (hs nd (zqd hj))
 have cK:=i7 (qw ns n nd hl n1 (by omega) hj hw ha) (zm (c:=aj) (k:=1) fun _=>rfl) mO
 have hn:apK ns n=nd.kids.filter (lk ns):=by simp only [apK,kg,hj]
 rw [<-hn]at cK
 have hq:(apK ns n).length<=1048576:=by rw [hn];exact zpb (List.length_filter_le _ _) hw
 have hf:∀k∈apK ns n,isN ns k=true:=fun k hk=>ha k (by rw [hn]at hk;exact(List.mem_filter.1 hk).1)
 have cA:=fun k(hk:k∈apK ns n)=>og ns hl n k nd ((ns[(k-1).toNat]?).getD nd) hI (hf k hk) hj (by obtain⟨_,_,y,hy⟩:=bj (hf k hk);rw [hy];rfl) rtl (wG ns rtl 4) (vK hl hs hT rtl 4 k (hf k hk) (by have:=nA hT (hf k hk);omega)) wide high
 obtain⟨fA,ho⟩:∃f:Int->av,f=fun hr=>apG (wG ns rtl 4) ns rtl n hr wide high:=⟨_,rfl⟩
 have hv:∀k,apG (wG ns rtl 4) ns rtl n k wide high=fA k:=fun k=>by rw [ho]
 rw [<-ho]
 simp only [hv]at cA
 obtain⟨xs,hA⟩:=nmE (apK ns n)
 rw [<-hA]at hq cK⊢
 simp only [<-hA]at cA
 obtain⟨V,hV⟩:=nmE (vwA ae.ac ns)
 rw [<-hV]at cT cI cK⊢
 simp only [<-hV]at cA
 obtain⟨G,hG⟩:=nmE (vw aj xs)
 have hH:=lmV hG
 rw [<-hG]at cK
 obtain⟨W,hW⟩:=nmE (xs.map fA)
 have hJ:W.length<=1048576:=by rw [hW,zql];exact hq
 rw [<-hW]
 obtain⟨Z,hZ⟩:=nmE (vw av.c W)
 rw [<-hZ]
 clear hv ho hn hf hd
 refine aU func22 fun g F hg hF=> ?_
 cbv
 (repeat'((first|refine ad hg cT ?_|refine ad hg cI ?_|refine ad hg cz ?_|refine ad hg cK ?_);cbv))
 refine aV hg bn (by kernel_rfl) G (fun x=>lc (aj x)) xs hG hq (fun z(s:List av×LLA)=>[(1,.i (n)),(2,.i (wide)),(3,.i (high)),(4,.t (abl (rtl))),(5,.p 0),(11,.o 1),(31,.v G),(32,.i (g .ln G)),(33,.i (z))]) (fun z(s:List av×LLA)=>[.bx 28 1 [.view V],.rw ⟨45,5,s.2⟩]) (fun z(s:List av×LLA)=>s.2=vw av.c s.1) (fun(s:List av×LLA) rest=>s.1++rest.map fA) (W) ([],[]) (by rw [hW];rfl) rfl (Wk.weak (wkG [some _,none] zr9 ⟨wqE rfl rfl,⟨_,rfl,rfl⟩,zpt⟩ (by decide) aB)) (fun z s B hz h0 hi he=> ?_) (fun z s x rest B z0 z1 z2 hx hy h0 hi hc e1 hB=> ?_)
 ·obtain⟨hm,E⟩:=s
  dsimp only at hi h0
  have pE:=pmV hi
  obtain rfl:hm=W:=by simpa using h0
  rw [hZ,<-hi]at hF
  cbv;rw [he];cbv
  exact bH hF rfl pE
 ·obtain⟨hm,E⟩:=s
  dsimp only at hi h0
  have cA:=cA x (zqd hx)
  obtain⟨⟨f0,f1,f2,f3,f4⟩,hp⟩:∃f,f=fA x:=⟨_,rfl⟩
  rw [<-hp]at cA
  have hh:=congrArg List.length h0
  rw [zqe]at hh
  have hC:E.length<=1048576:=by rw [hi,ar];omega
  have h3:(hm++[(⟨f0,f1,f2,f3,f4⟩:av)])++rest.map fA=W:=by rw [<-h0,hp];simp
  have aE:E++[[.J f0,.J f1,.J f2,.J f3,.J f4]]=vw av.c (hm++[(⟨f0,f1,f2,f3,f4⟩:av)]):=by rw [hi,bi];rfl
  obtain⟨E2,hu⟩:∃E2,E2=E++[[.J f0,.J f1,.J f2,.J f3,.J f4]]:=⟨_,rfl⟩
  rw [<-hu]at aE
  have hE:=pmV aE
  clear hh hp
  cbv;rw [hc];cbv;refine goX hg _ z0 hy rfl ?_;cbv
  (repeat'((first|rw [e1]|refine ad hg cA ?_|refine dh hg rfl (by decide) hC ?_;cbv;rw [gd hg,<-hu]);cbv))
  exact hB ((hm++[(⟨f0,f1,f2,f3,f4⟩:av)],E2)) _ _ ⟨h3,aE⟩ (Wk.weak (wkG [some _,some 3] zr9 ⟨wqE rfl rfl,wqE rfl hE,zpt⟩ (by decide) aB))
def sR(V:LLA)(rtl keeps:Bool):S3K:=⟨91,5,[.view V,.B rtl,.B keeps],157,10,172,6⟩
def SM(ms:List pk):LLA:=vwA pk.ac ms
def SA(qs:List lh):LLA:=vw lh.c qs
theorem bT(ms:List pk):az (SM ms)=true:=lq (c:=pk.ac) (fun x=>by obtain⟨a,⟨b,c⟩,⟨d,e⟩,f,⟨i,j,k,l⟩⟩:=x;rfl) ms
theorem JN(ms:List pk):∀y∈SM ms,y.length=10:=Ba (c:=pk.ac) (fun x=>by obtain⟨a,⟨b,c⟩,⟨d,e⟩,f,⟨i,j,k,l⟩⟩:=x;rfl)
theorem AX(ms:List pk):∀y∈SM ms,y.all dat=true:=oL (c:=pk.ac) (fun x=>by obtain⟨a,⟨b,c⟩,⟨d,e⟩,f,⟨i,j,k,l⟩⟩:=x;rfl)
theorem bU(qs:List lh):az (SA qs)=true:=aC _ _
theorem AY(qs:List lh):∀y∈SA qs,y.all dat=true:=mO
theorem JO(qs:List lh):∀y∈SA qs,y.length=6:=zm (c:=lh.c) fun _=>rfl
def zk(V:LLA)(rtl keeps:Bool)(bx:Bx)(c L:Nat)(kid:Int):Prop:=(∀w h st,(bx kid w h st).2.1.length<=st.1.length+c/\(bx kid w h st).2.2.length<=st.2.length+c)/\
 ∀(w0 w1 h0 h1:Int)(st:St),st.1.length+c<=L->st.2.length+c<=L->
  SE prog 76 (sR V rtl keeps) (SM st.1) (SA st.2) [.c (.ptr 0 0 0),ai kid,agP ⟨w0,w1⟩,agP ⟨h0,h1⟩] (.t (.agg (jQ.ac (bx kid ⟨w0,w1⟩ ⟨h0,h1⟩ st).1))) (SM (bx kid ⟨w0,w1⟩ ⟨h0,h1⟩ st).2.1) (SA (bx kid ⟨w0,w1⟩ ⟨h0,h1⟩ st).2.2)
theorem acE(q:jQ):jQ.ac q=[.J q.wide,.J q.high,.J q.base,.view (vw av.c q.frames)]:=rfl
variable {rtl keeps:Bool}
theorem zg{V:LLA}{bx:Bx}{c L:Nat}{kid:Int}(hb:zk V rtl keeps bx c L kid)(row:Bool)(al ac:aM)(st:St):(uQ bx row kid al ac st).2.1.length<=st.1.length+c/\(uQ bx row kid al ac st).2.2.length<=st.2.length+c:=by
 unfold uQ
 split<;>exact hb.1 ..
theorem nC(V:LLA)(rtl keeps:Bool)(bx:Bx)(c L:Nat)(kid:Int)(hb:zk V rtl keeps bx c L kid)(n:Int)(s:ag)(row:Bool)(al ac:aM)(kn:Int)(K:LLA)(a0 a1 c0 c1:Int)(st:St)(hm:st.1.length+c<=L)(hq:st.2.length+c<=L):
  SE prog 263 (sR V rtl keeps) (SM st.1) (SA st.2) [.c (.ptr 0 0 0),.agg (nwL n s row al ac kn (.view K)),ai kid,agP ⟨a0,a1⟩,agP ⟨c0,c1⟩] (.t (.agg (jQ.ac (uQ bx row kid ⟨a0,a1⟩ ⟨c0,c1⟩ st).1))) (SM (uQ bx row kid ⟨a0,a1⟩ ⟨c0,c1⟩ st).2.1) (SA (uQ bx row kid ⟨a0,a1⟩ ⟨c0,c1⟩ st).2.2):=by
 have ha:=hb.2 a0 a1 c0 c1 st hm hq
 have hc:=hb.2 c0 c1 a0 a1 st hm hq
 unfold uQ
 have pM:=bT st.1
 have pA:=bU st.2
 obtain⟨r1,hr1⟩:=nmE (bx kid ⟨a0,a1⟩ ⟨c0,c1⟩ st)
 obtain⟨r2,hn⟩:=nmE (bx kid ⟨c0,c1⟩ ⟨a0,a1⟩ st)
 rw [<-hr1]at ha
 rw [<-hn]at hc
 rw [<-hr1,<-hn]
 rw [acE]at ha hc
 clear hr1 hn hb
 cases row
 ·simp only [Bool.false_eq_true,if_false]
  rw [acE]
  have hf:=bT r2.2.1
  have he:=bU r2.2.2
  generalize hj:vw av.c r2.1.frames=F2 at hc;replace hj:=hj.symm
  generalize hM:SM st.1=M at hc pM;replace hM:=hM.symm
  generalize hh:SA st.2=A0 at hc pA;replace hh:=hh.symm
  generalize hk:SM r2.2.1=M2 at hc hf;replace hk:=hk.symm
  generalize hi:SA r2.2.2=A2 at hc he;replace hi:=hi.symm
  refine mL [] func263 (fun g ho hd F hl hp hg hF=> ?_)
  cbv
  (refine je rfl hg 0 1 2 hc rfl rfl rfl (by decide) rfl pM pA ⟨rfl,rfl,.inl ⟨rfl,rfl⟩,.inl ⟨rfl,rfl⟩,zpt⟩ rfl ?_;cbv)
  exact su 7 8 hF rfl rfl rfl rfl rfl (by decide) rfl hf he
 ·simp only [if_true]
  rw [acE]
  have hf:=bT r1.2.1
  have he:=bU r1.2.2
  generalize hj:vw av.c r1.1.frames=F2 at ha
  generalize hM:SM st.1=M at ha pM
  generalize hh:SA st.2=A0 at ha pA
  generalize hk:SM r1.2.1=M2 at ha hf
  generalize hi:SA r1.2.2=A2 at ha he
  refine mL [] func263 (fun g ho hd F hl hp hg hF=> ?_)
  cbv
  (refine je rfl hg 0 1 2 ha rfl rfl rfl (by decide) rfl pM pA ⟨rfl,rfl,.inl ⟨rfl,rfl⟩,.inl ⟨rfl,rfl⟩,zpt⟩ rfl ?_;cbv)
  exact su 7 8 hF rfl rfl rfl rfl rfl (by decide) rfl hf he
theorem s4(ns:List ae)(hl:ns.length<=1048576)(kid:Int)(y:ae)(h1:isN ns kid=true)(hy:ns[(kid-1).toNat]? =some y)(rtl keeps:Bool)(bx:Bx)(c L:Nat)(hbx:zk (vwA ae.ac ns) rtl keeps bx c L kid)(n:Int)(p:Pl)(K:LLA)(st:St)(hm:st.1.length+c<=L)(hq:st.2.length+c<=L):
  SE prog 256 (sR (vwA ae.ac ns) rtl keeps) (SM st.1) (SA st.2) [.c (.ptr 0 0 0),.agg (nwL n p.s p.row p.al p.ac (knS p.wide) (.view K)),ai kid] (.t (ai (xT bx p rtl ns kid st).1)) (SM (xT bx p rtl ns kid st).2.1) (SA (xT bx p rtl ns kid st).2.2):=by
 have hD:kst ns kid=y.style:=il hy
 unfold xT
 rw [hD]
 obtain⟨s,row,w,h,iw,ih,al,ac,kids⟩:=p
 obtain⟨Ky,hx⟩:=nmE (vw aj y.kids)
 obtain⟨Ry,hz⟩:=nmE (vw aD.c y.table.rules)
 have b2:=bj h1
 have pM:=bT st.1
 have kM:=JN st.1
 have dM:=AX st.1
 have pA:=bU st.2
 have kA:=JO st.2
 have dA:=AY st.2
 have cX:=lw ns hl kid y h1 hy rtl keeps (.view (SM st.1)) (.view (SA st.2)) n s row al ac (knS iw) K
 change PC0 _ _ (.t (agP (kcX ⟨s,row,w,h,iw,ih,al,ac,kids⟩ y.style rtl)))at cX
 have cS:=fW ns hl kid y h1 hy rtl true keeps (.view (SM st.1)) (.view (SA st.2)) n s row al ac (knS iw) K
 change PC0 _ _ (.t (.agg (lc (aw.c (zS ⟨s,row,w,h,iw,ih,al,ac,kids⟩ y.style rtl true)))))at cS
 obtain⟨V,hV⟩:=nmE (vwA ae.ac ns)
 have cy:=bh ns kid y b2.1 (by have:=b2.2.1;omega) hy V Ky Ry hV hx hz
 rw [<-hV]at hbx cX cS⊢
 obtain⟨⟨k0,k1⟩,ht⟩:∃q,q=kcX ⟨s,row,w,h,iw,ih,al,ac,kids⟩ y.style rtl:=⟨_,rfl⟩
 obtain⟨BN,hc⟩:=nmE (Fg ⟨s,row,w,h,iw,ih,al,ac,kids⟩ y.style rtl)
 rw [<-ht,<-hc]
 unfold Fg at hc
 rw [<-ht]at cX hc
 obtain⟨⟨g0,g1⟩,ha⟩:∃q,q=Hz ⟨s,row,w,h,iw,ih,al,ac,kids⟩ y.style rtl:=⟨_,rfl⟩
 rw [<-ha]
 unfold Hz at ha
 obtain⟨SD,hA⟩:=nmE (zS ⟨s,row,w,h,iw,ih,al,ac,kids⟩ y.style rtl true)
 rw [<-hA]at cS ha
 dsimp only at ha hc⊢
 have cZ:=nC V rtl keeps bx c L kid hbx n s row al ac (knS iw) K g0 g1 k0 k1 st hm hq
 obtain⟨rr,hC⟩:=nmE (uQ bx row kid ⟨g0,g1⟩ ⟨k0,k1⟩ st)
 rw [<-hC]at cZ⊢
 clear hA ht hC hbx hx hz hV
 obtain⟨am,an⟩:=al
 have ck:=dr am an
 generalize hKN:knS ⟨am,an⟩=KN at ck hc
 generalize hKW:knS iw=KW at cX cS cZ
 have cs:=ea y.style.basis.kind y.style.basis.n KN
 change PC0 _ _ (.i (uj y.style.basis KN))at cs
 have cf:=eI y.style row KN
 have cr:=jl y.style row k1
 generalize hSZ:uj y.style.basis KN=SZ at cs hc
 generalize hFX:qB y.style row KN=FX at cf hc
 generalize hRT:rD y.style row k1=RT at cr hc
 have co:=jV SZ FX
 obtain⟨O,hO⟩:=nmE (orl SZ FX)
 change PC0 _ _ (.i (orl SZ FX))at co
 rw [<-hO]at co
 have hf:BN=if¬O= -1 then O else if k0=3 then RT else-1:=by
  rw [hc,hO]
  unfold orl
  by_cases q1:SZ= -1<;>by_cases q2:FX= -1<;>simp [q1,q2]
 have cB:=jf SD
 obtain⟨BB,hw⟩:=nmE (wrap64 (SD.before+SD.behind))
 change PC0 _ _ (.i (wrap64 (SD.before+SD.behind)))at cB
 rw [<-hw]at cB ha
 have cI:=dz am an BB
 obtain⟨⟨i0,i1⟩,hI⟩:∃q,q=qt ⟨am,an⟩ BB:=⟨_,rfl⟩
 change PC0 _ _ (.t (agP (qt ⟨am,an⟩ BB)))at cI
 rw [<-hI]at cI ha
 have cL:=lC i0 i1
 have hk:=bT rr.2.1
 have hj:=bU rr.2.2
 rw [acE]at cZ
 have he:alB row rr.1=if row then rr.1.wide else rr.1.high:=rfl
 obtain⟨b0,hu⟩:=nmE rr.1.wide
 obtain⟨b1,hv⟩:=nmE rr.1.high
 obtain⟨b3,hB⟩:=nmE rr.1.base
 rw [<-hu,<-hv,<-hB]at cZ
 rw [<-hu,<-hv]at he
 generalize hAL:alB row rr.1=AL at he
 generalize hFR:vw av.c rr.1.frames=FR at cZ
 generalize hM:SM st.1=M at cZ cX cS pM kM dM;replace hM:=hM.symm
 generalize ho:SA st.2=A0 at cZ cX cS pA kA dA;replace ho:=ho.symm
 generalize hr:SM rr.2.1=M2 at cZ hk;replace hr:=hr.symm
 generalize hp:SA rr.2.2=A2 at cZ hj;replace hp:=hp.symm
 clear hc hKN hKW hSZ hFX hRT hO hw hI hu hv hB hAL hFR
 have tm:∀g:Gd,g=G0 prog 3 f256.ntmps->g .q .neq (-1) (-1)=false:=fun g hg=>by rw [bB hg];rfl
 by_cases q1:O= -1
 case neg=>
  have e:BN=O:=by rw [hf,if_pos q1]
  rw [if_pos (by rw [e];exact q1),e]
  dsimp only
  rw [<-hM,<-ho]
  refine mL [] func256 (fun g hh hd F hb hi hg hF=> ?_)
  have t0:g .q .eql (O) ((-1))=decide ((O)=((-1))):=by rw [bg hg];exact zqn _ _
  have t1:g .q .neq (O) ((-1))=decide (¬(O)=((-1))):=by rw [bB hg];exact dN _ _
  (first|rw [zqu q1]at t0|rw [zqt q1]at t0|rw [zqu (Classical.not_not.2 q1)]at t0|rw [zqt (Classical.not_not.2 q1)]at t0);(first|rw [zqu q1]at t1|rw [zqt q1]at t1|rw [zqu (Classical.not_not.2 q1)]at t1|rw [zqt (Classical.not_not.2 q1)]at t1)
  cbv
  ((repeat'((first|rw [t0]|rw [t1]|refine ad hg cy ?_|refine ad hg ck ?_|refine aa hg cs ?_|refine aa hg cf ?_|refine aa hg co ?_|refine gz hg cX (dx (qk (r:=0) (rm:=1) (ra:=2) [.view V,.B rtl,.B keeps] rfl rfl rfl kM dM rfl kA dA) (bq rfl (ah (aq rfl) (ay)))) rfl ?_);cbv)))
  exact su 1 2 hF rfl rfl rfl rfl rfl (by decide) rfl pM pA
 have hn:BN= -1->SE prog 256 (sR V rtl keeps) M A0 [.c (.ptr 0 0 0),.agg (nwL n s row ⟨am,an⟩ ac KW (.view K)),ai kid] (.i AL) M2 A2->SE prog 256 (sR V rtl keeps) M A0 [.c (.ptr 0 0 0),.agg (nwL n s row ⟨am,an⟩ ac KW (.view K)),ai kid] (.t (ai (if BN≠ -1 then(BN,st)else(AL,rr.2)).1)) (SM (if BN≠ -1 then(BN,st)else(AL,rr.2)).2.1) (SA (if BN≠ -1 then(BN,st)else(AL,rr.2)).2.2):=fun h hs=>by
  rw [if_neg (fun x=>x h)]
  dsimp only
  rw [<-hr,<-hp]
  exact hs
 clear hr hp
 have hE:O= -1:=q1
 subst hE
 by_cases q2:k0=3
 case pos=>
  by_cases q3:RT= -1
  case neg=>
   have e:BN=RT:=by rw [hf,if_neg (fun h=>h rfl),if_pos q2]
   rw [if_pos (by rw [e];exact q3),e]
   dsimp only
   rw [<-hM,<-ho]
   refine mL [] func256 (fun g hh hd F hb hi hg hF=> ?_)
   have tm:=tm g hg
   have tp:g .q .eql (-1) (-1)=true:=by rw [bg hg];rfl
   have t0:g .q .eql (k0) (3)=decide ((k0)=(3)):=by rw [bg hg];exact zqn _ _
   have t1:g .q .neq (RT) ((-1))=decide (¬(RT)=((-1))):=by rw [bB hg];exact dN _ _
   (first|rw [zqu q2]at t0|rw [zqt q2]at t0|rw [zqu (Classical.not_not.2 q2)]at t0|rw [zqt (Classical.not_not.2 q2)]at t0);(first|rw [zqu q3]at t1|rw [zqt q3]at t1|rw [zqu (Classical.not_not.2 q3)]at t1|rw [zqt (Classical.not_not.2 q3)]at t1)
   cbv
   ((repeat'((first|rw [tp]|rw [t0]|rw [t1]|refine ad hg cy ?_|refine ad hg ck ?_|refine aa hg cs ?_|refine aa hg cf ?_|refine aa hg co ?_|refine ad hg cr ?_|refine gz hg cX (dx (qk (r:=0) (rm:=1) (ra:=2) [.view V,.B rtl,.B keeps] rfl rfl rfl kM dM rfl kA dA) (bq rfl (ah (aq rfl) (ay)))) rfl ?_);cbv)))
   exact su 1 2 hF rfl rfl rfl rfl rfl (by decide) rfl pM pA
  have e:BN= -1:=by rw [hf,if_neg (fun h=>h rfl),if_pos q2,q3]
  refine hn e ?_
  clear hn
  cases row
  case false=>
   simp only [Bool.false_eq_true,if_false,aM.mk.injEq]at he ha
   obtain⟨rfl,rfl⟩:=ha
   subst he
   refine mL [] func256 (fun g hh hd F hb hi hg hF=> ?_)
   have tm:=tm g hg
   have tp:g .q .eql (-1) (-1)=true:=by rw [bg hg];rfl
   have t0:g .q .eql (k0) (3)=decide ((k0)=(3)):=by rw [bg hg];exact zqn _ _
   have t1:g .q .neq (RT) ((-1))=decide (¬(RT)=((-1))):=by rw [bB hg];exact dN _ _
   (first|rw [zqu q2]at t0|rw [zqt q2]at t0|rw [zqu (Classical.not_not.2 q2)]at t0|rw [zqt (Classical.not_not.2 q2)]at t0);(first|rw [zqu q3]at t1|rw [zqt q3]at t1|rw [zqu (Classical.not_not.2 q3)]at t1|rw [zqt (Classical.not_not.2 q3)]at t1)
   cbv
   ((repeat'((first|rw [tp]|rw [t0]|rw [t1]|refine ad hg cy ?_|refine ad hg ck ?_|refine aa hg cs ?_|refine aa hg cf ?_|refine aa hg co ?_|refine ad hg cr ?_|refine gz hg cX (dx (qk (r:=0) (rm:=1) (ra:=2) [.view V,.B rtl,.B keeps] rfl rfl rfl kM dM rfl kA dA) (bq rfl (ah (aq rfl) (ay)))) rfl ?_|refine je rfl hg 0 1 2 cZ rfl rfl rfl (by decide) rfl pM pA ⟨rfl,.inl ⟨rfl,rfl⟩,rfl,.inl ⟨rfl,rfl⟩,.inl ⟨rfl,rfl⟩,zpt⟩ rfl ?_);cbv)))
   exact su 7 8 hF rfl rfl rfl rfl rfl (by decide) rfl hk hj
  case true=>
   simp only [if_true]at he ha
   subst he
   rw [<-ha]at cL
   refine mL [] func256 (fun g hh hd F hb hi hg hF=> ?_)
   have tm:=tm g hg
   have tp:g .q .eql (-1) (-1)=true:=by rw [bg hg];rfl
   have t0:g .q .eql (k0) (3)=decide ((k0)=(3)):=by rw [bg hg];exact zqn _ _
   have t1:g .q .neq (RT) ((-1))=decide (¬(RT)=((-1))):=by rw [bB hg];exact dN _ _
   (first|rw [zqu q2]at t0|rw [zqt q2]at t0|rw [zqu (Classical.not_not.2 q2)]at t0|rw [zqt (Classical.not_not.2 q2)]at t0);(first|rw [zqu q3]at t1|rw [zqt q3]at t1|rw [zqu (Classical.not_not.2 q3)]at t1|rw [zqt (Classical.not_not.2 q3)]at t1)
   cbv
   ((repeat'((first|rw [tp]|rw [t0]|rw [t1]|refine ad hg cy ?_|refine ad hg ck ?_|refine aa hg cs ?_|refine aa hg cf ?_|refine aa hg co ?_|refine ad hg cr ?_|refine aa hg cB ?_|refine aa hg cI ?_|refine aa hg cL ?_|refine gz hg cX (dx (qk (r:=0) (rm:=1) (ra:=2) [.view V,.B rtl,.B keeps] rfl rfl rfl kM dM rfl kA dA) (bq rfl (ah (aq rfl) (ay)))) rfl ?_|refine fj hg cS (dx (qk (r:=0) (rm:=1) (ra:=2) [.view V,.B rtl,.B keeps] rfl rfl rfl kM dM rfl kA dA) (bq rfl (ah (aq rfl) (ah (aq rfl) (ay))))) rfl ?_|refine je rfl hg 0 1 2 cZ rfl rfl rfl (by decide) rfl pM pA ⟨rfl,.inl ⟨rfl,rfl⟩,rfl,.inl ⟨rfl,rfl⟩,.inl ⟨rfl,rfl⟩,zpt⟩ rfl ?_);cbv)))
   exact su 7 8 hF rfl rfl rfl rfl rfl (by decide) rfl hk hj
 have e:BN= -1:=by rw [hf,if_neg (fun h=>h rfl),if_neg q2]
 refine hn e ?_
 clear hn
 cases row
 case false=>
  simp only [Bool.false_eq_true,if_false,aM.mk.injEq]at he ha
  obtain⟨rfl,rfl⟩:=ha
  subst he
  refine mL [] func256 (fun g hh hd F hb hi hg hF=> ?_)
  have tm:=tm g hg
  have tp:g .q .eql (-1) (-1)=true:=by rw [bg hg];rfl
  have t0:g .q .eql (k0) (3)=decide ((k0)=(3)):=by rw [bg hg];exact zqn _ _
  (first|rw [zqu q2]at t0|rw [zqt q2]at t0|rw [zqu (Classical.not_not.2 q2)]at t0|rw [zqt (Classical.not_not.2 q2)]at t0)
  cbv
  ((repeat'((first|rw [tm]|rw [tp]|rw [t0]|refine ad hg cy ?_|refine ad hg ck ?_|refine aa hg cs ?_|refine aa hg cf ?_|refine aa hg co ?_|refine gz hg cX (dx (qk (r:=0) (rm:=1) (ra:=2) [.view V,.B rtl,.B keeps] rfl rfl rfl kM dM rfl kA dA) (bq rfl (ah (aq rfl) (ay)))) rfl ?_|refine je rfl hg 0 1 2 cZ rfl rfl rfl (by decide) rfl pM pA ⟨rfl,.inl ⟨rfl,rfl⟩,rfl,.inl ⟨rfl,rfl⟩,.inl ⟨rfl,rfl⟩,zpt⟩ rfl ?_);cbv)))
  exact su 7 8 hF rfl rfl rfl rfl rfl (by decide) rfl hk hj
 case true=>
  simp only [if_true]at he ha
  subst he
  rw [<-ha]at cL
  refine mL [] func256 (fun g hh hd F hb hi hg hF=> ?_)
  have tm:=tm g hg
  have tp:g .q .eql (-1) (-1)=true:=by rw [bg hg];rfl
  have t0:g .q .eql (k0) (3)=decide ((k0)=(3)):=by rw [bg hg];exact zqn _ _
  (first|rw [zqu q2]at t0|rw [zqt q2]at t0|rw [zqu (Classical.not_not.2 q2)]at t0|rw [zqt (Classical.not_not.2 q2)]at t0)
  cbv
  ((repeat'((first|rw [tm]|rw [tp]|rw [t0]|refine ad hg cy ?_|refine ad hg ck ?_|refine aa hg cs ?_|refine aa hg cf ?_|refine aa hg co ?_|refine aa hg cB ?_|refine aa hg cI ?_|refine aa hg cL ?_|refine gz hg cX (dx (qk (r:=0) (rm:=1) (ra:=2) [.view V,.B rtl,.B keeps] rfl rfl rfl kM dM rfl kA dA) (bq rfl (ah (aq rfl) (ay)))) rfl ?_|refine fj hg cS (dx (qk (r:=0) (rm:=1) (ra:=2) [.view V,.B rtl,.B keeps] rfl rfl rfl kM dM rfl kA dA) (bq rfl (ah (aq rfl) (ah (aq rfl) (ay))))) rfl ?_|refine je rfl hg 0 1 2 cZ rfl rfl rfl (by decide) rfl pM pA ⟨rfl,.inl ⟨rfl,rfl⟩,rfl,.inl ⟨rfl,rfl⟩,.inl ⟨rfl,rfl⟩,zpt⟩ rfl ?_);cbv)))
  exact su 7 8 hF rfl rfl rfl rfl rfl (by decide) rfl hk hj
theorem Dw{V:LLA}{bx:Bx}{c L:Nat}{kid:Int}(hb:zk V rtl keeps bx c L kid)(p:Pl)(ns:List ae)(st:St):(xT bx p rtl ns kid st).2.1.length<=st.1.length+c/\(xT bx p rtl ns kid st).2.2.length<=st.2.length+c:=by
 unfold xT
 split
 ·exact⟨Nat.le_add_right ..,Nat.le_add_right ..⟩
 ·exact zg hb ..
theorem vo{a b c k L:Nat}(h:a<=b+k*c)(hL:b+20*c<=L)(hk:k+1<=20):a+c<=L:=by
 have:=zpf c hk
 rw [Nat.succ_mul]at this
 omega
theorem nU{a a' b c k:Nat}(h:a<=b+k*c)(h2:a'<=a+c):a'<=b+(k+1)*c:=by
 rw [Nat.succ_mul];omega
theorem rd(ns:List ae)(hl:ns.length<=1048576)(rtl keeps:Bool)(bx:Bx)(c L:Nat)(n:Int)(p:Pl)(hkl:p.kids.length<20)(hk:∀ha∈p.kids,isN ns ha=true)(hbx:∀ha∈p.kids,zk (vwA ae.ac ns) rtl keeps bx c L ha)(st:St)(hm:st.1.length+20*c<=L)(hq:st.2.length+20*c<=L):
  SE prog 208 (sR (vwA ae.ac ns) rtl keeps) (SM st.1) (SA st.2) [.c (.ptr 0 0 0),.agg (nwL n p.s p.row p.al p.ac (knS p.wide) (.view (vw aj p.kids)))] (.t (.c (.view (vw af.c (mA bx p rtl ns p.kids st).1)))) (SM (mA bx p rtl ns p.kids st).2.1) (SA (mA bx p rtl ns p.kids st).2.2):=by
 refine xh (t:=237) (k:=9) (V:=vw af.c (mA bx p rtl ns p.kids st).1) (R:= .o 5) ?_ (zm (c:=af.c) (k:=9) fun _=>rfl) mO rfl rfl rfl
 have hT:∀ha∈p.kids,∃y,ns[(ha-1).toNat]? =some y:=fun ha h=>(bj (hk ha h)).2.2
 have hN:=fun ha(h:ha∈p.kids) y hy Ky Ry=>bh ns ha y (bj (hk ha h)).1 (by have:=(bj (hk ha h)).2.1;omega) hy (vwA ae.ac ns) Ky Ry rfl
 have hh:=fun ha(h:ha∈p.kids) y hy K st h1 h2=>s4 ns hl ha y (hk ha h) hy rtl keeps bx c L (hbx ha h) n p K st h1 h2
 have hS:=fun ha(h:ha∈p.kids) y hy C D K=>fW ns hl ha y (hk ha h) hy rtl true keeps C D n p.s p.row p.al p.ac (knS p.wide) K
 have hj:=fun ha(h:ha∈p.kids) st=>Dw (hbx ha h) p ns st
 clear hbx
 obtain⟨f,hf⟩:∃f,f=fun k st=>xT bx p rtl ns k st:=⟨_,rfl⟩
 have hU:∀k st,xT bx p rtl ns k st=f k st:=fun k st=>by rw [hf]
 simp only [hU]at hh hj
 obtain⟨it,hw⟩:∃it,it=fun ks st=>mA bx p rtl ns ks st:=⟨_,rfl⟩
 have hr:∀ks st,mA bx p rtl ns ks st=it ks st:=fun ks st=>by rw [hw]
 have hX:∀st,it [] st=([],st):=fun st=>by rw [hw];rfl
 have ho:∀k r st,it (k::r) st=(IK p (kst ns k) rtl (f k st).1::(it r (f k st).2).1,(it r (f k st).2).2):=fun k r st=>by rw [hw,hf];rfl
 simp only [hr]
 clear hf hw hU hr
 obtain⟨s0,row,w,h,iw,ih,al,ac,kids⟩:=p
 dsimp only at *
 obtain⟨V,hV⟩:=nmE (vwA ae.ac ns)
 rw [<-hV]at hN
 simp only [<-hV]at hh hS
 rw [<-hV]
 obtain⟨K,hK⟩:=nmE (vw aj kids)
 have xd:=lmV hK
 have hh:=fun ha h y hy st=>hh ha h y hy K st
 have hS:=fun ha h y hy C D=>hS ha h y hy C D K
 rw [<-hK]
 obtain⟨am,an⟩:=al
 have ck:=dr am an
 obtain⟨KN,hH⟩:=nmE (knS ⟨am,an⟩)
 change PC0 _ _ (.i (knS ⟨am,an⟩))at ck
 rw [<-hH]at ck
 have ho:∀k r st y,ns[(k-1).toNat]? =some y->it (k::r) st=((⟨(f k st).1,CN y.style row KN,DH y.style row KN,y.style.grow,y.style.shrink,(sdB s0 y.style rtl true (knS iw)).before,(sdB s0 y.style rtl true (knS iw)).behind,(sdB s0 y.style rtl true (knS iw)).autoBefore,(sdB s0 y.style rtl true (knS iw)).autoBehind⟩:af)::(it r (f k st).2).1,(it r (f k st).2).2):=fun k r st y hy=>by
  rw [ho,il hy,hH];rfl
 obtain⟨R,hR⟩:=nmE (it kids st)
 rw [<-hR]
 generalize hKW:knS iw=KW at hh hS ho
 obtain⟨M0,hI⟩:=nmE (SM st.1)
 obtain⟨A0,hE⟩:=nmE (SA st.2)
 have xa:az M0=true:=by rw [hI];exact bT _
 have h8:az A0=true:=by rw [hE];exact bU _
 rw [<-hI,<-hE]
 have hM:kids.length<=1048576:=by omega
 have xe:R.1.length=kids.length:=by
  rw [hR]
  have:∀ks:List Int,(∀k∈ks,k∈kids)->∀st,(it ks st).1.length=ks.length:=by
   intro ks
   induction ks with
   |nil=>intro _ st;rw [hX];rfl
   |cons k ks ih=>
    intro hs st
    obtain⟨y,hy⟩:=hT k (hs k (zpd ..))
    rw [ho k ks st y hy]
    simp [ih (fun x hx=>hs x (zpe _ hx))]
  exact this kids (fun _ h=>h) st
 clear hH hV
 refine mL [(8,.hand)] func208 (fun g xc hd F hL hW hg hF=> ?_)
 cbv
 (repeat'(refine ad hg ck ?_;cbv))
 refine j8 ([(8,.hand)]) ([]) hL hW hg bn (by kernel_rfl) K (fun x=>lc (aj x)) kids hK hM (fun z(s:(List af×St)×LLA×LLA×LLA)=>[(0,.p 0),(3,.p 3),(5,.o 6),(6,.i (KN)),(7,.i (z))]) (fun z(s:(List af×St)×LLA×LLA×LLA)=>[.bx 91 5 [.view V,.B rtl,.B keeps,.own 4,.own 5],.gn,.gn,.bx 180 68 (nwL n s0 row ⟨am,an⟩ ac KW (.view K)),.rw ⟨157,10,s.2.1⟩,.rw ⟨172,6,s.2.2.1⟩,.rw ⟨237,9,s.2.2.2⟩]) (fun z(s:(List af×St)×LLA×LLA×LLA)=>s.2.1=SM s.1.2.1/\s.2.2.1=SA s.1.2.2/\s.2.2.2=vw af.c s.1.1/\s.1.2.1.length<=st.1.length+s.1.1.length*c/\s.1.2.2.length<=st.2.length+s.1.1.length*c) (fun(s:(List af×St)×LLA×LLA×LLA) rest=>(s.1.1++(it rest s.1.2).1,(it rest s.1.2).2)) (R) (([],st),M0,A0,[]) (by rw [hR];rfl) ⟨hI,hE,rfl,by simp,by simp⟩ (Wk.weak (wkM [some 0,none,none,some 3,some 1,some 2,some 4] zr5 ⟨.inr (wqB rfl ⟨zr5,zpt⟩),.inl rfl,.inl rfl,.inr (wqE rfl rfl),.inr (wqE rfl xa),.inr (wqE rfl h8),.inr (wqE rfl rfl),zpt⟩ (by decide) ⟨.inl rfl,.inl rfl,.inr rfl,zpt⟩ ⟨.inl rfl,.inl rfl,.inr ⟨_,rfl⟩,zpt⟩)) (fun z s B hz h0 hi he=> ?_) (fun z s x rest B z0 z1 z2 hx hy h0 hi hc e1 hB=> ?_)
 ·obtain⟨⟨hb,hp⟩,M1,A1,E⟩:=s
  obtain⟨i1,i2,i3,i4,i5⟩:=hi
  dsimp only at i1 i2 i3 h0
  obtain rfl:R=(hb,hp):=by rw [<-h0,hX];simp
  have xb:az M1=true:=by rw [i1];exact bT _
  have h9:az A1=true:=by rw [i2];exact bU _
  have pE:=pmV i3
  cbv;rw [he];cbv
  subst i1 i2 i3
  exact Dc 4 5 6 hF rfl rfl rfl rfl rfl rfl (by decide) rfl xb h9 pE
 ·obtain⟨⟨hb,hp⟩,M1,A1,E⟩:=s
  obtain⟨i1,i2,i3,i4,i5⟩:=hi
  dsimp only at i1 i2 i3 i4 i5 h0
  have ht:x∈kids:=zqd hx
  obtain⟨y,hA⟩:=hT x ht
  rw [ho x rest hp y hA]at h0
  have hu:hb.length+1<=20:=by
   have:=congrArg (fun r=>r.1.length) h0
   simp only [zqe,zqx]at this
   omega
  have h7:E.length<=1048576:=by rw [i3,ar];omega
  have pM:az M1=true:=by rw [i1];exact bT _
  have pA:az A1=true:=by rw [i2];exact bU _
  have kM:∀y∈M1,y.length=10:=by rw [i1];exact JN _
  have dM:∀y∈M1,y.all dat=true:=by rw [i1];exact AX _
  have kA:∀y∈A1,y.length=6:=by rw [i2];exact JO _
  have dA:∀y∈A1,y.all dat=true:=by rw [i2];exact AY _
  have cB:=hh x ht y hA hp (vo i4 hm hu) (vo i5 hq hu)
  rw [<-i1,<-i2]at cB
  have cS:=hS x ht y hA (.view M1) (.view A1)
  have cy:=hN x ht y hA _ _ rfl rfl
  obtain⟨Ky,hP⟩:=nmE (vw aj y.kids)
  obtain⟨Ry,hQ⟩:=nmE (vw aD.c y.table.rules)
  rw [<-hP,<-hQ]at cy
  have hn:=hj x ht hp
  obtain⟨⟨b,hv⟩,hY⟩:∃r,r=f x hp:=⟨_,rfl⟩
  rw [<-hY]at cB hn h0
  dsimp only at cB hn h0
  have j1:=nU i4 hn.1
  have j2:=nU i5 hn.2
  have hC:=jj y.style row KN
  have hD:=jW y.style row KN
  generalize hf1:CN y.style row KN=f1 at hC h0
  generalize hf2:DH y.style row KN=f2 at hD h0
  generalize hSD:sdB s0 y.style rtl true KW=SD at cS h0
  obtain⟨d0,d1,d2,d3,d4,d5,d6⟩:=SD
  dsimp only at h0
  obtain⟨M2,hJ⟩:=nmE (SM hv.1)
  obtain⟨A2,hG⟩:=nmE (SA hv.2)
  have h5:az M2=true:=by rw [hJ];exact bT _
  have hZ:az A2=true:=by rw [hG];exact bU _
  rw [<-hJ,<-hG]at cB
  obtain⟨E2,hO⟩:∃E2,E2=E++[[.J b,.J f1,.J f2,.J y.style.grow,.J y.style.shrink,.J d1,.J d2,.B d3,.B d4]]:=⟨_,rfl⟩
  have aE:E2=vw af.c (hb++[⟨b,f1,f2,y.style.grow,y.style.shrink,d1,d2,d3,d4⟩]):=by rw [hO,i3,bi];rfl
  have h4:=pmV aE
  have h3:((hb++[(⟨b,f1,f2,y.style.grow,y.style.shrink,d1,d2,d3,d4⟩:af)])++(it rest hv).1,(it rest hv).2)=R:=by rw [<-h0];simp
  have nl:(hb++[(⟨b,f1,f2,y.style.grow,y.style.shrink,d1,d2,d3,d4⟩:af)]).length=hb.length+1:=by simp
  clear hP hQ hY hf1 hf2 hSD i4 i5 hn hh hS hN hj ho
  cbv
  rw [hc]
  cbv
  ((repeat'((first|refine aa hg cy ?_|refine goX hg _ z0 hy rfl ?_|refine fj hg cS (dx (qk (r:=0) (rm:=4) (ra:=5) [.view V,.B rtl,.B keeps] rfl rfl rfl kM dM rfl kA dA) (bq rfl (ah (aq rfl) (ah (aq rfl) (ay))))) rfl ?_);cbv)))
  refine db hg hW bn [1,2,3,4,5,6,7,9,10,11,12,14,15,16,17,19,20,21,22,23,24,25,26,27,28,29,30] (.op 0 [] (.op 8 [13,18,31] (.op 32 [] (.op 33 [] (.op 34 [] .done .none) .none) .none) .none) (.op 8 [13,18,31] (.op 0 [] (.op 32 [] (.op 33 [] (.op 34 [] .done .none) .none) .none) (.op 32 [] (.op 0 [] (.op 33 [] (.op 34 [] .done .none) .none) .none) .none)) .none)) (by kernel_rfl) (by kernel_rfl) (S:=Unit) (fun _=>True) (fun _=>[(0,.p 0),(3,.p 3),(5,.o 6),(6,.i (KN)),(7,.i (z))]) (fun _=>[.bx 91 5 [.view V,.B rtl,.B keeps,.own 4,.own 5],.gn,.gn,.bx 180 68 (nwL n s0 row ⟨am,an⟩ ac KW (.view K)),.rw ⟨157,10,M2⟩,.rw ⟨172,6,A2⟩,.rw ⟨237,9,E2⟩]) (fun BL h6=> ?_) (fun _ _=> ?_)
  ·cbv
   ((repeat'(first|exact trivial|exact rfl|refine And.intro ?_ ?_|((first|refine aa hg hC ?_|refine aa hg hD ?_|refine goX hg _ z0 hy rfl ?_|refine je rfl hg 0 4 5 cB rfl rfl rfl (by decide) rfl pM pA ⟨rfl,.inl ⟨rfl,rfl⟩,rfl,zpt⟩ rfl ?_|refine dh hg rfl (by decide) h7 ?_);cbv))))
   all_goals
    rw [gd hg,<-hO]
    exact h6 () trivial _ _ (Wk.weak (wkM [some 0,none,none,some 3,some 9,some 10,some 12] zr5 ⟨.inr (wqB rfl ⟨zr5,zpt⟩),.inl rfl,.inl rfl,.inr (wqE rfl rfl),.inr (wqE rfl h5),.inr (wqE rfl hZ),.inr (wqE rfl h4),zpt⟩ (by decide) ⟨.inl rfl,.inl rfl,.inr rfl,zpt⟩ ⟨.inl rfl,.inl rfl,.inr ⟨_,rfl⟩,zpt⟩))
  cbv
  ((repeat'(rw [e1];cbv)))
  skip
  exact hB (((hb++[⟨b,f1,f2,y.style.grow,y.style.shrink,d1,d2,d3,d4⟩],hv),M2,A2,E2)) _ _ ⟨h3,⟨hJ,hG,aE,by rw [nl];exact j1,by rw [nl];exact j2⟩⟩ (Wk.weak (wkM [some 0,none,none,some 3,some 4,some 5,some 6] zr5 ⟨.inr (wqB rfl ⟨zr5,zpt⟩),.inl rfl,.inl rfl,.inr (wqE rfl rfl),.inr (wqE rfl h5),.inr (wqE rfl hZ),.inr (wqE rfl h4),zpt⟩ (by decide) ⟨.inl rfl,.inl rfl,.inr rfl,zpt⟩ ⟨.inl rfl,.inl rfl,.inr ⟨_,rfl⟩,zpt⟩))
def Eb(k:ag)(w:Bool)(base size:Int):Int:=if qB k w base= -1 then rD k w size else-1
theorem lu(ns:List ae)(hl:ns.length<=1048576)(kid:Int)(y:ae)(h1:isN ns kid=true)(hy:ns[(kid-1).toNat]? =some y)(rtl kp:Bool)(C D:AC)(n:Int)(s:ag)(row:Bool)(al ac:aM)(kn:Int)(K:LLA)(size:Int):PC0 262 [.c (.eptr [.view (vwA ae.ac ns),.B rtl,.B kp,C,D] 0),.agg (nwL n s row al ac kn (.view K)),ai kid,ai size] (.i (Eb y.style (!row) (knS ac) size)):=by
 obtain⟨V,hV⟩:=nmE (vwA ae.ac ns)
 obtain⟨Ky,ha⟩:=nmE (vw aj y.kids)
 obtain⟨Ry,hb⟩:=nmE (vw aD.c y.table.rules)
 have b2:=bj h1
 have cy:=bh ns kid y b2.1 (by have:=b2.2.1;omega) hy V Ky Ry hV ha hb
 have ck:=dr ac.mode ac.n
 change PC0 _ _ (.i (knS ac))at ck
 have cf:=eI y.style (!row) (knS ac)
 have cr:=jl y.style (!row) size
 rw [<-hV]
 unfold Eb
 obtain⟨am,an⟩:=ac
 generalize hKN:knS ⟨am,an⟩=KN at ck cf
 generalize hFX:qB y.style (!row) KN=FX at cf
 generalize hRT:rD y.style (!row) size=RT at cr
 clear hKN hFX hRT hV ha hb
 by_cases q1:FX= -1
 all_goals
  first|rw [if_pos q1]|rw [if_neg q1]
  refine aU func262 fun g F hg hF=> ?_
  have t0:g .q .neq (FX) ((-1))=decide (¬(FX)=((-1))):=by rw [bB hg];exact dN _ _
  (first|rw [zqu q1]at t0|rw [zqt q1]at t0|rw [zqu (Classical.not_not.2 q1)]at t0|rw [zqt (Classical.not_not.2 q1)]at t0)
  cbv
  ((repeat'((first|rw [t0]|refine ad hg cy ?_|refine aa hg ck ?_|refine aa hg cf ?_|refine ad hg cr ?_);cbv)))
  exact aO hF rfl
theorem nB(ns:List ae)(hl:ns.length<=1048576)(rtl keeps:Bool)(bx:Bx)(c L:Nat)(n:Int)(p:Pl)(zs:List Int)(hkl:p.kids.length<20)(hzs:zs.length=p.kids.length)(hk:∀ha∈p.kids,isN ns ha=true)(hbx:∀ha∈p.kids,zk (vwA ae.ac ns) rtl keeps bx c L ha)(st:St)(hm:st.1.length+20*c<=L)(hq:st.2.length+20*c<=L):
  SE prog 213 (sR (vwA ae.ac ns) rtl keeps) (SM st.1) (SA st.2) [.c (.ptr 0 0 0),.agg (nwL n p.s p.row p.al p.ac (knS p.wide) (.view (vw aj p.kids))),.c (.view (vw aj zs))] (.t (.c (.view (vw aw.c (vk bx p rtl ns (p.kids.zip zs) st).1)))) (SM (vk bx p rtl ns (p.kids.zip zs) st).2.1) (SA (vk bx p rtl ns (p.kids.zip zs) st).2.2):=by
 refine xh (t:=210) (k:=7) (V:=vw aw.c (vk bx p rtl ns (p.kids.zip zs) st).1) (R:= .o 5) ?_ (zm (c:=aw.c) (k:=7) fun _=>rfl) mO rfl rfl rfl
 have xa:=yg hzs
 have hL:=fun{i t} h=>BS (a:=p.kids) (b:=zs) (i:=i) (t:=t) h
 have xu:(p.kids.zip zs).length=p.kids.length:=by rw [zqB];omega
 have h4:∀ha∈p.kids,∃y,ns[(ha-1).toNat]? =some y:=fun ha h=>(bj (hk ha h)).2.2
 have h9:=fun ha(h:ha∈p.kids) y hy Ky Ry=>bh ns ha y (bj (hk ha h)).1 (by have:=(bj (hk ha h)).2.1;omega) hy (vwA ae.ac ns) Ky Ry rfl
 have hj:=fun ha(h:ha∈p.kids) K a0 a1 c0 c1 st h1 h2=>nC (vwA ae.ac ns) rtl keeps bx c L ha (hbx ha h) n p.s p.row p.al p.ac (knS p.wide) K a0 a1 c0 c1 st h1 h2
 have hS:=fun ha(h:ha∈p.kids) y hy C D K=>fW ns hl ha y (hk ha h) hy rtl false keeps C D n p.s p.row p.al p.ac (knS p.wide) K
 have hX:=fun ha(h:ha∈p.kids) y hy C D K=>lw ns hl ha y (hk ha h) hy rtl keeps C D n p.s p.row p.al p.ac (knS p.wide) K
 have ho:=fun ha(h:ha∈p.kids) y hy C D K size=>lu ns hl ha y (hk ha h) hy rtl keeps C D n p.s p.row p.al p.ac (knS p.wide) K size
 have hr:=fun ha(h:ha∈p.kids) al ac st=>zg (hbx ha h) p.row al ac st
 clear hbx
 obtain⟨f,hf⟩:∃f,f=fun ha al ac st=>uQ bx p.row ha al ac st:=⟨_,rfl⟩
 have xm:∀ha al ac st,uQ bx p.row ha al ac st=f ha al ac st:=fun k a b st=>by rw [hf]
 simp only [xm]at hj hr
 obtain⟨it,hJ⟩:∃it,it=fun ks st=>vk bx p rtl ns ks st:=⟨_,rfl⟩
 have hD:∀ks st,vk bx p rtl ns ks st=it ks st:=fun ks st=>by rw [hJ]
 have xo:∀st,it [] st=([],st):=fun st=>by rw [hJ];rfl
 have hu:∀k z r st,it ((k,z)::r) st=(Jt p (kst ns k) rtl (f k ⟨3,z⟩ (BR p (kst ns k) rtl z) st).1::(it r (f k ⟨3,z⟩ (BR p (kst ns k) rtl z) st).2).1,(it r (f k ⟨3,z⟩ (BR p (kst ns k) rtl z) st).2).2):=fun k z r st=>by rw [hJ,hf];rfl
 simp only [hD]
 clear hf hJ xm hD
 obtain⟨s0,row,w,h,iw,ih,al,ac,kids⟩:=p
 dsimp only at *
 change∀ha(hh:ha∈kids) y,ns[(ha-1).toNat]? =some y->∀C D K,PC0 _ _ (.t (agP (kcX ⟨s0,row,w,h,iw,ih,al,ac,kids⟩ y.style rtl)))at hX
 obtain⟨V,hV⟩:=nmE (vwA ae.ac ns)
 rw [<-hV]at h9
 simp only [<-hV]at hj hS hX ho
 rw [<-hV]
 obtain⟨Z,hZ⟩:=nmE (vw aj zs)
 have xF:=lmV hZ
 have xk:∀{i:Nat}{v:Int},zs[i]? =some v->Z[i]? =some [.J v]:=fun h=>by rw [hZ];exact aY h
 obtain⟨K,hK⟩:=nmE (vw aj kids)
 have xD:=lmV hK
 have hj:=fun ha h=>hj ha h K
 have hS:=fun ha h y hy C D=>hS ha h y hy C D K
 have hX:=fun ha h y hy C D=>hX ha h y hy C D K
 have ho:=fun ha h y hy C D=>ho ha h y hy C D K
 rw [<-hK,<-hZ]
 rw [<-hK]at xa
 obtain⟨am,an⟩:=ac
 have ck:=dr am an
 obtain⟨KN,hA⟩:=nmE (knS ⟨am,an⟩)
 change PC0 _ _ (.i (knS ⟨am,an⟩))at ck
 rw [<-hA]at ck
 simp only [<-hA]at ho
 have hu:∀k z r st y,ns[(k-1).toNat]? =some y->∀kc,kc=kcX ⟨s0,row,w,h,iw,ih,al,⟨am,an⟩,kids⟩ y.style rtl->∀ax,ax=(if kc.mode≠3/\Eb y.style (!row) KN z≠ -1 then(⟨3,me y.style (!row) KN (Eb y.style (!row) KN z)⟩:aM)else kc)->∀rr,rr=f k ⟨3,z⟩ ax st->it ((k,z)::r) st=((⟨me y.style (!row) KN (alB (!row) rr.1),(sdB s0 y.style rtl false (knS iw)).before,(sdB s0 y.style rtl false (knS iw)).behind,(sdB s0 y.style rtl false (knS iw)).autoBefore,(sdB s0 y.style rtl false (knS iw)).autoBehind,BQ s0 y.style,tB rr.1.base (me y.style (!row) KN (alB (!row) rr.1))⟩:aw)::(it r rr.2).1,(it r rr.2).2):=fun k z r st y hy kc xs ax xr rr hN=>by
  rw [hu,il hy]
  have e:BR ⟨s0,row,w,h,iw,ih,al,⟨am,an⟩,kids⟩ y.style rtl z=ax:=by
   rw [xr]
   unfold BR Eb
   dsimp only
   rw [<-xs,<-hA]
   by_cases q1:kc.mode=3<;>by_cases q2:qB y.style (!row) KN= -1<;>by_cases q3:rD y.style (!row) z= -1<;>simp [q1,q2,q3]
  rw [e,<-hN,hA];rfl
 obtain⟨qs,hM⟩:=nmE (kids.zip zs)
 rw [<-hM]at xa xu
 simp only [<-hM]at hL
 rw [<-hM]
 obtain⟨R,hR⟩:=nmE (it qs st)
 rw [<-hR]
 generalize hKW:knS iw=KW at hj hS hX ho hu
 obtain⟨M0,hW⟩:=nmE (SM st.1)
 obtain⟨A0,hT⟩:=nmE (SA st.2)
 have xA:az M0=true:=by rw [hW];exact bT _
 have xx:az A0=true:=by rw [hT];exact bU _
 rw [<-hW,<-hT]
 have xb:qs.length<=1048576:=by omega
 have xE:R.1.length=qs.length:=by
  rw [hR]
  have:∀ks:List (Int×Int),(∀k∈ks,k.1∈kids)->∀st,(it ks st).1.length=ks.length:=by
   intro ks
   induction ks with
   |nil=>intro _ st;rw [xo];rfl
   |cons k ks ih=>
    intro hs st
    obtain⟨k,z⟩:=k
    obtain⟨y,hy⟩:=h4 k (hs (k,z) (zpd ..))
    rw [hu k z ks st y hy _ rfl _ rfl _ rfl]
    simp [ih (fun x hx=>hs x (zpe _ hx))]
  refine this qs (fun k xt=> ?_) st
  obtain⟨i,hi⟩:=List.mem_iff_getElem?.1 xt
  exact zqd (hL hi).1
 clear hA hV hM
 refine mL [(12,.hand)] func213 (fun g xC hd F h8 xn hg hF=> ?_)
 cbv
 (repeat'(refine ad hg ck ?_;cbv))
 replace hK:=xa
 refine j8 ([(12,.hand)]) ([]) h8 xn hg bn (by kernel_rfl) K (fun t=>lc (aj t.1)) qs hK xb (fun z(s:(List aw×St)×LLA×LLA×LLA)=>[(0,.p 0),(2,.v Z),(4,.p 3),(7,.o 6),(8,.i (KN)),(9,.i (z))]) (fun z(s:(List aw×St)×LLA×LLA×LLA)=>[.bx 91 5 [.view V,.B rtl,.B keeps,.own 4,.own 5],.gn,.gn,.bx 180 68 (nwL n s0 row al ⟨am,an⟩ KW (.view K)),.rw ⟨157,10,s.2.1⟩,.rw ⟨172,6,s.2.2.1⟩,.rw ⟨210,7,s.2.2.2⟩]) (fun z(s:(List aw×St)×LLA×LLA×LLA)=>s.2.1=SM s.1.2.1/\s.2.2.1=SA s.1.2.2/\s.2.2.2=vw aw.c s.1.1/\s.1.2.1.length<=st.1.length+s.1.1.length*c/\s.1.2.2.length<=st.2.length+s.1.1.length*c) (fun(s:(List aw×St)×LLA×LLA×LLA) rest=>(s.1.1++(it rest s.1.2).1,(it rest s.1.2).2)) (R) (([],st),M0,A0,[]) (by rw [hR];rfl) ⟨hW,hT,rfl,by simp,by simp⟩ (Wk.weak (wkM [some 0,none,none,some 3,some 1,some 2,some 4] zr6 ⟨.inr (wqB rfl ⟨zr5,zpt⟩),.inl rfl,.inl rfl,.inr (wqE rfl rfl),.inr (wqE rfl xA),.inr (wqE rfl xx),.inr (wqE rfl rfl),zpt⟩ (by decide) ⟨.inl rfl,.inl rfl,.inr rfl,zpt⟩ ⟨.inl rfl,.inl rfl,.inr ⟨_,rfl⟩,zpt⟩)) (fun z s B hz h0 hi he=> ?_) (fun z s x rest B z0 z1 z2 hx hy h0 hi hc e1 hB=> ?_)
 ·obtain⟨⟨hb,hv⟩,M1,A1,E⟩:=s
  obtain⟨i1,i2,i3,i4,i5⟩:=hi
  dsimp only at i1 i2 i3 h0
  obtain rfl:R=(hb,hv):=by rw [<-h0,xo];simp
  have xB:az M1=true:=by rw [i1];exact bT _
  have xy:az A1=true:=by rw [i2];exact bU _
  have pE:=pmV i3
  cbv;rw [he];cbv
  subst i1 i2 i3
  exact Dc 4 5 6 hF rfl rfl rfl rfl rfl rfl (by decide) rfl xB xy pE
 ·obtain⟨⟨hb,hv⟩,M1,A1,E⟩:=s
  obtain⟨x0,x1⟩:=x
  obtain⟨i1,i2,i3,i4,i5⟩:=hi
  dsimp only at i1 i2 i3 i4 i5 h0 hy
  have xp:=hL hx
  have ht:x0∈kids:=zqd xp.1
  have xl:=xk xp.2
  obtain⟨y,hE⟩:=h4 x0 ht
  have hp:=hu x0 x1 rest hv y hE _ rfl _ rfl _ rfl
  have hn:=fun al ac=>hr x0 ht al ac hv
  have hG:hb.length+1<=20:=by
   have:=congrArg (fun r=>r.1.length) h0
   rw [hp]at this
   simp only [zqe,zqx]at this
   omega
  rw [hp]at h0
  clear hp
  have xq:E.length<=1048576:=by rw [i3,ar];omega
  have pM:az M1=true:=by rw [i1];exact bT _
  have pA:az A1=true:=by rw [i2];exact bU _
  have kM:∀y∈M1,y.length=10:=by rw [i1];exact JN _
  have dM:∀y∈M1,y.all dat=true:=by rw [i1];exact AX _
  have kA:∀y∈A1,y.length=6:=by rw [i2];exact JO _
  have dA:∀y∈A1,y.all dat=true:=by rw [i2];exact AY _
  have cS:=hS x0 ht y hE (.view M1) (.view A1)
  have cX:=hX x0 ht y hE (.view M1) (.view A1)
  have cR:=ho x0 ht y hE (.view M1) (.view A1) x1
  have cy:=h9 x0 ht y hE _ _ rfl rfl
  obtain⟨Ky,xi⟩:=nmE (vw aj y.kids)
  obtain⟨Ry,xj⟩:=nmE (vw aD.c y.table.rules)
  rw [<-xi,<-xj]at cy
  generalize hSD:sdB s0 y.style rtl false KW=SD at cS h0
  obtain⟨d0,d1,d2,d3,d4,d5,d6⟩:=SD
  obtain⟨⟨k0,k1⟩,xg⟩:∃q,q=kcX ⟨s0,row,w,h,iw,ih,al,⟨am,an⟩,kids⟩ y.style rtl:=⟨_,rfl⟩
  rw [<-xg]at cX h0
  generalize hRR:Eb y.style (!row) KN x1=RR at cR h0
  have hP:=cu y.style (!row) KN RR
  generalize hB1:me y.style (!row) KN RR=B1 at hP h0
  dsimp only at h0
  obtain⟨⟨j0,j1⟩,hw⟩:∃q,q=(if k0≠3/\RR≠ -1 then(⟨3,B1⟩:aM)else⟨k0,k1⟩):=⟨_,rfl⟩
  rw [<-hw]at h0
  have cZ:=hj x0 ht 3 x1 j0 j1 hv (vo i4 hm hG) (vo i5 hq hG)
  rw [<-i1,<-i2]at cZ
  have hn:=hn ⟨3,x1⟩ ⟨j0,j1⟩
  obtain⟨⟨bb,hH⟩,hN⟩:∃r,r=f x0 ⟨3,x1⟩ ⟨j0,j1⟩ hv:=⟨_,rfl⟩
  rw [<-hN]at cZ hn h0
  dsimp only at cZ hn h0
  have xv:=nU i4 hn.1
  have xw:=nU i5 hn.2
  have hC:alB (!row) bb=if !row then bb.wide else bb.high:=rfl
  rw [acE]at cZ
  generalize hFR:vw av.c bb.frames=FR at cZ
  obtain⟨b0,h5⟩:=nmE bb.wide
  obtain⟨b1,h6⟩:=nmE bb.high
  obtain⟨b3,h7⟩:=nmE bb.base
  rw [<-h5,<-h6,<-h7]at cZ
  rw [<-h5,<-h6]at hC
  rw [<-h7]at h0
  generalize hAL:alB (!row) bb=AL at hC h0
  have hQ:=cu y.style (!row) KN AL
  generalize hf0:me y.style (!row) KN AL=f0 at hQ h0
  have hI:=mQ b3 f0
  change PC0 _ _ (.i (tB b3 f0))at hI
  generalize hf6:tB b3 f0=f6 at hI h0
  have hO:=mU s0 y.style
  generalize hf5:BQ s0 y.style=f5 at hO h0
  obtain⟨M2,hY⟩:=nmE (SM hH.1)
  obtain⟨A2,hU⟩:=nmE (SA hH.2)
  have xd:az M2=true:=by rw [hY];exact bT _
  have xc:az A2=true:=by rw [hU];exact bU _
  rw [<-hY,<-hU]at cZ
  obtain⟨E2,xf⟩:∃E2,E2=E++[[.J f0,.J d1,.J d2,.B d3,.B d4,.J f5,.J f6]]:=⟨_,rfl⟩
  have aE:E2=vw aw.c (hb++[⟨f0,d1,d2,d3,d4,f5,f6⟩]):=by rw [xf,i3,bi];rfl
  have xz:=pmV aE
  have pE:=pmV i3
  have h3:((hb++[(⟨f0,d1,d2,d3,d4,f5,f6⟩:aw)])++(it rest hH).1,(it rest hH).2)=R:=by rw [<-h0];simp
  have nl:(hb++[(⟨f0,d1,d2,d3,d4,f5,f6⟩:aw)]).length=hb.length+1:=by simp
  have t0:g .q .neq (k0) (3)=decide (¬(k0)=(3)):=by rw [bB hg];exact dN _ _
  have t1:g .q .neq (RR) ((-1))=decide (¬(RR)=((-1))):=by rw [bB hg];exact dN _ _
  clear xi xj hN hSD i4 i5 hn hS hX ho h9 hr hu hj xg hRR hB1 hFR h5 h6 h7 hAL hf0 hf6 hf5 h4 hL xk
  by_cases q0:k0=3
  case' neg=>
   by_cases q1:RR= -1
  all_goals
   first
    |rw [if_pos ⟨by assumption,by assumption⟩]at hw
    |rw [if_neg (fun hh=>by first|exact hh.1 (by assumption)|exact hh.2 (by assumption))]at hw
   simp only [aM.mk.injEq]at hw
   obtain⟨rfl,rfl⟩:=hw
   ((first|rw [zqu q0]at t0|rw [zqt q0]at t0|rw [zqu (Classical.not_not.2 q0)]at t0|rw [zqt (Classical.not_not.2 q0)]at t0))
   (try((first|rw [zqu q1]at t1|rw [zqt q1]at t1|rw [zqu (Classical.not_not.2 q1)]at t1|rw [zqt (Classical.not_not.2 q1)]at t1)))
   cbv
   rw [hc]
   cbv
   ((repeat'((first|rw [t0]|rw [t1]|refine aa hg cy ?_|refine ad hg hP ?_|refine goX hg _ z0 hy rfl ?_|refine goX hg _ z0 xl rfl ?_|refine fj hg cS (dx (qk (r:=0) (rm:=4) (ra:=5) [.view V,.B rtl,.B keeps] rfl rfl rfl kM dM rfl kA dA) (bq rfl (ah (aq rfl) (ah (aq rfl) (ay))))) rfl ?_|refine fj hg cX (dx (qk (r:=0) (rm:=4) (ra:=5) [.view V,.B rtl,.B keeps] rfl rfl rfl kM dM rfl kA dA) (bq rfl (ah (aq rfl) (ay)))) rfl ?_|refine fj hg cR (dx (qk (r:=0) (rm:=4) (ra:=5) [.view V,.B rtl,.B keeps] rfl rfl rfl kM dM rfl kA dA) (bq rfl (ah (aq rfl) (ah (aq rfl) (ay))))) rfl ?_);cbv)))
   refine db hg xn bn [0,1,2,3,4,5,6,7,8,9,10,11,12] (.op 13 [] (.op 14 [] (.op 15 [] .done .none) .none) (.op 14 [] (.op 13 [] (.op 15 [] .done .none) .none) .none)) (by kernel_rfl) (by kernel_rfl) (S:=Unit) (fun _=>True) (fun _=>[(0,.p 0),(2,.v Z),(4,.p 3),(7,.o 6),(8,.i (KN)),(9,.i (z)),(10,.p 7),(11,.p 8),(14,.p 9)]) (fun _=>[.bx 91 5 [.view V,.B rtl,.B keeps,.own 4,.own 5],.gn,.gn,.bx 180 68 (nwL n s0 row al ⟨am,an⟩ KW (.view K)),.rw ⟨157,10,M2⟩,.rw ⟨172,6,A2⟩,.rw ⟨210,7,E⟩,.bx 36 60 (lc (ag.c y.style)),.bx 210 7 [.J d0,.J d1,.J d2,.B d3,.B d4,.J d5,.J d6],.bx 127 4 [.J b0,.J b1,.J b3,.view FR]]) (fun BL xe=> ?_) (fun _ _=> ?_)
   ·cbv
    ((repeat'(first|exact trivial|exact rfl|refine And.intro ?_ ?_|((first|refine goX hg _ z0 hy rfl ?_|refine goX hg _ z0 xl rfl ?_|refine je rfl hg 0 4 5 cZ rfl rfl rfl (by decide) rfl pM pA ⟨rfl,.inl ⟨rfl,rfl⟩,rfl,.inl ⟨rfl,rfl⟩,.inl ⟨rfl,rfl⟩,zpt⟩ rfl ?_);cbv))))
    all_goals first
     |exact xe () trivial _ _ (Wk.weak (wkM [some 0,none,none,some 3,some 10,some 11,some 6,some 7,some 8,some 12] zr9 ⟨.inr (wqB rfl ⟨zr5,zpt⟩),.inl rfl,.inl rfl,.inr (wqE rfl rfl),.inr (wqE rfl xd),.inr (wqE rfl xc),.inr (wqE rfl pE),.inr (wqE rfl rfl),.inr (wqE rfl rfl),.inr (wqE rfl rfl),zpt⟩ (by decide) ⟨.inl rfl,.inl rfl,.inr rfl,zpt⟩ ⟨.inl rfl,.inl rfl,.inr ⟨_,rfl⟩,zpt⟩))
     |exact xe () trivial _ _ (Wk.weak (wkM [some 0,none,none,some 3,some 11,some 12,some 6,some 7,some 8,some 10] zr9 ⟨.inr (wqB rfl ⟨zr5,zpt⟩),.inl rfl,.inl rfl,.inr (wqE rfl rfl),.inr (wqE rfl xd),.inr (wqE rfl xc),.inr (wqE rfl pE),.inr (wqE rfl rfl),.inr (wqE rfl rfl),.inr (wqE rfl rfl),zpt⟩ (by decide) ⟨.inl rfl,.inl rfl,.inr rfl,zpt⟩ ⟨.inl rfl,.inl rfl,.inr ⟨_,rfl⟩,zpt⟩))
   cbv
   cases row
   all_goals
    (try simp only [Bool.not_false,Bool.not_true,Bool.false_eq_true,if_false]at hC)
    (try simp only [Bool.not_false,Bool.not_true,if_true]at hC)
    subst hC
    (try cbv)
    ((repeat'((first|rw [e1]|refine ad hg hQ ?_|refine ad hg hI ?_|refine ad hg hO ?_|refine dh hg rfl (by decide) xq ?_;cbv;rw [gd hg,<-xf]);cbv)))
    skip
    exact hB (((hb++[⟨f0,d1,d2,d3,d4,f5,f6⟩],hH),M2,A2,E2)) _ _ ⟨h3,⟨hY,hU,aE,by rw [nl];exact xv,by rw [nl];exact xw⟩⟩ (Wk.weak (wkM [some 0,none,none,some 3,some 4,some 5,some 11] zr6 ⟨.inr (wqB rfl ⟨zr5,zpt⟩),.inl rfl,.inl rfl,.inr (wqE rfl rfl),.inr (wqE rfl xd),.inr (wqE rfl xc),.inr (wqE rfl xz),zpt⟩ (by decide) ⟨.inl rfl,.inl rfl,.inr rfl,zpt⟩ ⟨.inl rfl,.inl rfl,.inr ⟨_,rfl⟩,zpt⟩))
theorem Hi{p:Pl}{S:List aw}{Z:List Int}{c i kd z:Int}{y:ae}{sd:aw}(h0:0<=i)(hS:S[i.toNat]? =some sd)(hK:p.kids[i.toNat]? =some kd)(hZ:Z[i.toNat]? =some z)(hy:ns[(kd-1).toNat]? =some y):
  yV p ns S Z c i=if Ax sd=true/\qB y.style (!p.row) (knS p.ac)= -1/\Eb y.style (!p.row) (knS p.ac) z= -1 then Dd sd (me y.style (!p.row) (knS p.ac) (wrap64 (c-wrap64 (sd.before+sd.behind))))else sd:=by
 rw [De h0 hS hK hZ hy]
 unfold Eb
 by_cases q:qB y.style (!p.row) (knS p.ac)= -1<;>simp [q]
theorem p9(ns:List ae)(hl:ns.length<=1048576)(rtl kp:Bool)(C D:AC)(n:Int)(p:Pl)(hkl:p.kids.length<=1048576)(hk:∀hb∈p.kids,isN ns hb=true)(LL:List (List Int))(CC:List Int)(S0:List aw)(ZZ:List Int)(hsl:S0.length=p.kids.length)(hzl:ZZ.length=p.kids.length)(hLl:LL.length<=1048576)(hLb:∀l∈LL,l.length<=1048576)(hlo:∀i:Int,0<=i->i<(p.kids.length:Int)->0<=qM i 0 LL/\qM i 0 LL<(CC.length:Int)):
  bX prog 216 [.c (.eptr [.view (vwA ae.ac ns),.B rtl,.B kp,C,D] 0),.agg (nwL n p.s p.row p.al p.ac (knS p.wide) (.view (vw aj p.kids))),.c (.view (vwA lnA LL)),.c (.view (vw aj CC)),.c (.view (vw aw.c S0)),.c (.view (vw aj ZZ))] fun res hS=>res= .o 0/\hS=[⟨210,7,vw aw.c ((ixs 0 S0.length).map fun i=>yV p ns S0 ZZ (elZ CC (qM i 0 LL)) i)⟩]:=by
 have h5:∀hb∈p.kids,∃y,ns[(hb-1).toNat]? =some y:=fun hb h=>(bj (hk hb h)).2.2
 have hJ:=fun hb(h:hb∈p.kids) y hy Ky Ry=>bh ns hb y (bj (hk hb h)).1 (by have:=(bj (hk hb h)).2.1;omega) hy (vwA ae.ac ns) Ky Ry rfl
 have hn:=fun hb(h:hb∈p.kids) y hy K size=>lu ns hl hb y (hk hb h) hy rtl kp C D n p.s p.row p.al p.ac (knS p.wide) K size
 have hD:=fun i=>oU LL i hLl hLb
 obtain⟨fR,hG⟩:∃f,f=fun i=>yV p ns S0 ZZ (elZ CC (qM i 0 LL)) i:=⟨_,rfl⟩
 have ha:=fun{i:Int}{sd kd z y}(h0:0<=i) h1 h2 h3 h4=>Hi (p:=p) (ns:=ns) (S:=S0) (Z:=ZZ) (c:=elZ CC (qM i 0 LL)) (i:=i) (kd:=kd) (z:=z) (y:=y) (sd:=sd) h0 h1 h2 h3 h4
 have h8:∀i,yV p ns S0 ZZ (elZ CC (qM i 0 LL)) i=fR i:=fun i=>by rw [hG]
 rw [<-hG]
 simp only [h8]at ha
 clear h8 hG
 obtain⟨s0,row,w,h,iw,ih,al,ac,kids⟩:=p
 dsimp only at *
 obtain⟨V,hV⟩:=nmE (vwA ae.ac ns)
 rw [<-hV]at hJ
 simp only [<-hV]at hn
 rw [<-hV]
 obtain⟨K,hK⟩:=nmE (vw aj kids)
 have xp:=lmV hK
 have hn:=fun hb h y hy=>hn hb h y hy K
 have xe:∀{i:Nat}{v:Int},kids[i]? =some v->K[i]? =some [.J v]:=fun h=>by rw [hK];exact aY h
 obtain⟨Z,hZ⟩:=nmE (vw aj ZZ)
 have xq:=lmV hZ
 have xj:∀{i:Nat}{v:Int},ZZ[i]? =some v->Z[i]? =some [.J v]:=fun h=>by rw [hZ];exact aY h
 obtain⟨vC,hM⟩:=nmE (vw aj CC)
 have xk:=lmV hM
 have xc:∀{i:Nat}{v:Int},CC[i]? =some v->vC[i]? =some [.J v]:=fun h=>by rw [hM];exact aY h
 obtain⟨vS,hq⟩:=nmE (vw aw.c S0)
 have hr:=lmV hq
 have xn:=kmV (k:=7) hq fun _=>rfl
 obtain⟨vL,xa⟩:=nmE (vwA lnA LL)
 simp only [<-xa]at hD
 rw [<-hK,<-hZ,<-hM,<-hq,<-xa]
 obtain⟨am,an⟩:=ac
 have ck:=dr am an
 obtain⟨KN,hx⟩:=nmE (knS ⟨am,an⟩)
 change PC0 _ _ (.i (knS ⟨am,an⟩))at ck
 rw [<-hx]at ck
 simp only [<-hx]at hn ha
 obtain⟨KW,hz⟩:=nmE (knS iw)
 simp only [<-hz]at hn
 rw [<-hz]
 obtain⟨R,hR⟩:=nmE ((ixs 0 S0.length).map fR)
 rw [<-hR]
 have xg:R.length=kids.length:=by rw [hR,zql,bW,hsl]
 have xi:S0.length<=1048576:=by omega
 have pS:=pmV hq
 clear hx hz hV
 refine aU func216 fun g F hg hF=> ?_
 cbv
 refine goN hg ⟨xn,by show(0+vS.length)*48<=140737488355328;rw [hr];omega,by show 0+vS.length<=4611686018427387904;rw [hr];omega⟩ ?_
 cbv
 rw [gd hg,List.nil_append]
 cbv
 (repeat'(refine ad hg ck ?_;cbv))
 obtain⟨m,hm⟩:∃m:Int,m=(kids.length:Int):=⟨_,rfl⟩
 refine Ej hg bn (by kernel_rfl) m (by omega) (by omega) (fun z(s:List aw×LLA)=>[(0,.t (.c (.eptr [.view V,.B rtl,.B kp,C,D] 0))),(2,.v vL),(3,.v vC),(5,.v Z),(7,.p 0),(13,.o 1),(14,.i (KN)),(15,.i (z))]) (fun z(s:List aw×LLA)=>[.bx 180 68 (nwL n s0 row al ⟨am,an⟩ KW (.view K)),.rw ⟨210,7,s.2⟩]) (fun z(s:List aw×LLA)=>s.2=vw aw.c (s.1++S0.drop s.1.length)/\(s.1.length:Int)=z) (fun rest(s:List aw×LLA)=>s.1++(ixs (s.1.length:Int) rest).map fR) (R) ([],vS) (by show []++(ixs 0 m.toNat).map fR=R;rw [hR,hm,Int.toNat_natCast,hsl];rfl) ⟨hq,rfl⟩ (Wk.weak (wkG [some _,some 2] zr8 ⟨wqE rfl rfl,wqE rfl pS,zpt⟩ (by decide) aB)) (fun s B h0 hi he=> ?_) (fun z s rest B z0 z1 hk h0 hi hc e1 hB=> ?_)
 ·obtain⟨D1,E⟩:=s
  obtain⟨i1,i2⟩:=hi
  dsimp only at i1 i2 h0
  obtain rfl:D1=R:=by simpa [ixs]using h0
  have hE:E=vw aw.c D1:=by rw [i1,List.drop_of_length_le (by omega),zpr]
  have pE:=pmV hE
  have tl:g .ln E=m:=by rw [bu hg,hE,aR,xg,hm]
  rw [<-hE]at hF
  cbv
  rw [tl]
  cbv
  rw [he]
  cbv
  exact bH hF rfl pE
 ·obtain⟨D1,E⟩:=s
  obtain⟨i1,i2⟩:=hi
  dsimp only at i1 i2 h0
  have hO:z.toNat=D1.length:=by omega
  have xh:D1.length<S0.length:=by omega
  have tl:g .ln E=m:=by rw [bu hg,i1,aR,zqe,List.length_drop];omega
  obtain⟨sd,hL⟩:∃sd,S0[z.toNat]? =some sd:=⟨_,zqc (by omega)⟩
  obtain⟨kd,ht⟩:∃kd,kids[z.toNat]? =some kd:=⟨_,zqc (by omega)⟩
  obtain⟨zz,hP⟩:∃zz,ZZ[z.toNat]? =some zz:=⟨_,zqc (by omega)⟩
  have hH:kd∈kids:=zqd ht
  obtain⟨y,hN⟩:=h5 kd hH
  have ha:=ha z0 hL ht hP hN
  have hC:=xe ht
  have hY:=xj hP
  have hw:E[z.toNat]? =some (lc (aw.c sd)):=by rw [i1];exact aY (by rw [hO,wq rfl,<-hO];exact hL)
  have xl:z<aJ E:=by rw [i1,aR];simp;omega
  have ho:∀v,E.set z.toNat (lc (aw.c v))=vw aw.c ((D1++[v])++S0.drop (D1++[v]).length):=fun v=>by
   rw [i1,hO,na,ve rfl xh];simp
  have h3:(D1++[fR z])++(ixs ((D1++[fR z]).length:Int) rest).map fR=R:=by
   rw [<-h0,show ixs (D1.length:Int) (rest+1)=(D1.length:Int)::ixs ((D1.length:Int)+1) rest from rfl,zqA,i2,zqe,zqm,show((D1.length+1:Nat):Int)=z+1 by omega]
   simp
  have nl:((D1++[fR z]).length:Int)=z+1:=by simp;omega
  obtain⟨lo,hp⟩:=nmE (qM z 0 LL)
  have xm:z<(kids.length:Int):=by omega
  have hd:=hlo z z0 xm
  have hu:=hD z
  rw [<-hp]at hu hd ha
  obtain⟨c,h6⟩:=nmE (elZ CC lo)
  have hU:=xc (ld hd.1 hd.2)
  have hI:=hd.1
  rw [<-h6]at hU ha
  have cy:=hJ kd hH y hN _ _ rfl rfl
  obtain⟨Ky,hW⟩:=nmE (vw aj y.kids)
  obtain⟨Ry,hX⟩:=nmE (vw aD.c y.table.rules)
  rw [<-hW,<-hX]at cy
  have cR:=hn kd hH y hN zz
  obtain⟨y0,y1,y2,y3,y4,y5,y6⟩:=sd
  have cI:=pv ⟨y0,y1,y2,y3,y4,y5,y6⟩
  obtain⟨fb,h7⟩:=nmE (Ax ⟨y0,y1,y2,y3,y4,y5,y6⟩)
  rw [<-h7]at cI ha
  dsimp only at ha
  have cF:=eI y.style (!row) KN
  generalize hFX:qB y.style (!row) KN=FX at cF ha
  generalize hRR:Eb y.style (!row) KN zz=RR at cR ha
  have cB:=jf ⟨y0,y1,y2,y3,y4,y5,y6⟩
  change PC0 _ _ (.i (wrap64 (y1+y2)))at cB
  obtain⟨BB,hT⟩:=nmE (wrap64 (y1+y2))
  rw [<-hT]at ha cB
  obtain⟨CB,hv⟩:=nmE (wrap64 (c-BB))
  rw [<-hv]at ha
  have cN:=cu y.style (!row) KN CB
  generalize hf0:me y.style (!row) KN CB=f0 at cN ha
  simp only [Dd]at ha
  have hs:=mQ y6 f0
  change PC0 _ _ (.i (tB y6 f0))at hs
  generalize hf6:tB y6 f0=f6 at hs ha
  have t2:g .w .sub .i64 c BB=CB:=by rw [bZ hg,hv]
  have t4:g .q .eql (FX) ((-1))=decide ((FX)=((-1))):=by rw [bg hg];exact zqn _ _
  have t5:g .q .eql (RR) ((-1))=decide ((RR)=((-1))):=by rw [bg hg];exact zqn _ _
  have hf:fR z=⟨y0,y1,y2,y3,y4,y5,y6⟩->E=vw aw.c ((D1++[fR z])++S0.drop (D1++[fR z]).length):=fun h=>by rw [h,<-ho,xf hw]
  have hQ:=pmV i1
  have hh:E[z.toNat]? =some [.J y0,.J y1,.J y2,.B y3,.B y4,.J y5,.J y6]:=hw
  clear hv hT hf6 hf0 hRR hFX h7 hW hX h6 hp hd ht hP hL hD hn hJ hlo h5
  cbv
  rw [tl]
  cbv
  rw [hc]
  cbv
  ((repeat'((first|refine aa hg cy ?_|refine goX hg _ z0 hC rfl ?_);cbv)))
  refine goY hg z0 xl fun j hj h9=> ?_
  cbv
  rw [<-hj]at hh ho hw
  refine⟨_,hh,?_⟩
  cbv
  ((repeat'(refine aa hg cI ?_;cbv)))
  cases fb
  case false=>
   simp only [Bool.false_eq_true,false_and,if_false]at ha
   cbv
   ((repeat'(rw [e1];cbv)))
   exact hB ((D1++[fR z],E)) _ _ ⟨h3,⟨hf ha,nl⟩⟩ (Wk.weak (wkG [some _,some 1] zr8 ⟨wqE rfl rfl,wqE rfl hQ,zpt⟩ (by decide) aB))
  by_cases q4:FX= -1
  case neg=>
   rw [if_neg (fun h=>q4 h.2.1)]at ha
   (first|rw [zqu q4]at t4|rw [zqt q4]at t4|rw [zqu (Classical.not_not.2 q4)]at t4|rw [zqt (Classical.not_not.2 q4)]at t4)
   cbv
   ((repeat'((first|rw [t4]|rw [e1]|refine aa hg cF ?_);cbv)))
   exact hB ((D1++[fR z],E)) _ _ ⟨h3,⟨hf ha,nl⟩⟩ (Wk.weak (wkG [some _,some 1] zr8 ⟨wqE rfl rfl,wqE rfl hQ,zpt⟩ (by decide) aB))
  by_cases q5:RR= -1
  case neg=>
   rw [if_neg (fun h=>q5 h.2.2)]at ha
   (first|rw [zqu q4]at t4|rw [zqt q4]at t4|rw [zqu (Classical.not_not.2 q4)]at t4|rw [zqt (Classical.not_not.2 q4)]at t4)
   (first|rw [zqu q5]at t5|rw [zqt q5]at t5|rw [zqu (Classical.not_not.2 q5)]at t5|rw [zqt (Classical.not_not.2 q5)]at t5)
   cbv
   ((repeat'((first|rw [t4]|rw [t5]|rw [e1]|refine aa hg cF ?_|refine aa hg cR ?_|refine goX hg _ z0 hC rfl ?_|refine goX hg _ z0 hY rfl ?_);cbv)))
   exact hB ((D1++[fR z],E)) _ _ ⟨h3,⟨hf ha,nl⟩⟩ (Wk.weak (wkG [some _,some 1] zr8 ⟨wqE rfl rfl,wqE rfl hQ,zpt⟩ (by decide) aB))
  rw [if_pos ⟨rfl,q4,q5⟩]at ha
  (first|rw [zqu q4]at t4|rw [zqt q4]at t4|rw [zqu (Classical.not_not.2 q4)]at t4|rw [zqt (Classical.not_not.2 q4)]at t4)
  (first|rw [zqu q5]at t5|rw [zqt q5]at t5|rw [zqu (Classical.not_not.2 q5)]at t5|rw [zqt (Classical.not_not.2 q5)]at t5)
  have hA:(g .st E j [.J f0,.J y1,.J y2,.B y3,.B y4,.J y5,.J y6])[j]? =some [.J f0,.J y1,.J y2,.B y3,.B y4,.J y5,.J y6]:=by rw [jv hg];exact zpm h9
  have xb:j<(g .st E j [.J f0,.J y1,.J y2,.B y3,.B y4,.J y5,.J y6]).length:=(zqb.1 hA).1
  cbv
  ((repeat'((first|rw [t4]|rw [t5]|rw [t2]|rw [e1]|refine aa hg cF ?_|refine aa hg cR ?_|refine aa hg hu ?_|refine aa hg cB ?_|refine aa hg cN ?_|refine aa hg hs ?_|refine goX hg _ z0 hC rfl ?_|refine goX hg _ z0 hY rfl ?_|refine goX hg _ hI hU rfl ?_|refine C7 hg z0 hj h9 ?_|refine C7 hg z0 hj xb ?_|refine⟨_,hh,?_⟩|refine⟨_,hA,?_⟩);cbv)))
  generalize hG1:g .st _ j _=E2
  have xd:E2=g .st (g .st E j [.J f0,.J y1,.J y2,.B y3,.B y4,.J y5,.J y6]) j [.J f0,.J y1,.J y2,.B y3,.B y4,.J y5,.J f6]:=hG1.symm
  have aE:E2=vw aw.c ((D1++[fR z])++S0.drop (D1++[fR z]).length):=by
   rw [ha,<-ho,xd,jv hg,jv hg,List.set_set];rfl
  have xo:=pmV aE
  exact hB ((D1++[fR z],E2)) _ _ ⟨h3,⟨aE,nl⟩⟩ (Wk.weak (wkG [some _,some 1] zr8 ⟨wqE rfl rfl,wqE rfl xo,zpt⟩ (by decide) aB))
variable {Q:Exit->List (Nat×AV)->EH->Prop}
theorem EG{g:Gd}(hg:g= @G0 bp0 prog 3 f148.ntmps)(V:LLA)(rtl keeps:Bool)(n:Int)(s0:ag)(row:Bool)(al ac:aM)(KW w0 w1 h0' h1':Int)(K M A0:LLA)(pM:az M=true)(pA:az A0=true)(IN GP AC':Int)(vI vL vZ vS vC vT:LLA)(fl ft fr fb:Int)(zo:Int)(E:LLA)(pE:az E=true)(ZZ:List Int)(hvZ:vZ=vw aj ZZ)(l:List Int)(L:LLA)(hL:L=vw aj l)(hll:l.length<=1048576)(hlb:∀i∈l,0<=i/\i<(ZZ.length:Int))
  (hQ:∀(z:Int)(E2:LLA),E2=vw aj (l.map (elZ ZZ))->Q (.exit 2) [(120,.t (abl (false))),(119,.i (g .ln L)),(118,.v L),(117,.i (z)),(0,.p 0),(5,.p 3),(6,.p 4),(7,.p 5),(8,.p 6),(9,.v vI),(10,.v vZ),(11,.i (IN)),(12,.i (GP)),(13,.v vL),(14,.v vS),(15,.v vC),(16,.i (AC')),(18,.v vT),(19,.p 9),(20,.p 10),(21,.i (zo)),(22,.v L),(23,.o 12),(24,.i (z))] [.bx 91 5 [.view V,.B rtl,.B keeps,.own 7,.own 8],.gn,.gn,.bx 180 68 (nwL n s0 row al ac KW (.view K)),.bx 122 2 [.J w0,.J w1],.bx 122 2 [.J h0',.J h1'],.bx 127 4 [.J 0,.J 0,.J 0,.N],.rw ⟨157,10,M⟩,.rw ⟨172,6,A0⟩,.bx 34 4 [.J fl,.J ft,.J fr,.J fb],.bx 127 4 [.J 0,.J 0,.J 0,.own 11],.rw ⟨45,5,E⟩,.rw ⟨3,1,E2⟩]):
  g .L (mE (jx f148) 1) Q [(0,.p 0),(5,.p 3),(6,.p 4),(7,.p 5),(8,.p 6),(9,.v vI),(10,.v vZ),(11,.i (IN)),(12,.i (GP)),(13,.v vL),(14,.v vS),(15,.v vC),(16,.i (AC')),(18,.v vT),(19,.p 9),(20,.p 10),(21,.i (zo)),(22,.v L),(23,.o 12),(24,.i (0))] [.bx 91 5 [.view V,.B rtl,.B keeps,.own 7,.own 8],.gn,.gn,.bx 180 68 (nwL n s0 row al ac KW (.view K)),.bx 122 2 [.J w0,.J w1],.bx 122 2 [.J h0',.J h1'],.bx 127 4 [.J 0,.J 0,.J 0,.N],.rw ⟨157,10,M⟩,.rw ⟨172,6,A0⟩,.bx 34 4 [.J fl,.J ft,.J fr,.J fb],.bx 127 4 [.J 0,.J 0,.J 0,.own 11],.rw ⟨45,5,E⟩,.rw ⟨3,1,[]⟩]:=by
 obtain⟨R,hR⟩:=nmE (l.map (elZ ZZ))
 rw [<-hR]at hQ
 have hm:R.length<=1048576:=by rw [hR,zql];exact hll
 refine aV hg bn (by kernel_rfl) L (fun x=>lc (aj x)) l hL hll (fun z(s:List Int×LLA)=>[(0,.p 0),(5,.p 3),(6,.p 4),(7,.p 5),(8,.p 6),(9,.v vI),(10,.v vZ),(11,.i (IN)),(12,.i (GP)),(13,.v vL),(14,.v vS),(15,.v vC),(16,.i (AC')),(18,.v vT),(19,.p 9),(20,.p 10),(21,.i (zo)),(22,.v L),(23,.o 12),(24,.i (z))]) (fun z(s:List Int×LLA)=>[.bx 91 5 [.view V,.B rtl,.B keeps,.own 7,.own 8],.gn,.gn,.bx 180 68 (nwL n s0 row al ac KW (.view K)),.bx 122 2 [.J w0,.J w1],.bx 122 2 [.J h0',.J h1'],.bx 127 4 [.J 0,.J 0,.J 0,.N],.rw ⟨157,10,M⟩,.rw ⟨172,6,A0⟩,.bx 34 4 [.J fl,.J ft,.J fr,.J fb],.bx 127 4 [.J 0,.J 0,.J 0,.own 11],.rw ⟨45,5,E⟩,.rw ⟨3,1,s.2⟩]) (fun z(s:List Int×LLA)=>s.2=vw aj s.1) (fun(s:List Int×LLA) rest=>s.1++rest.map (elZ ZZ)) (R) ([],[]) (by rw [hR];rfl) rfl (Wk.weak (wkM [some 0,none,none,some 3,some 4,some 5,some 6,some 7,some 8,some 9,some 10,some 11,some 12] ⟨rfl,rfl,rfl,rfl,rfl,rfl,rfl,rfl,rfl,rfl,rfl,rfl,rfl,rfl,rfl,rfl,rfl,rfl,rfl,rfl,zpt⟩ ⟨.inr (wqB rfl ⟨zr5,zpt⟩),.inl rfl,.inl rfl,.inr (wqE rfl rfl),.inr (wqE rfl rfl),.inr (wqE rfl rfl),.inr (wqE rfl rfl),.inr (wqE rfl pM),.inr (wqE rfl pA),.inr (wqE rfl rfl),.inr (wqB rfl ⟨zr4,zpt⟩),.inr (wqE rfl pE),.inr (wqE rfl rfl),zpt⟩ (by decide) ⟨.inl rfl,.inl rfl,.inr rfl,zpt⟩ ⟨.inl rfl,.inl rfl,.inr ⟨_,rfl⟩,zpt⟩)) (fun z s B hz h0 hi he=> ?_) (fun z s x rest B z0 z1 z2 hx hy h0 hi hc e1 hB=> ?_)
 ·obtain⟨hb,E1⟩:=s
  dsimp only at hi h0
  obtain rfl:hb=R:=by simpa using h0
  have hQ:=hQ z E1 hi
  cbv
  rw [he]
  cbv
  exact hQ
 ·obtain⟨hb,E1⟩:=s
  dsimp only at hi h0
  have hd:=hlb x (zqd hx)
  have hh:=hd.1
  obtain⟨v,hv⟩:=nmE (elZ ZZ x)
  have hk:vZ[x.toNat]? =some [.J v]:=by rw [hvZ,hv];exact aY (ld hh hd.2)
  have ha:=congrArg List.length h0
  rw [zqe]at ha
  have hj:E1.length<=1048576:=by rw [hi,ar];omega
  have h3:(hb++[v])++rest.map (elZ ZZ)=R:=by rw [<-h0,hv];simp
  have aE:E1++[[.J v]]=vw aj (hb++[v]):=by rw [hi,bi];rfl
  obtain⟨E2,hf⟩:∃E2,E2=E1++[[.J v]]:=⟨_,rfl⟩
  rw [<-hf]at aE
  have hl:=pmV aE
  clear ha hv hd hR
  cbv
  rw [hc]
  cbv
  ((repeat'((first|rw [e1]|refine goX hg _ z0 hy rfl ?_|refine goX hg _ hh hk rfl ?_|refine dh hg rfl (by decide) hj ?_;cbv;rw [gd hg,<-hf]);cbv)))
  exact hB ((hb++[v],E2)) _ _ ⟨h3,aE⟩ (Wk.weak (wkM [some 0,none,none,some 3,some 4,some 5,some 6,some 7,some 8,some 9,some 10,some 11,some 14] ⟨rfl,rfl,rfl,rfl,rfl,rfl,rfl,rfl,rfl,rfl,rfl,rfl,rfl,rfl,rfl,rfl,rfl,rfl,rfl,rfl,zpt⟩ ⟨.inr (wqB rfl ⟨zr5,zpt⟩),.inl rfl,.inl rfl,.inr (wqE rfl rfl),.inr (wqE rfl rfl),.inr (wqE rfl rfl),.inr (wqE rfl rfl),.inr (wqE rfl pM),.inr (wqE rfl pA),.inr (wqE rfl rfl),.inr (wqB rfl ⟨zr4,zpt⟩),.inr (wqE rfl pE),.inr (wqE rfl hl),zpt⟩ (by decide) ⟨.inl rfl,.inl rfl,.inr rfl,zpt⟩ ⟨.inl rfl,.inl rfl,.inr ⟨_,rfl⟩,zpt⟩))
theorem ED{g:Gd}(hg:g= @G0 bp0 prog 3 f148.ntmps)(V:LLA)(rtl keeps:Bool)(n:Int)(s0:ag)(row:Bool)(al ac:aM)(KW w0 w1 h0' h1':Int)(K M A0:LLA)(pM:az M=true)(pA:az A0=true)(IN GP AC':Int)(vI vL vZ vS vC vT:LLA)(fl ft fr fb:Int)(zo:Int)(wd hgh iw ih:aM)(kids:List Int)(hK:K=vw aj kids)(ZZ CC ST PS:List Int)(S1:List aw)(hvZ:vZ=vw aj ZZ)(hvC:vC=vw aj CC)(hvT:vT=vw aj ST)(hvS:vS=vw aw.c S1)(vP:LLA)(hvP:vP=vw aj PS)
  (hzl:ZZ.length=kids.length) (hsl:S1.length=kids.length) (hf:l7 s0=⟨fl,ft,fr,fb⟩) (z0':0<=zo) (c:Int) (hcc:CC[zo.toNat]? =some c) (st:Int) (hst:ST[zo.toNat]? =some st) (lb:Int) (l:List Int) (hPl:PS.length=l.length) (L vW:LLA) (hL:L=vw aj l) (hvW:vW=vw aj (l.map (elZ ZZ))) (hll:l.length<=1048576) (done:List av) (hld:l=ixs done.length l.length) (hle:done.length+l.length<=kids.length)
  (E:LLA) (hE:E=vw av.c (done++List.replicate (kids.length-done.length) ⟨0,0,0,0,0⟩))
  (hQ:∀(z:Int)(E:LLA)(D:List av),D=done++sQ ⟨s0,row,wd,hgh,iw,ih,al,ac,kids⟩ rtl IN AC' ZZ S1 (elZ ST zo) c lb PS 0 l->E=vw av.c (D++List.replicate (kids.length-D.length) ⟨0,0,0,0,0⟩)->Q (.exit 4) [(150,.t (abl (false))),(149,.i (g .ln L)),(148,.v L),(147,.i (z)),(0,.p 0),(5,.p 3),(6,.p 4),(7,.p 5),(8,.p 6),(9,.v vI),(10,.v vZ),(11,.i (IN)),(12,.i (GP)),(13,.v vL),(14,.v vS),(15,.v vC),(16,.i (AC')),(18,.v vT),(19,.p 9),(20,.p 10),(21,.i (zo)),(22,.v L),(23,.v vW),(25,.v vP),(26,.i (lb)),(27,.i (z))] [.bx 91 5 [.view V,.B rtl,.B keeps,.own 7,.own 8],.gn,.gn,.bx 180 68 (nwL n s0 row al ac KW (.view K)),.bx 122 2 [.J w0,.J w1],.bx 122 2 [.J h0',.J h1'],.bx 127 4 [.J 0,.J 0,.J 0,.N],.rw ⟨157,10,M⟩,.rw ⟨172,6,A0⟩,.bx 34 4 [.J fl,.J ft,.J fr,.J fb],.bx 127 4 [.J 0,.J 0,.J 0,.own 11],.rw ⟨45,5,E⟩]):
  g .L (mE (jx f148) 2) Q [(0,.p 0),(5,.p 3),(6,.p 4),(7,.p 5),(8,.p 6),(9,.v vI),(10,.v vZ),(11,.i (IN)),(12,.i (GP)),(13,.v vL),(14,.v vS),(15,.v vC),(16,.i (AC')),(18,.v vT),(19,.p 9),(20,.p 10),(21,.i (zo)),(22,.v L),(23,.v vW),(25,.v vP),(26,.i (lb)),(27,.i (0))] [.bx 91 5 [.view V,.B rtl,.B keeps,.own 7,.own 8],.gn,.gn,.bx 180 68 (nwL n s0 row al ac KW (.view K)),.bx 122 2 [.J w0,.J w1],.bx 122 2 [.J h0',.J h1'],.bx 127 4 [.J 0,.J 0,.J 0,.N],.rw ⟨157,10,M⟩,.rw ⟨172,6,A0⟩,.bx 34 4 [.J fl,.J ft,.J fr,.J fb],.bx 127 4 [.J 0,.J 0,.J 0,.own 11],.rw ⟨45,5,E⟩]:=by
 obtain⟨q,hq⟩:∃q:Pl,q=⟨s0,row,wd,hgh,iw,ih,al,ac,kids⟩:=⟨_,rfl⟩
 rw [<-hq]at hQ
 obtain⟨D1,hr⟩:=nmE (done++sQ q rtl IN AC' ZZ S1 (elZ ST zo) c lb PS 0 l)
 have h6:D1.length=done.length+l.length:=by rw [hr,zqe,mB]
 have hQ:=fun z E=>hQ z E D1 hr
 have hF:(done++sQ q rtl IN AC' ZZ S1 (elZ ST zo) c lb PS 0 l,ixs 0 done.length++l)=(D1,ixs 0 D1.length):=Prod.ext hr.symm (by show ixs 0 done.length++l=ixs 0 D1.length;rw [h6,ki,Int.zero_add,<-hld])
 have h5:vC[zo.toNat]? =some [.J c]:=by rw [hvC];exact aY hcc
 have xa:vT[zo.toNat]? =some [.J st]:=by rw [hvT];exact aY hst
 have h1:elZ ST zo=st:=by have:=oG hst;rwa [Int.toNat_of_nonneg z0']at this
 rw [h1]at hF
 have xf:=pmV hE
 have hW:∀{i:Nat}{v:Int},PS[i]? =some v->vP[i]? =some [.J v]:=fun h=>by rw [hvP];exact aY h
 have hX:∀{i:Nat}{v:Int},l[i]? =some v->vW[i]? =some [.J (elZ ZZ v)]:=fun h=>by rw [hvW];exact aY (by rw [zqi,h];rfl)
 have hD:=lB s0 rtl
 have hA:=kJ s0 rtl
 generalize hv:lN s0 rtl=mb at hD;replace hv:=hv.symm
 generalize hu:mc s0 rtl=cb at hA;replace hu:=hu.symm
 clear hld hcc hr hst h1
 refine aV hg bn (by kernel_rfl) L (fun x=>lc (aj x)) l hL hll (fun z(s:Int×List av×LLA)=>[(0,.p 0),(5,.p 3),(6,.p 4),(7,.p 5),(8,.p 6),(9,.v vI),(10,.v vZ),(11,.i (IN)),(12,.i (GP)),(13,.v vL),(14,.v vS),(15,.v vC),(16,.i (AC')),(18,.v vT),(19,.p 9),(20,.p 10),(21,.i (zo)),(22,.v L),(23,.v vW),(25,.v vP),(26,.i (lb)),(27,.i (z))]) (fun z(s:Int×List av×LLA)=>[.bx 91 5 [.view V,.B rtl,.B keeps,.own 7,.own 8],.gn,.gn,.bx 180 68 (nwL n s0 row al ac KW (.view K)),.bx 122 2 [.J w0,.J w1],.bx 122 2 [.J h0',.J h1'],.bx 127 4 [.J 0,.J 0,.J 0,.N],.rw ⟨157,10,M⟩,.rw ⟨172,6,A0⟩,.bx 34 4 [.J fl,.J ft,.J fr,.J fb],.bx 127 4 [.J 0,.J 0,.J 0,.own 11],.rw ⟨45,5,s.2.2⟩]) (fun z(s:Int×List av×LLA)=>s.1=z/\s.2.2=vw av.c (s.2.1++List.replicate (kids.length-s.2.1.length) ⟨0,0,0,0,0⟩)) (fun(s:Int×List av×LLA) rest=>(s.2.1++sQ q rtl IN AC' ZZ S1 st c lb PS s.1 rest,ixs 0 s.2.1.length++rest)) ((D1,ixs 0 D1.length)) (0,done,E) hF ⟨rfl,hE⟩ (Wk.weak (wkM [some 0,none,none,some 3,some 4,some 5,some 6,some 7,some 8,some 9,some 10,some 11] ⟨rfl,rfl,rfl,rfl,rfl,rfl,rfl,rfl,rfl,rfl,rfl,rfl,rfl,rfl,rfl,rfl,rfl,rfl,rfl,rfl,rfl,rfl,zpt⟩ ⟨.inr (wqB rfl ⟨zr5,zpt⟩),.inl rfl,.inl rfl,.inr (wqE rfl rfl),.inr (wqE rfl rfl),.inr (wqE rfl rfl),.inr (wqE rfl rfl),.inr (wqE rfl pM),.inr (wqE rfl pA),.inr (wqE rfl rfl),.inr (wqB rfl ⟨zr4,zpt⟩),.inr (wqE rfl xf),zpt⟩ (by decide) ⟨.inl rfl,.inl rfl,.inr rfl,zpt⟩ ⟨.inl rfl,.inl rfl,.inr ⟨_,rfl⟩,zpt⟩)) (fun z s B hz h0 hi he=> ?_) (fun z s x rest B z0 z1 z2 hx hy h0 hi hc e1 hB=> ?_)
 ·obtain⟨j,D,E1⟩:=s
  obtain⟨i1,i2⟩:=hi
  obtain⟨hj,hk⟩:=Prod.mk.inj h0
  dsimp only at i1 i2
  obtain rfl:D=D1:=by simpa [sQ]using hj
  have hQ:=hQ z E1 i2
  cbv
  rw [he]
  cbv
  exact hQ
 ·obtain⟨j,D,E1⟩:=s
  obtain⟨i1,i2⟩:=hi
  obtain⟨hj,hk⟩:=Prod.mk.inj h0
  dsimp only at i1 i2 hj hk hy
  subst i1
  have hl:D.length<D1.length:=by have:=congrArg List.length hj;simp [sQ]at this;omega
  have h2:x=(D.length:Int):=by
   have e:=congrArg (fun l=>l[D.length]?) hk
   simp only [zqg (show(ixs 0 D.length).length<=D.length by rw [bW];exact zpk _),bW,Nat.sub_self,zqw]at e
   rw [xB _ _ _ hl]at e
   simpa using e
  have hh:0<=x:=by omega
  have hU:x.toNat=D.length:=by omega
  have h8:D.length<S1.length:=by omega
  obtain⟨sd,hS⟩:∃sd,S1[x.toNat]? =some sd:=⟨_,zqc (by omega)⟩
  obtain⟨kd,hP⟩:∃kd,kids[x.toNat]? =some kd:=⟨_,zqc (by omega)⟩
  obtain⟨zz,h4⟩:∃zz,ZZ[x.toNat]? =some zz:=⟨_,zqc (by omega)⟩
  have xc:j.toNat<l.length:=(zqb.1 hx).1
  obtain⟨pj,hd⟩:∃v,PS[j.toNat]? =some v:=⟨_,zqc (by omega)⟩
  have hZ:elZ PS j=pj:=by have:=oG hd;rwa [Int.toNat_of_nonneg z0]at this
  have h7:=hW hd
  have e3:elZ ZZ x=zz:=by have:=oG h4;rwa [Int.toNat_of_nonneg hh]at this
  have hI:=hX hx
  rw [e3]at hI
  have hV:K[x.toNat]? =some [.J kd]:=by rw [hK];exact aY hP
  have h9:vS[x.toNat]? =some (lc (aw.c sd)):=by rw [hvS];exact aY hS
  have hR:List.replicate (kids.length-D.length) (⟨0,0,0,0,0⟩:av)=⟨0,0,0,0,0⟩::List.replicate (kids.length-(D.length+1)) ⟨0,0,0,0,0⟩:=by
   rw [show kids.length-D.length=(kids.length-(D.length+1))+1 by omega,List.replicate_succ]
  have xe:x<aJ E1:=by rw [i2,aR];simp;omega
  have hm:E1[x.toNat]? =some (lc (av.c ⟨0,0,0,0,0⟩)):=by rw [i2];exact aY (by rw [zqg (by omega),hU,Nat.sub_self,hR];rfl)
  have ha:∀v,E1.set x.toNat (lc (av.c v))=vw av.c ((D++[v])++List.replicate (kids.length-(D++[v]).length) ⟨0,0,0,0,0⟩):=fun v=>by
   rw [i2,hU,na,List.set_append_right _ _ (zpk _),Nat.sub_self,hR,List.set_cons_zero,zqe,zqm,zqC];rfl
  have e2:elZ kids x=kd:=by have:=oG hP;rwa [Int.toNat_of_nonneg hh]at this
  have hC:=lA IN pj zz mb
  generalize hs:FL IN pj zz mb=a1 at hC;replace hs:=hs.symm
  have cP:=nH sd c lb
  generalize hw:GY sd c lb=pa at cP;replace hw:=hw.symm
  obtain⟨sp,hT⟩:=nmE (wrap64 (st+pa))
  have hp:=lA AC' sp sd.size cb
  generalize ht:FL AC' sp sd.size cb=b1 at hp;replace ht:=ht.symm
  obtain⟨X1,hJ⟩:=nmE (wrap64 (b1+fl))
  obtain⟨X2,hM⟩:=nmE (wrap64 (a1+ft))
  obtain⟨X3,hN⟩:=nmE (wrap64 (a1+fl))
  obtain⟨X4,hO⟩:=nmE (wrap64 (b1+ft))
  have ho:He q rtl IN AC' ZZ S1 st c lb pj x=if row then⟨kd,X3,X4,zz,sd.size⟩else⟨kd,X1,X2,sd.size,zz⟩:=by
   rw [hJ,hM,hN,hO,ht,hT,hw,hs,hv,hu,hq]
   unfold He
   dsimp only
   rw [xi hh hS,e2,e3,hf]
  obtain⟨fm,hb⟩:=nmE (He q rtl IN AC' ZZ S1 st c lb pj x)
  rw [<-hb]at ho
  have h3:((D++[fm])++sQ q rtl IN AC' ZZ S1 st c lb PS (j+1) rest,ixs 0 (D++[fm]).length++rest)=(D1,ixs 0 D1.length):=Prod.ext (by rw [<-hj,hb,<-hZ];simp [sQ]) (by
   show ixs 0 (D++[fm]).length++rest=ixs 0 D1.length
   rw [<-hk,zqe,zqm,om,Int.zero_add,<-h2];simp)
  obtain⟨E2,hG⟩:=nmE (E1.set x.toNat (lc (av.c fm)))
  have ha:=ha fm
  rw [<-hG]at ha
  have xg:=pmV ha
  have t1:g .w .add .i64 st pa=sp:=by rw [aG hg,hT]
  have t2:g .w .add .i64 fl b1=X1:=by rw [aG hg,hJ,Int.add_comm]
  have t3:g .w .add .i64 ft a1=X2:=by rw [aG hg,hM,Int.add_comm]
  have t4:g .w .add .i64 fl a1=X3:=by rw [aG hg,hN,Int.add_comm]
  have t5:g .w .add .i64 ft b1=X4:=by rw [aG hg,hO,Int.add_comm]
  obtain⟨y0,y1,y2,y3,y4,y5,y6⟩:=sd
  dsimp only at ho hp
  clear h2 hl hU h8 hk hb hJ hM hN hO ht hT hw hs hv hu hq hf e2 e3 hS hP h4 hR i2 hvZ hvC hvT hvS hvP hK hZ hF hd xc hvW hW hX hPl
  have hH:vS[x.toNat]? =some [.J y0,.J y1,.J y2,.B y3,.B y4,.J y5,.J y6]:=h9
  have hn:∃e,E1[x.toNat]? =some e/\e.length=5:=⟨_,hm,rfl⟩
  clear hm
  cases row
  all_goals
   (try simp only [Bool.false_eq_true,if_false]at ho)
   (try simp only [if_true]at ho)
   subst ho
   cbv
   rw [hc]
   cbv
   ((repeat'((first|rw [t1]|rw [t2]|rw [t3]|rw [t4]|rw [t5]|refine aa hg hD ?_|refine aa hg hA ?_|refine aa hg hC ?_|refine aa hg hp ?_|refine aa hg cP ?_|refine goX hg _ z0 hy rfl ?_|refine goX hg _ hh hH rfl ?_|refine goX hg _ z0 h7 rfl ?_|refine goX hg _ z0 hI rfl ?_|refine goX hg _ hh hV rfl ?_|refine goX hg _ z0' h5 rfl ?_|refine goX hg _ z0' xa rfl ?_);cbv)))
   refine goY hg hh xe fun j2 hY xd=> ?_
   cbv
   obtain⟨e,he,xb⟩:=hn
   ((repeat'(rw [t1];cbv)))
   refine goN hg ⟨_,by rw [hY];exact he,xb⟩ ?_
   cbv
   rw [jv hg,hY]
   dsimp only [AT.cells]
   first
    |rw [show E1.set x.toNat [.imm (.int .i64 kd),.imm (.int .i64 X3),.imm (.int .i64 X4),.imm (.int .i64 zz),.imm (.int .i64 y0)]=E2 from hG.symm]
    |rw [show E1.set x.toNat [.imm (.int .i64 kd),.imm (.int .i64 X1),.imm (.int .i64 X2),.imm (.int .i64 y0),.imm (.int .i64 zz)]=E2 from hG.symm]
   ((repeat'(rw [e1];cbv)))
   exact hB ((j+1,_,E2)) _ _ ⟨h3,⟨rfl,ha⟩⟩ (Wk.weak (wkM [some 0,none,none,some 3,some 4,some 5,some 6,some 7,some 8,some 9,some 10,some 11] ⟨rfl,rfl,rfl,rfl,rfl,rfl,rfl,rfl,rfl,rfl,rfl,rfl,rfl,rfl,rfl,rfl,rfl,rfl,rfl,rfl,rfl,rfl,zpt⟩ ⟨.inr (wqB rfl ⟨zr5,zpt⟩),.inl rfl,.inl rfl,.inr (wqE rfl rfl),.inr (wqE rfl rfl),.inr (wqE rfl rfl),.inr (wqE rfl rfl),.inr (wqE rfl pM),.inr (wqE rfl pA),.inr (wqE rfl rfl),.inr (wqB rfl ⟨zr4,zpt⟩),.inr (wqE rfl xg),zpt⟩ (by decide) ⟨.inl rfl,.inl rfl,.inr rfl,zpt⟩ ⟨.inl rfl,.inl rfl,.inr ⟨_,rfl⟩,zpt⟩))
theorem qc(xs:List af)(ss:List Int)(gap inner js:Int)(hl:xs.length<=1048576)(hs:ss.length<=1048576):bX prog 276 [.c (.view (vw af.c xs)),.c (.view (vw aj ss)),ai gap,ai inner,ai js] fun res xo=>∃e:Int,res= .tup [.c (.own 0),ai e]/\xo=[⟨3,1,vw aj (alg xs ss gap inner js)⟩]:=by
 have cK:=w8 xs ss gap inner hl hs
 have cO:=gD xs ss gap hl hs
 have cF:PC0 303 [.c (.view (vw af.c xs)),.c (.view (vw aj ss)),ai gap,ai inner] (.i (wrap64 (inner-wrap64 (iv xs ss gap)))):=by
  generalize hV:vw af.c xs=V at cO;replace hV:=hV.symm
  generalize hW:vw aj ss=W at cO;replace hW:=hW.symm
  generalize hO:wrap64 (iv xs ss gap)=O at cO
  obtain⟨R,hR⟩:=nmE (wrap64 (inner-O))
  rw [<-hR]
  refine aU func303 fun g F hg hF=> ?_
  have e:g .w .sub .i64 inner O=R:=by rw [bZ hg,hR]
  cbv
  (repeat'((first|rw [e]|refine ad hg cO ?_);cbv))
  exact aO hF rfl
 have cS:=cj (wrap64 (inner-wrap64 (iv xs ss gap)))
 have cA:=tr xs hl
 have cE:=eb (alF xs ss gap inner) (auN xs)
 have cL:=nK (alF xs ss gap inner) (xs.length:Int) js
 have cB:=fun(h:(xs.length:Int)<=12)=>kF (alF xs ss gap inner) (xs.length:Int) js (by omega) h
 change PC0 _ _ (.i (alF xs ss gap inner))at cS
 have hd:al5 xs ss gap inner=false->alg xs ss gap inner js=[]:=fun h=>by rw [alg,if_pos h]
 have hb:al5 xs ss gap inner=true->alg xs ss gap inner js=ye (alE xs ss gap inner) (alS xs (alF xs ss gap inner) js) gap (xs.length:Int) 0 (al0 xs (alF xs ss gap inner) js) 0 (xs.zip ss):=fun h=>by rw [alg,h];rfl
 have h3:=AP xs
 have xj:al5 xs ss gap inner=true->(xs.length:Int)<=12/\ss.length=xs.length:=fun h=>by
  simp only [al5,eo,zqs,zqp]at h;exact⟨h.2.1.2,h.2.2.1⟩
 obtain⟨AL,xM⟩:=nmE (alg xs ss gap inner js)
 rw [<-xM]at hd hb⊢
 have hI:alE xs ss gap inner=if 0<auN xs/\0<alF xs ss gap inner then evn (alF xs ss gap inner) (auN xs)else []:=rfl
 have hJ:∀i,alS xs (alF xs ss gap inner) js i=if auN xs=0 then btw (alF xs ss gap inner) (xs.length:Int) js i else 0:=fun _=>rfl
 have hu:al0 xs (alF xs ss gap inner) js=if auN xs=0 then led (alF xs ss gap inner) (xs.length:Int) js else 0:=rfl
 have hh:=fun i(h0:0<=i)(h1:i<(xs.length:Int))=>Fw (alF xs ss gap inner) (xs.length:Int) js h0 h1
 generalize hD:wrap64 (inner-wrap64 (iv xs ss gap))=D at cS cF
 generalize hE:alE xs ss gap inner=EX at hI hb;replace hE:=hE.symm
 obtain⟨SP,xS⟩:=nmE (alS xs (alF xs ss gap inner) js)
 obtain⟨A0,xL⟩:=nmE (al0 xs (alF xs ss gap inner) js)
 rw [<-xS]at hJ hb
 rw [<-xL]at hu hb
 generalize hM:led (alF xs ss gap inner) (xs.length:Int) js=LD at cL hu;replace hM:=hM.symm
 obtain⟨SC,xR⟩:=nmE (spc (alF xs ss gap inner) (xs.length:Int) js)
 rw [<-xR]at cB hh
 obtain⟨BW,xN⟩:=nmE (btw (alF xs ss gap inner) (xs.length:Int) js)
 rw [<-xN]at hJ hh
 generalize hfr:alF xs ss gap inner=fr at cE cL cB hI hu cS
 generalize xf:auN xs=au at cA cE hI hJ hu h3;replace xf:=xf.symm
 have xE:(xs.length:Int)<=1048576:=by omega
 have xD:0<=(xs.length:Int):=by omega
 generalize hn:(xs.length:Int)=n at cL cB hb xj hh xE xD h3;replace hn:=hn.symm
 generalize hC:al5 xs ss gap inner=C at cK xj hd hb
 have h6:(xs.zip ss).length<=1048576:=by rw [zqB];omega
 have xG:= @Gp _ _ xs ss
 have xV:=Js (c:=fun x=>lc (af.c x)) (xs:=xs) (ys:=ss)
 have hw:ss.length=xs.length->auN ((xs.zip ss).map (·.1))=auN xs:=fun h=>by rw [show(xs.zip ss).map (fun x=>x.1)=xs from by simpa using Js (c:=fun x=>x) h.symm]
 rw [<-xf]at hw
 generalize h7:xs.zip ss=zs at hb h6 xG;replace h7:=h7.symm
 obtain⟨V,hV⟩:=nmE (vw af.c xs)
 have xX:=lmV hV
 obtain⟨W,hW⟩:=nmE (vw aj ss)
 have xY:=lmV hW
 rw [<-hV]at cK cF cA
 rw [<-hW]at cK cF
 rw [<-hV,<-hW]
 have xT:aJ V=n:=by rw [hV,aR,hn]
 refine aU func276 fun g F hg hF=> ?_
 cases hC2:C
 ·rw [hC2]at cK
  replace hd:=hd hC2
  cbv
  (repeat'(refine ad hg cK ?_;cbv))
  exact EN hF (.tup [.c (.own 0),ai 0]) [⟨3,1,[]⟩] _ (wkG [some 0] ⟨zr2,zpt⟩ ⟨wqE rfl rfl,zpt⟩ (by decide) aB) ⟨0,rfl,by rw [hd];rfl⟩
 rw [hC2]at cK
 replace hb:=hb hC2
 obtain⟨xi,xF⟩:=xj hC2
 replace cB:=cB xi
 replace hw:=hw xF
 replace hV:V=zs.map (fun t=>lc (af.c t.1)):=by rw [h7,xV xF.symm,hV];rfl
 have t4:g .ln V=n:=by rw [bu hg,xT]
 rw [<-h7]at hw
 have t1:g .q .gtr (au) (0)=decide ((0)<(au)):=di hg _ _
 have t2:g .q .gtr (fr) (0)=decide ((0)<(fr)):=di hg _ _
 have t3:g .q .eql (au) (0)=decide ((au)=(0)):=by rw [bg hg];exact zqn _ _
 have hM:au=0->A0=LD:=fun h=>by rw [hu,if_pos h]
 have ho:¬au=0->A0=0:=fun h=>by rw [hu,if_neg h]
 have hE:∀k:Int,0<=k->k<au->0<au->0<fr->(vw aj (evn fr au))[k.toNat]? =some [.J (elZ EX k)]:=fun k k0 k1 h1 h2=>by
  rw [hI,if_pos ⟨h1,h2⟩]
  exact aY (ld k0 (by rw [ig,oD (by omega) (by omega)];exact k1))
 have xt:¬(0<au/\0<fr)->∀k:Int,elZ EX k=0:=fun h k=>by rw [hI,if_neg h];exact Dj k
 have hN:¬au=0->∀i:Int,SP i=0:=fun h i=>by rw [hJ,if_neg h]
 have ht:au=0->∀i:Int,0<=i->i+1<n->(vw aj SC)[i.toNat]? =some [.J (SP i)]:=fun h i i0 i1=>by
  have:=hh i i0 (by omega)
  rw [if_pos i1]at this
  rw [hJ,if_pos h]
  exact aY this
 generalize xd:vw aj (evn fr au)=YE at cE hE;replace xd:=xd.symm
 generalize xe:vw aj SC=YS at cB ht;replace xe:=xe.symm
 clear xd xe hI hJ hu hh
 cbv
 (repeat'((first|refine ad hg cK ?_|refine ad hg cF ?_|refine ad hg cS ?_|refine ad hg cA ?_);cbv))
 refine mkI hg (by decide) h3.1 (by omega) ?_
 cbv
 generalize hG:g .rp au _=GZ
 rw [t4]
 refine mkI hg (by decide) xD xE ?_
 cbv
 generalize hH:g .rp n _=SZ
 replace hG:GZ=vw aj (List.replicate au.toNat 0):=by rw [<-hG,yP hg];exact qT aj _ 0
 replace hH:SZ=vw aj (List.replicate n.toNat 0):=by rw [<-hH,yP hg];exact qT aj _ 0
 have xw:∀k:Int,0<=k->k<au->GZ[k.toNat]? =some [.J 0]:=fun k k0 k1=>by rw [hG];exact aY (c:=aj) (x:=0) (by rw [List.getElem?_replicate,if_pos (by omega)])
 have xB:∀k:Int,0<=k->k<n->SZ[k.toNat]? =some [.J 0]:=fun k k0 k1=>by rw [hH];exact aY (c:=aj) (x:=0) (by rw [List.getElem?_replicate,if_pos (by omega)])
 have xm:=kmV (k:=1) hG fun _=>rfl
 have h9:=dmV hG
 have xI:=kmV (k:=1) hH fun _=>rfl
 have xp:=dmV hH
 clear hG hH
 have xW:∃(GV SV:LLA),(∀k:Int,0<=k->k<au->GV[k.toNat]? =some [.J (elZ EX k)])/\(∀i:Int,0<=i->i+1<n->SV[i.toNat]? =some [.J (SP i)])/\
   ((au=0/\GV=GZ/\SV=YS/\A0=LD)\/(0<au/\¬0<fr/\GV=GZ/\SV=SZ/\A0=0)\/(0<au/\0<fr/\GV=YE/\SV=SZ/\A0=0)):=by
  have h1:¬(0<au/\0<fr)->∀k:Int,0<=k->k<au->GZ[k.toNat]? =some [.J (elZ EX k)]:=fun h k k0 k1=>by rw [xt h];exact xw k k0 k1
  have h2:¬au=0->∀i:Int,0<=i->i+1<n->SZ[i.toNat]? =some [.J (SP i)]:=fun h i i0 i1=>by rw [hN h];exact xB i i0 (by omega)
  by_cases ha:au=0
  ·exact⟨GZ,YS,h1 (by omega),ht ha,.inl ⟨ha,rfl,rfl,hM ha⟩⟩
  ·have hp:0<au:=by have:=h3.1;omega
   by_cases hf:0<fr
   ·exact⟨YE,SZ,fun k k0 k1=>hE k k0 k1 hp hf,h2 ha,.inr (.inr ⟨hp,hf,rfl,rfl,ho ha⟩)⟩
   ·exact⟨GZ,SZ,h1 (by omega),h2 ha,.inr (.inl ⟨hp,hf,rfl,rfl,ho ha⟩)⟩
 obtain⟨GV,SV,xb,xA,hP⟩:=xW
 clear hM ho hE xt hN ht xw xB
 rcases hP with⟨ha,hg1,hs1,hA⟩|⟨ha,hf,hg1,hs1,hA⟩|⟨ha,hf,hg1,hs1,hA⟩
 case' inl=>
  rw [zqt (show¬0<au by omega)]at t1
  rw [zqu ha]at t3
  rw [<-hA]at cL
  subst hg1 hs1
  have h8:=xm
  have hY:=h9
  (repeat'((first|rw [t1]|rw [t3]|rw [t4]|refine ad hg cL ?_|refine ad hg cB ?_);cbv))
  refine aV hg bn (by kernel_rfl) V (fun t=>lc (af.c t.1)) zs hV h6 (fun z(s:Int×Int×List Int×LLA)=>[(0,.v V),(1,.v W),(2,.i (gap)),(12,.o 0),(15,.v GV),(16,.i (s.1)),(17,.v SV),(18,.i (s.2.1)),(19,.i (z))]) (fun z(s:Int×Int×List Int×LLA)=>[.rw ⟨3,1,s.2.2.2⟩]) (fun z(s:Int×Int×List Int×LLA)=>s.2.2.2=vw aj s.2.2.1/\(s.2.2.1.length:Int)=z/\0<=s.2.1) (fun(s:Int×Int×List Int×LLA) rest=>(s.2.2.1++ye EX SP gap n (s.2.2.1.length:Int) s.1 s.2.1 rest,s.2.1+auN (rest.map (fun x=>x.1)))) ((AL,au)) (A0,0,[],[]) (by rw [hb,<-hw];simp) ⟨rfl,rfl,zpc 0⟩ (bG (sl1 1 GV) (jE rfl h8 hY) (Wk.weak (wkG [some 0] zr9 ⟨wqE rfl rfl,zpt⟩ (by decide) aB))) (fun z s B hz h0 hi he=> ?_) (fun z s x rest B z0 z1 z2 hx hy h0 hi hc e1 hB=> ?_)
 case' inr.inl=>
  rw [zqu ha]at t1
  rw [zqt hf]at t2
  rw [zqt (show¬au=0 by omega)]at t3
  subst hg1 hs1
  have h8:=xm
  have hY:=h9
  have xn:=xI
  have xa:=xp
  (repeat'((first|rw [t1]|rw [t2]|rw [t3]);cbv))
  refine aV hg bn (by kernel_rfl) V (fun t=>lc (af.c t.1)) zs hV h6 (fun z(s:Int×Int×List Int×LLA)=>[(0,.v V),(1,.v W),(2,.i (gap)),(12,.o 0),(15,.v GV),(16,.i (s.1)),(17,.v SV),(18,.i (s.2.1)),(19,.i (z))]) (fun z(s:Int×Int×List Int×LLA)=>[.rw ⟨3,1,s.2.2.2⟩]) (fun z(s:Int×Int×List Int×LLA)=>s.2.2.2=vw aj s.2.2.1/\(s.2.2.1.length:Int)=z/\0<=s.2.1) (fun(s:Int×Int×List Int×LLA) rest=>(s.2.2.1++ye EX SP gap n (s.2.2.1.length:Int) s.1 s.2.1 rest,s.2.1+auN (rest.map (fun x=>x.1)))) ((AL,au)) (A0,0,[],[]) (by rw [hb,<-hw];simp) ⟨rfl,rfl,zpc 0⟩ (bG (sl2 1 2 GV SV) (GL rfl h8 hY rfl xn xa) (Wk.weak (wkG [some 0] ⟨rfl,rfl,rfl,rfl,rfl,by rw [hA];rfl,rfl,rfl,rfl,zpt⟩ ⟨wqE rfl rfl,zpt⟩ (by decide) aB))) (fun z s B hz h0 hi he=> ?_) (fun z s x rest B z0 z1 z2 hx hy h0 hi hc e1 hB=> ?_)
 case' inr.inr=>
  rw [zqu ha]at t1
  rw [zqu hf]at t2
  rw [zqt (show¬au=0 by omega)]at t3
  subst hg1 hs1
  have h8:=xm
  have hY:=h9
  have xn:=xI
  have xa:=xp
  (repeat'((first|rw [t1]|rw [t2]|rw [t3]|refine ad hg cE ?_);cbv))
  refine aV hg bn (by kernel_rfl) V (fun t=>lc (af.c t.1)) zs hV h6 (fun z(s:Int×Int×List Int×LLA)=>[(0,.v V),(1,.v W),(2,.i (gap)),(12,.o 0),(15,.v GV),(16,.i (s.1)),(17,.v SV),(18,.i (s.2.1)),(19,.i (z))]) (fun z(s:Int×Int×List Int×LLA)=>[.rw ⟨3,1,s.2.2.2⟩]) (fun z(s:Int×Int×List Int×LLA)=>s.2.2.2=vw aj s.2.2.1/\(s.2.2.1.length:Int)=z/\0<=s.2.1) (fun(s:Int×Int×List Int×LLA) rest=>(s.2.2.1++ye EX SP gap n (s.2.2.1.length:Int) s.1 s.2.1 rest,s.2.1+auN (rest.map (fun x=>x.1)))) ((AL,au)) (A0,0,[],[]) (by rw [hb,<-hw];simp) ⟨rfl,rfl,zpc 0⟩ (bG (sl1 2 SV) (jE rfl xn xa) (Wk.weak (wkG [some 0] ⟨rfl,rfl,rfl,rfl,rfl,by rw [hA];rfl,rfl,rfl,rfl,zpt⟩ ⟨wqE rfl rfl,zpt⟩ (by decide) aB))) (fun z s B hz h0 hi he=> ?_) (fun z s x rest B z0 z1 z2 hx hy h0 hi hc e1 hB=> ?_)
 all_goals try
  have:=he
  obtain⟨a,k,hm,E⟩:=s
  obtain⟨i1,i2,i3⟩:=hi
  dsimp only at i1 i2 i3 h0
  have pE:=pmV i1
  obtain rfl:hm=AL:=by simpa [ye]using congrArg Prod.fst h0
  cbv;rw [he];cbv
  exact EN hF (.tup [.c (.own 0),ai a]) [⟨3,1,E⟩] _ (wkG [some 0] ⟨zr2,zpt⟩ ⟨wqE rfl pE,zpt⟩ (by decide) aB) ⟨a,rfl,by rw [i1]⟩
 all_goals
  obtain⟨a,k,hm,E⟩:=s
  obtain⟨⟨x0,x1,x2,x3,x4,x5,x6,x7,x8⟩,sz⟩:=x
  obtain⟨i1,i2,i3⟩:=hi
  dsimp only at i1 i2 i3 h0 hy
  have hj:=congrArg Prod.snd h0
  have hk:=congrArg Prod.fst h0
  simp only [zqA,auN]at hj
  clear h0
  have hU:=(AP (rest.map (fun x=>x.1))).1
  have xU:W[z.toNat]? =some [.J sz]:=by rw [hW];exact aY (xG hx)
  have hX:x7=true->GV[k.toNat]? =some [.J (elZ EX k)]:=fun h=>xb k i3 (by rw [h]at hj;simp only [if_true]at hj;split at hj<;>omega)
  have xg:auK k x7=if x7=true then k+1 else k:=rfl
  have hv:x8=true->GV[(auK k x7).toNat]? =some [.J (elZ EX (auK k x7))]:=fun h=>xb _ (by rw [xg];split<;>omega) (by rw [h]at hj;rw [xg];simp only [if_true]at hj;split at hj<;>split<;>simp_all<;>omega)
  have xl:z+1<n->SV[z.toNat]? =some [.J (SP z)]:=fun h=>xA z z0 h
  have xO:E.length<=1048576:=by rw [i1,ar];omega
  have hL:x7=true->g .w .add .i64 k 1=auK k x7:=fun h=>by rw [h,aG hg];exact wr1 (by omega) (by omega)
  have hK:x7=false->auK k x7=k:=fun h=>by rw [h];rfl
  have h4:0<=auK k x7/\auK k x7<=k+1/\0<=auK (auK k x7) x8:=by unfold auK;split<;>split<;>omega
  have hr:x8=true->g .w .add .i64 (auK k x7) 1=auK (auK k x7) x8:=fun h=>by rw [h,aG hg];exact wr1 (by omega) (by omega)
  have hq:x8=false->auK (auK k x7) x8=auK k x7:=fun h=>by rw [h];rfl
  obtain⟨P1,hZ⟩:=nmE (JM EX a k ⟨x0,x1,x2,x3,x4,x5,x6,x7,x8⟩)
  obtain⟨Q,hQ⟩:=nmE (wrap64 (P1+wrap64 (wrap64 (sz+x6)+auT EX (auK k x7) x8)))
  have xC:hm++ye EX SP gap n (hm.length:Int) a k ((⟨x0,x1,x2,x3,x4,x5,x6,x7,x8⟩,sz)::rest)=(hm++[P1])++ye EX SP gap n (z+1) (if z+1<n then wrap64 (wrap64 (Q+gap)+SP z)else Q) (auK (auK k x7) x8) rest:=by
   rw [i2,hQ,hZ,zqC];rfl
  rw [xC]at hk
  have nl:((hm++[P1]).length:Int)=z+1:=by simp;omega
  have xx:x7=true->g .w .add .i64 (wrap64 (a+x5)) (elZ EX k)=P1:=fun h=>by rw [aG hg,hZ,h,ny,Int.add_assoc,<-ug];rfl
  have xP:x7=false->P1=wrap64 (a+x5):=fun h=>by rw [hZ,h];show wrap64 (a+wrap64 (x5+0))=_;rw [Int.add_zero,ug]
  have xy:∀e,wrap64 (P1+wrap64 (wrap64 (sz+x6)+e))=wrap64 (wrap64 (wrap64 (P1+sz)+x6)+e):=fun e=>by
   simp only [ny,ug];rw [show P1+(sz+x6+e)=P1+sz+x6+e by omega]
  rw [xy]at hQ
  have xc:x8=true->g .w .add .i64 (wrap64 (wrap64 (P1+sz)+x6)) (elZ EX (auK k x7))=Q:=fun h=>by rw [aG hg,hQ,h];rfl
  have xQ:x8=false->Q=wrap64 (wrap64 (P1+sz)+x6):=fun h=>by rw [hQ,h];show wrap64 (wrap64 (wrap64 (P1+sz)+x6)+0)=_;rw [Int.add_zero,wT]
  have eA:g .w .add .i64 a x5=wrap64 (a+x5):=aG hg _ _
  have eB:g .w .add .i64 P1 sz=wrap64 (P1+sz):=aG hg _ _
  have eC:g .w .add .i64 (wrap64 (P1+sz)) x6=wrap64 (wrap64 (P1+sz)+x6):=aG hg _ _
  have xK:g .w .add .i64 Q gap=wrap64 (Q+gap):=aG hg _ _
  have xq:g .w .add .i64 (wrap64 (Q+gap)) (SP z)=wrap64 (wrap64 (Q+gap)+SP z):=aG hg _ _
  have t5:g .q .lss (z+1) (g .ln V)=decide (z+1<n):=by rw [ba hg,t4]
  have xk:auK (auK k x7) x8+auN (rest.map (fun x=>x.1))=au:=by
   rw [<-hj];unfold auK;split<;>split<;>omega
  obtain⟨k1,hS⟩:=nmE (auK k x7)
  rw [<-hS]at hv hL hK h4 hr hq xc xk hk
  obtain⟨k2,hT⟩:=nmE (auK k1 x8)
  rw [<-hT]at hr hq h4 xk hk
  obtain⟨G1,xu⟩:=nmE (elZ EX k)
  obtain⟨G2,xv⟩:=nmE (elZ EX k1)
  obtain⟨S1,xz⟩:=nmE (SP z)
  rw [<-xu]at hX xx
  rw [<-xv]at hv xc
  rw [<-xz]at xl xq hk
  obtain⟨z3,xH⟩:=nmE (z+1)
  rw [<-xH]at e1 t5 nl hk xl
  have aE:E++[[.J P1]]=vw aj (hm++[P1]):=by rw [i1,bi];rfl
  have xJ:az (E++[[.J P1]])=true:=by rw [aE];exact aC _ _
  obtain⟨E2,xr⟩:∃E2,E2=E++[[.J P1]]:=⟨_,rfl⟩
  rw [<-xr]at aE xJ
  have xh:0<=k1:=h4.1
  clear xg hj hU hQ xy hZ xC hS hT xu xv xz xb xA
  generalize wrap64 (a+x5)=T1 at *
  generalize wrap64 (wrap64 (P1+sz)+x6)=T3 at *
  generalize wrap64 (P1+sz)=T2 at *
  generalize wrap64 (wrap64 (Q+gap)+S1)=Q3 at *
  generalize wrap64 (Q+gap)=Q2 at *
  cases x7<;>cases x8
  all_goals
   (try obtain rfl:=xP rfl)
   (try obtain rfl:=xQ rfl)
   (try obtain rfl:=hK rfl)
   (try obtain rfl:=hq rfl)
   by_cases h5:z3<n
   all_goals
    first|rw [zqu h5]at t5|rw [zqt h5]at t5
    first|rw [if_pos h5]at hk|rw [if_neg h5]at hk
    cbv
    rw [hc]
    cbv
    (repeat'((first|rw [eA]|rw [eB]|rw [eC]|rw [xK]|rw [xq]|rw [e1]|rw [t5]|refine goX hg _ (by omega) hy rfl ?_|refine goX hg _ (by omega) xU rfl ?_|refine goX hg _ i3 (hX rfl) rfl ?_|refine goX hg _ xh (hv rfl) rfl ?_|refine goX hg _ z0 (xl h5) rfl ?_|rw [xx rfl]|rw [xc rfl]|rw [hL rfl]|rw [hr rfl]|refine dh hg rfl (by decide) xO ?_;cbv;rw [gd hg,<-xr]);cbv))
    subst xH
    exact hB ((_,k2,hm++[P1],E2)) _ _ ⟨(by dsimp only;rw [nl];exact Prod.ext hk xk),⟨aE,nl,h4.2.2⟩⟩ (Wk.weak (wkG [some 2] zr9 ⟨wqE rfl xJ,zpt⟩ (by decide) aB))
theorem nG(xs:List af)(ss:List Int)(gap inner js:Int)(hl:xs.length<=1048576)(hs:ss.length<=1048576):bX prog 218 [.c (.view (vw af.c xs)),.c (.view (vw aj ss)),ai gap,ai inner,ai js] fun res ha=>res= .o 0/\ha=[⟨3,1,vw aj (alg xs ss gap inner js)⟩]:=by
 have cP:=qc xs ss gap inner js hl hs
 generalize hV:vw af.c xs=V at cP
 generalize hW:vw aj ss=W at cP
 generalize hE:vw aj (alg xs ss gap inner js)=E at cP;replace hE:=hE.symm
 have pE:=pmV hE
 refine aU func218 fun g F hg hF=> ?_
 cbv
 refine sE hg (fM cP rfl fun res ha hq=> ?_)
 obtain⟨e,rfl,rfl⟩:=hq
 refine⟨[.rw ⟨3,1,E⟩],by simp only [zqA,List.map_nil];rw [show AB.shift _ ⟨3,1,E⟩=(⟨3,1,E⟩:AB)from congrArg (AB.mk _ _) (i6 pE)];rfl,?_⟩
 cbv
 exact bH hF rfl pE
end Go.Proofs.YtckchgoblpgpbaaGreat
