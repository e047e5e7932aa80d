/- The reference's sides that fill their lines. -/
import Derived.Test.YtckchgoblpgpbaaGreatJ5bq
set_option linter.unusedVariables false
set_option linter.unusedSimpArgs false
set_option maxHeartbeats 32000000
namespace Go.Proofs.YtckchgoblpgpbaaGreat
open Go.ChangeShapes Go.WideShapes Go.ChangeAt Go.RowKit Am Go.Proofs.Tryz
set_option maxRecDepth 100000
def B5(k:aj)(w:Bool)(base size:Int):Int:=if ph k w base= -1 then qn k w size else-1
theorem kz(ns:List af)(hl:ns.length<=1048576)(kid:Int)(y:af)(h1:isN ns kid=true)(hy:ns[(kid-1).toNat]? =some y)(rtl kp:Bool)(C D:AC)(n:Int)(s:aj)(row:Bool)(al ac:aI)(kn:Int)(K:LLA)(size:Int):PC0 262 [.c (.eptr [.view (vwA af.ac ns),.B rtl,.B kp,C,D] 0),.agg (nwL n s row al ac kn (.view K)),ai kid,ai size] (.i (B5 y.style (!row) (knS ac) size)):=by
 obtain⟨V,hV⟩:=nmE (vwA af.ac ns)
 obtain⟨Ky,hd⟩:=nmE (vw ak y.kids)
 obtain⟨Ry,he⟩:=nmE (vw aO.c y.table.rules)
 have b2:=bq h1
 have cy:=bm ns kid y b2.1 (by have:=b2.2.1;omega) hy V Ky Ry hV hd he
 have ck:=dh ac.mode ac.n
 change PC0 _ _ (.i (knS ac))at ck
 have cf:=eG y.style (!row) (knS ac)
 have cr:=i7 y.style (!row) size
 rw [<-hV]
 unfold B5
 obtain⟨am,an⟩:=ac
 obtain⟨KN,ha⟩:=nmE (knS ⟨am,an⟩);(try rw [<-ha]at ck);(try rw [<-ha]at cf);(try rw [<-ha]at⊢)
 obtain⟨FX,hb⟩:=nmE (ph y.style (!row) KN);(try rw [<-hb]at cf);(try rw [<-hb]at⊢)
 obtain⟨RT,hc⟩:=nmE (qn y.style (!row) size);(try rw [<-hc]at cr);(try rw [<-hc]at⊢)
 clear ha hb hc hV hd he
 by_cases q1:FX= -1
 all_goals
  first|rw [if_pos q1]|rw [if_neg q1]
  refine ae (aJ f262) ay func262 fun g F hg hF=> ?_
  have t0:g .q .neq (FX) ((-1))=decide (¬(FX)=((-1))):=by rw [bn hg];exact dN _ _
  (first|rw [zqu q1]at t0|rw [zqt q1]at t0|rw [zqu (Classical.not_not.2 q1)]at t0|rw [zqt (Classical.not_not.2 q1)]at t0)
  cbv
  ((repeat'((first|rw [t0]|refine ad hg cy ?_|refine aa hg ck ?_|refine aa hg cf ?_|refine ad hg cr ?_);cbv)))
  exact aV hF rfl
theorem mV(ns:List af)(hl:ns.length<=1048576)(rtl keeps:Bool)(bx:Bx)(c L:Nat)(n:Int)(p:Pl)(zs:List Int)(hkl:p.kids.length<20)(hzs:zs.length=p.kids.length)(hk:∀ha∈p.kids,isN ns ha=true)(hbx:∀ha∈p.kids,xx (vwA af.ac ns) rtl keeps bx c L ha)(st:St)(hm:st.1.length+20*c<=L)(hq:st.2.length+20*c<=L):
  SE prog 213 (sR (vwA af.ac ns) rtl keeps) (SM st.1) (SA st.2) [.c (.ptr 0 0 0),.agg (nwL n p.s p.row p.al p.ac (knS p.wide) (.view (vw ak p.kids))),.c (.view (vw ak zs))] (.t (.c (.view (vw ar.c (tF bx p rtl ns (p.kids.zip zs) st).1)))) (SM (tF bx p rtl ns (p.kids.zip zs) st).2.1) (SA (tF bx p rtl ns (p.kids.zip zs) st).2.2):=by
 refine vr (t:=210) (k:=7) (V:=vw ar.c (tF bx p rtl ns (p.kids.zip zs) st).1) (R:= .o 5) ?_ (BH (c:=ar.c) (k:=7) fun _=>rfl) pJ rfl rfl rfl
 have xi:=wB hzs
 have hM:=fun{i t} h=>zC (a:=p.kids) (b:=zs) (i:=i) (t:=t) h
 have xE:(p.kids.zip zs).length=p.kids.length:=by rw [zqB];omega
 have h9:∀ha∈p.kids,∃y,ns[(ha-1).toNat]? =some y:=fun ha h=>(bq (hk ha h)).2.2
 have xh:=fun ha(h:ha∈p.kids) y hy Ky Ry=>bm ns ha y (bq (hk ha h)).1 (by have:=(bq (hk ha h)).2.1;omega) hy (vwA af.ac ns) Ky Ry rfl
 have hj:=fun ha(h:ha∈p.kids) K a0 a1 c0 c1 st h1 h2=>mW (vwA af.ac ns) rtl keeps bx c L ha (hbx ha h) n p.s p.row p.al p.ac (knS p.wide) K a0 a1 c0 c1 st h1 h2
 have hS:=fun ha(h:ha∈p.kids) y hy C D K=>fK ns hl ha y (hk ha h) hy rtl false keeps C D n p.s p.row p.al p.ac (knS p.wide) K
 have hX:=fun ha(h:ha∈p.kids) y hy C D K=>kC ns hl ha y (hk ha h) hy rtl keeps C D n p.s p.row p.al p.ac (knS p.wide) K
 have ho:=fun ha(h:ha∈p.kids) y hy C D K size=>kz ns hl ha y (hk ha h) hy rtl keeps C D n p.s p.row p.al p.ac (knS p.wide) K size
 have hr:=fun ha(h:ha∈p.kids) al ac st=>xt (hbx ha h) p.row al ac st
 clear hbx
 obtain⟨f,hf⟩:∃f,f=fun ha al ac st=>ta bx p.row ha al ac st:=⟨_,rfl⟩
 have xv:∀ha al ac st,ta bx p.row ha al ac st=f ha al ac st:=fun k a b st=>by rw [hf]
 simp only [xv]at hj hr
 obtain⟨it,hL⟩:∃it,it=fun ks st=>tF bx p rtl ns ks st:=⟨_,rfl⟩
 have hE:∀ks st,tF bx p rtl ns ks st=it ks st:=fun ks st=>by rw [hL]
 have xy:∀st,it [] st=([],st):=fun st=>by rw [hL];rfl
 have hv:∀k z r st,it ((k,z)::r) st=(Gv p (kst ns k) rtl (f k ⟨3,z⟩ (zA p (kst ns k) rtl z) st).1::(it r (f k ⟨3,z⟩ (zA p (kst ns k) rtl z) st).2).1,(it r (f k ⟨3,z⟩ (zA p (kst ns k) rtl z) st).2).2):=fun k z r st=>by rw [hL,hf];rfl
 simp only [hE]
 clear hf hL xv hE
 obtain⟨s0,row,w,h,iw,ih,al,ac,kids⟩:=p
 dsimp only at *
 change∀ha(hh:ha∈kids) y,ns[(ha-1).toNat]? =some y->∀C D K,PC0 _ _ (.t (agP (kcX ⟨s0,row,w,h,iw,ih,al,ac,kids⟩ y.style rtl)))at hX
 obtain⟨V,hV⟩:=nmE (vwA af.ac ns)
 rw [<-hV]at xh
 simp only [<-hV]at hj hS hX ho
 rw [<-hV]
 obtain⟨Z,hZ⟩:=nmE (vw ak zs)
 have xP:=lmV hZ
 have iZ:=imV hZ
 have kZ:=kmV (k:=1) hZ fun _=>rfl
 have dZ:=dmV hZ
 have xs:∀{i:Nat}{v:Int},zs[i]? =some v->Z[i]? =some [.J v]:=fun h=>by rw [hZ];exact bf h
 obtain⟨K,hK⟩:=nmE (vw ak kids)
 have xN:=lmV hK
 have iK:=imV hK
 have kK:=kmV (k:=1) hK fun _=>rfl
 have dK:=dmV hK
 have hj:=fun ha h=>hj ha h K
 have hS:=fun ha h y hy C D=>hS ha h y hy C D K
 have hX:=fun ha h y hy C D=>hX ha h y hy C D K
 have ho:=fun ha h y hy C D=>ho ha h y hy C D K
 rw [<-hK,<-hZ]
 rw [<-hK]at xi
 obtain⟨am,an⟩:=ac
 have ck:=dh am an
 obtain⟨KN,hC⟩:=nmE (knS ⟨am,an⟩)
 change PC0 _ _ (.i (knS ⟨am,an⟩))at ck
 rw [<-hC]at ck
 simp only [<-hC]at ho
 have hv:∀k z r st y,ns[(k-1).toNat]? =some y->∀kc,kc=kcX ⟨s0,row,w,h,iw,ih,al,⟨am,an⟩,kids⟩ y.style rtl->∀ax,ax=(if kc.mode≠3/\B5 y.style (!row) KN z≠ -1 then(⟨3,ly y.style (!row) KN (B5 y.style (!row) KN z)⟩:aI)else kc)->∀rr,rr=f k ⟨3,z⟩ ax st->it ((k,z)::r) st=((⟨ly y.style (!row) KN (alB (!row) rr.1),(sdB s0 y.style rtl false (knS iw)).before,(sdB s0 y.style rtl false (knS iw)).behind,(sdB s0 y.style rtl false (knS iw)).autoBefore,(sdB s0 y.style rtl false (knS iw)).autoBehind,zy s0 y.style,rP rr.1.base (ly y.style (!row) KN (alB (!row) rr.1))⟩:ar)::(it r rr.2).1,(it r rr.2).2):=fun k z r st y hy kc xC ax xB rr hO=>by
  rw [hv,gU hy]
  have e:zA ⟨s0,row,w,h,iw,ih,al,⟨am,an⟩,kids⟩ y.style rtl z=ax:=by
   rw [xB]
   unfold zA B5
   dsimp only
   rw [<-xC,<-hC]
   by_cases q1:kc.mode=3<;>by_cases q2:ph y.style (!row) KN= -1<;>by_cases q3:qn y.style (!row) z= -1<;>simp [q1,q2,q3]
  rw [e,<-hO,hC];rfl
 obtain⟨qs,hN⟩:=nmE (kids.zip zs)
 rw [<-hN]at xi xE
 simp only [<-hN]at hM
 rw [<-hN]
 obtain⟨R,hR⟩:=nmE (it qs st)
 rw [<-hR]
 obtain⟨KW,hu⟩:=nmE (knS iw);(try rw [<-hu]at hj);(try rw [<-hu]at hS);(try rw [<-hu]at hX);(try rw [<-hu]at ho);(try rw [<-hu]at hv);(try rw [<-hu]at⊢)
 obtain⟨M0,h5⟩:=nmE (SM st.1)
 obtain⟨A0,hU⟩:=nmE (SA st.2)
 have xK:aC M0=true:=by rw [h5];exact bU _
 have xH:aC A0=true:=by rw [hU];exact bV _
 rw [<-h5,<-hU]
 have xj:qs.length<=1048576:=by omega
 have xO:R.1.length=qs.length:=by
  rw [hR]
  have:∀ks:List (Int×Int),(∀k∈ks,k.1∈kids)->∀st,(it ks st).1.length=ks.length:=by
   intro ks
   induction ks with
   |nil=>intro _ st;rw [xy];rfl
   |cons k ks ih=>
    intro hs st
    obtain⟨k,z⟩:=k
    obtain⟨y,hy⟩:=h9 k (hs (k,z) (List.mem_cons_self ..))
    rw [hv k z ks st y hy _ rfl _ rfl _ rfl]
    simp [ih (fun x hx=>hs x (List.mem_cons_of_mem _ hx))]
  refine this qs (fun k xD=> ?_) st
  obtain⟨i,hi⟩:=List.mem_iff_getElem?.1 xD
  exact zqd (hM hi).1
 clear hC hV hN
 refine dl ([(12,.hand)]) ([]) (c:=aJ f213) ay func213 (by kernel_rfl) (by kernel_rfl) (bl (by rfl)) (by kernel_rfl) (fun g xM hd F xd xw hg hF=> ?_)
 cbv
 (repeat'(refine ad hg ck ?_;cbv))
 replace hK:=xi
 refine lI ([(12,.hand)]) ([]) xd xw hg ay (by kernel_rfl) K (fun t=>lc (ak t.1)) qs hK xj (fun z(s:(List ar×St)×LLA×LLA×LLA)=>[(0,.p 0),(2,.v Z),(4,.p 3),(7,.o 6),(8,.i (KN)),(9,.i (z))]) (fun z(s:(List ar×St)×LLA×LLA×LLA)=>[.bx 91 5 [.view V,.B rtl,.B keeps,.own 4,.own 5],.gn,.gn,.bx 180 68 (nwL n s0 row al ⟨am,an⟩ KW (.view K)),.rw ⟨157,10,s.2.1⟩,.rw ⟨172,6,s.2.2.1⟩,.rw ⟨210,7,s.2.2.2⟩]) (fun z(s:(List ar×St)×LLA×LLA×LLA)=>s.2.1=SM s.1.2.1/\s.2.2.1=SA s.1.2.2/\s.2.2.2=vw ar.c s.1.1/\s.1.2.1.length<=st.1.length+s.1.1.length*c/\s.1.2.2.length<=st.2.length+s.1.1.length*c) (fun(s:(List ar×St)×LLA×LLA×LLA) rest=>(s.1.1++(it rest s.1.2).1,(it rest s.1.2).2)) (R) (([],st),M0,A0,[]) (by rw [hR];rfl) ⟨h5,hU,rfl,by simp,by simp⟩ (Wk.weak (wkM [some 0,none,none,some 3,some 1,some 2,some 4] zr6 ⟨.inr ⟨_,_,rfl,rfl,rfl,rfl,.inr ⟨zr5,trivial⟩⟩,.inl rfl,.inl rfl,.inr (wqE rfl rfl),.inr (wqE rfl xK),.inr (wqE rfl xH),.inr (wqE rfl rfl),trivial⟩ (by decide) ⟨.inl rfl,.inl rfl,.inr rfl,trivial⟩ ⟨.inl rfl,.inl rfl,.inr ⟨_,rfl⟩,trivial⟩)) (fun z s B hz h0 hi he=> ?_) (fun z s x rest B z0 z1 z2 hx hy h0 hi hc e1 hB=> ?_)
 ·obtain⟨⟨hb,hw⟩,M1,A1,E⟩:=s
  obtain⟨i1,i2,i3,i4,i5⟩:=hi
  dsimp only at i1 i2 i3 h0
  obtain rfl:R=(hb,hw):=by rw [<-h0,xy];simp
  have xL:aC M1=true:=by rw [i1];exact bU _
  have xI:aC A1=true:=by rw [i2];exact bV _
  have pE:=pmV i3
  cbv;rw [he];cbv
  subst i1 i2 i3
  exact AW 4 5 6 hF rfl rfl rfl rfl rfl rfl (by decide) rfl xL xI pE
 ·obtain⟨⟨hb,hw⟩,M1,A1,E⟩:=s
  obtain⟨x0,x1⟩:=x
  obtain⟨i1,i2,i3,i4,i5⟩:=hi
  dsimp only at i1 i2 i3 i4 i5 h0 hy
  have xz:=hM hx
  have ht:x0∈kids:=zqd xz.1
  have xu:=xs xz.2
  obtain⟨y,hG⟩:=h9 x0 ht
  have hp:=hv x0 x1 rest hw y hG _ rfl _ rfl _ rfl
  have hn:=fun al ac=>hr x0 ht al ac hw
  have hH:hb.length+1<=20:=by
   have:=congrArg (fun r=>r.1.length) h0
   rw [hp]at this
   simp only [zqe,zqx]at this
   omega
  rw [hp]at h0
  clear hp
  have xA:E.length<=1048576:=by rw [i3,aq];omega
  have pM:aC M1=true:=by rw [i1];exact bU _
  have pA:aC A1=true:=by rw [i2];exact bV _
  have kM:∀y∈M1,y.length=10:=by rw [i1];exact GW _
  have dM:∀y∈M1,y.all dat=true:=by rw [i1];exact yJ _
  have kA:∀y∈A1,y.length=6:=by rw [i2];exact GX _
  have dA:∀y∈A1,y.all dat=true:=by rw [i2];exact yK _
  have cS:=hS x0 ht y hG (.view M1) (.view A1)
  have cX:=hX x0 ht y hG (.view M1) (.view A1)
  have cR:=ho x0 ht y hG (.view M1) (.view A1) x1
  have cy:=xh x0 ht y hG _ _ rfl rfl
  obtain⟨Ky,xq⟩:=nmE (vw ak y.kids)
  obtain⟨Ry,xr⟩:=nmE (vw aO.c y.table.rules)
  rw [<-xq,<-xr]at cy
  obtain⟨SD,h8⟩:=nmE (sdB s0 y.style rtl false KW);(try rw [<-h8]at cS);(try rw [<-h8]at h0)
  obtain⟨d0,d1,d2,d3,d4,d5,d6⟩:=SD
  obtain⟨⟨k0,k1⟩,xp⟩:∃q,q=kcX ⟨s0,row,w,h,iw,ih,al,⟨am,an⟩,kids⟩ y.style rtl:=⟨_,rfl⟩
  rw [<-xp]at cX h0
  obtain⟨RR,h7⟩:=nmE (B5 y.style (!row) KN x1);(try rw [<-h7]at cR);(try rw [<-h7]at h0)
  have hQ:=cj y.style (!row) KN RR
  obtain⟨B1,h4⟩:=nmE (ly y.style (!row) KN RR);(try rw [<-h4]at hQ);(try rw [<-h4]at h0)
  dsimp only at h0
  obtain⟨⟨j0,j1⟩,hA⟩:∃q,q=(if k0≠3/\RR≠ -1 then(⟨3,B1⟩:aI)else⟨k0,k1⟩):=⟨_,rfl⟩
  rw [<-hA]at h0
  have cZ:=hj x0 ht 3 x1 j0 j1 hw (tJ i4 hm hH) (tJ i5 hq hH)
  rw [<-i1,<-i2]at cZ
  have hn:=hn ⟨3,x1⟩ ⟨j0,j1⟩
  obtain⟨⟨bb,hI⟩,hO⟩:∃r,r=f x0 ⟨3,x1⟩ ⟨j0,j1⟩ hw:=⟨_,rfl⟩
  rw [<-hO]at cZ hn h0
  dsimp only at cZ hn h0
  have xF:=nm i4 hn.1
  have xG:=nm i5 hn.2
  have hD:alB (!row) bb=if !row then bb.wide else bb.high:=rfl
  rw [acE]at cZ
  obtain⟨FR,xo⟩:=nmE (vw aM.c bb.frames);(try rw [<-xo]at cZ)
  obtain⟨b0,xa⟩:=nmE bb.wide
  obtain⟨b1,xb⟩:=nmE bb.high
  obtain⟨b3,xc⟩:=nmE bb.base
  rw [<-xa,<-xb,<-xc]at cZ
  rw [<-xa,<-xb]at hD
  rw [<-xc]at h0
  obtain⟨AL,hY⟩:=nmE (alB (!row) bb);(try rw [<-hY]at hD);(try rw [<-hY]at h0)
  have hT:=cj y.style (!row) KN AL
  obtain⟨f0,xe⟩:=nmE (ly y.style (!row) KN AL);(try rw [<-xe]at hT);(try rw [<-xe]at h0)
  have hJ:=mi b3 f0
  change PC0 _ _ (.i (rP b3 f0))at hJ
  obtain⟨f6,xg⟩:=nmE (rP b3 f0);(try rw [<-xg]at hJ);(try rw [<-xg]at h0)
  have hP:=ml s0 y.style
  obtain⟨f5,xf⟩:=nmE (zy s0 y.style);(try rw [<-xf]at hP);(try rw [<-xf]at h0)
  obtain⟨M2,h6⟩:=nmE (SM hI.1)
  obtain⟨A2,hW⟩:=nmE (SA hI.2)
  have xl:aC M2=true:=by rw [h6];exact bU _
  have xk:aC A2=true:=by rw [hW];exact bV _
  rw [<-h6,<-hW]at cZ
  obtain⟨E2,xn⟩:∃E2,E2=E++[[.J f0,.J d1,.J d2,.B d3,.B d4,.J f5,.J f6]]:=⟨_,rfl⟩
  have aE:E2=vw ar.c (hb++[⟨f0,d1,d2,d3,d4,f5,f6⟩]):=by rw [xn,i3,bv];rfl
  have xJ:=pmV aE
  have pE:=pmV i3
  have h3:((hb++[(⟨f0,d1,d2,d3,d4,f5,f6⟩:ar)])++(it rest hI).1,(it rest hI).2)=R:=by rw [<-h0];simp
  have nl:(hb++[(⟨f0,d1,d2,d3,d4,f5,f6⟩:ar)]).length=hb.length+1:=by simp
  have t0:g .q .neq (k0) (3)=decide (¬(k0)=(3)):=by rw [bn hg];exact dN _ _
  have t1:g .q .neq (RR) ((-1))=decide (¬(RR)=((-1))):=by rw [bn hg];exact dN _ _
  clear xq xr hO h8 i4 i5 hn hS hX ho xh hr hv hj xp h7 h4 xo xa xb xc hY xe xg xf h9 hM xs
  by_cases q0:k0=3
  case' neg=>
   by_cases q1:RR= -1
  all_goals
   first
    |rw [if_pos ⟨by assumption,by assumption⟩]at hA
    |rw [if_neg (fun hh=>by first|exact hh.1 (by assumption)|exact hh.2 (by assumption))]at hA
   simp only [aI.mk.injEq]at hA
   obtain⟨rfl,rfl⟩:=hA
   ((first|rw [zqu q0]at t0|rw [zqt q0]at t0|rw [zqu (Classical.not_not.2 q0)]at t0|rw [zqt (Classical.not_not.2 q0)]at t0))
   (try((first|rw [zqu q1]at t1|rw [zqt q1]at t1|rw [zqu (Classical.not_not.2 q1)]at t1|rw [zqt (Classical.not_not.2 q1)]at t1)))
   cbv
   rw [hc]
   cbv
   ((repeat'((first|rw [t0]|rw [t1]|refine aa hg cy ?_|refine ad hg hQ ?_|refine goX hg _ z0 hy rfl ?_|refine goX hg _ z0 xu rfl ?_|refine dL hg cS (dp (o4 (r:=0) (rm:=4) (ra:=5) [.view V,.B rtl,.B keeps] rfl rfl rfl kM dM rfl kA dA) (bB rfl (ah (ao rfl) (ah (ao rfl) (av))))) rfl ?_|refine dL hg cX (dp (o4 (r:=0) (rm:=4) (ra:=5) [.view V,.B rtl,.B keeps] rfl rfl rfl kM dM rfl kA dA) (bB rfl (ah (ao rfl) (av)))) rfl ?_|refine dL hg cR (dp (o4 (r:=0) (rm:=4) (ra:=5) [.view V,.B rtl,.B keeps] rfl rfl rfl kM dM rfl kA dA) (bB rfl (ah (ao rfl) (ah (ao rfl) (av))))) rfl ?_);cbv)))
   refine dr hg xw ay [0,1,2,3,4,5,6,7,8,9,10,11,12] (.op 13 [] (.op 14 [] (.op 15 [] .done .none) .none) (.op 14 [] (.op 13 [] (.op 15 [] .done .none) .none) .none)) (by kernel_rfl) (by kernel_rfl) (S:=Unit) (fun _=>True) (fun _=>[(0,.p 0),(2,.v Z),(4,.p 3),(7,.o 6),(8,.i (KN)),(9,.i (z)),(10,.p 7),(11,.p 8),(14,.p 9)]) (fun _=>[.bx 91 5 [.view V,.B rtl,.B keeps,.own 4,.own 5],.gn,.gn,.bx 180 68 (nwL n s0 row al ⟨am,an⟩ KW (.view K)),.rw ⟨157,10,M2⟩,.rw ⟨172,6,A2⟩,.rw ⟨210,7,E⟩,.bx 36 60 (lc (aj.c y.style)),.bx 210 7 [.J d0,.J d1,.J d2,.B d3,.B d4,.J d5,.J d6],.bx 127 4 [.J b0,.J b1,.J b3,.view FR]]) (fun BL xm=> ?_) (fun _ _=> ?_)
   ·cbv
    ((repeat'(first|exact trivial|exact rfl|refine And.intro ?_ ?_|((first|refine goX hg _ z0 hy rfl ?_|refine goX hg _ z0 xu rfl ?_|refine iP rfl hg 0 4 5 cZ rfl rfl rfl (by decide) rfl pM pA ⟨rfl,.inl ⟨rfl,rfl⟩,rfl,.inl ⟨rfl,rfl⟩,.inl ⟨rfl,rfl⟩,trivial⟩ rfl ?_);cbv))))
    all_goals first
     |exact xm () trivial _ _ (Wk.weak (wkM [some 0,none,none,some 3,some 10,some 11,some 6,some 7,some 8,some 12] zr9 ⟨.inr ⟨_,_,rfl,rfl,rfl,rfl,.inr ⟨zr5,trivial⟩⟩,.inl rfl,.inl rfl,.inr (wqE rfl rfl),.inr (wqE rfl xl),.inr (wqE rfl xk),.inr (wqE rfl pE),.inr (wqE rfl rfl),.inr (wqE rfl rfl),.inr (wqE rfl rfl),trivial⟩ (by decide) ⟨.inl rfl,.inl rfl,.inr rfl,trivial⟩ ⟨.inl rfl,.inl rfl,.inr ⟨_,rfl⟩,trivial⟩))
     |exact xm () trivial _ _ (Wk.weak (wkM [some 0,none,none,some 3,some 11,some 12,some 6,some 7,some 8,some 10] zr9 ⟨.inr ⟨_,_,rfl,rfl,rfl,rfl,.inr ⟨zr5,trivial⟩⟩,.inl rfl,.inl rfl,.inr (wqE rfl rfl),.inr (wqE rfl xl),.inr (wqE rfl xk),.inr (wqE rfl pE),.inr (wqE rfl rfl),.inr (wqE rfl rfl),.inr (wqE rfl rfl),trivial⟩ (by decide) ⟨.inl rfl,.inl rfl,.inr rfl,trivial⟩ ⟨.inl rfl,.inl rfl,.inr ⟨_,rfl⟩,trivial⟩))
   cbv
   cases row
   all_goals
    (try simp only [Bool.not_false,Bool.not_true,Bool.false_eq_true,if_false]at hD)
    (try simp only [Bool.not_false,Bool.not_true,if_true]at hD)
    subst hD
    (try cbv)
    ((repeat'((first|rw [e1]|refine ad hg hT ?_|refine ad hg hJ ?_|refine ad hg hP ?_|refine dg hg rfl (by decide) xA ?_;cbv;rw [gd hg,<-xn]);cbv)))
    skip
    exact hB (((hb++[⟨f0,d1,d2,d3,d4,f5,f6⟩],hI),M2,A2,E2)) _ _ ⟨h3,⟨h6,hW,aE,by rw [nl];exact xF,by rw [nl];exact xG⟩⟩ (Wk.weak (wkM [some 0,none,none,some 3,some 4,some 5,some 11] zr6 ⟨.inr ⟨_,_,rfl,rfl,rfl,rfl,.inr ⟨zr5,trivial⟩⟩,.inl rfl,.inl rfl,.inr (wqE rfl rfl),.inr (wqE rfl xl),.inr (wqE rfl xk),.inr (wqE rfl xJ),trivial⟩ (by decide) ⟨.inl rfl,.inl rfl,.inr rfl,trivial⟩ ⟨.inl rfl,.inl rfl,.inr ⟨_,rfl⟩,trivial⟩))
theorem Ev{p:Pl}{ns:List af}{S:List ar}{Z:List Int}{c i kd z:Int}{y:af}{sd:ar}(h0:0<=i)(hS:S[i.toNat]? =some sd)(hK:p.kids[i.toNat]? =some kd)(hZ:Z[i.toNat]? =some z)(hy:ns[(kd-1).toNat]? =some y):
  xh p ns S Z c i=if yv sd=true/\ph y.style (!p.row) (knS p.ac)= -1/\B5 y.style (!p.row) (knS p.ac) z= -1 then AY sd (ly y.style (!p.row) (knS p.ac) (wrap64 (c-wrap64 (sd.before+sd.behind))))else sd:=by
 rw [AZ h0 hS hK hZ hy]
 unfold B5
 by_cases q:ph y.style (!p.row) (knS p.ac)= -1<;>simp [q]
theorem oQ(ns:List af)(hl:ns.length<=1048576)(rtl kp:Bool)(C D:AC)(n:Int)(p:Pl)(hkl:p.kids.length<=1048576)(hk:∀hb∈p.kids,isN ns hb=true)(LL:List (List Int))(CC:List Int)(S0:List ar)(ZZ:List Int)(hsl:S0.length=p.kids.length)(hzl:ZZ.length=p.kids.length)(hLl:LL.length<=1048576)(hLb:∀l∈LL,l.length<=1048576)(hlo:∀i:Int,0<=i->i<(p.kids.length:Int)->0<=pt i 0 LL/\pt i 0 LL<(CC.length:Int)):
  dc prog 216 [.c (.eptr [.view (vwA af.ac ns),.B rtl,.B kp,C,D] 0),.agg (nwL n p.s p.row p.al p.ac (knS p.wide) (.view (vw ak p.kids))),.c (.view (vwA lnA LL)),.c (.view (vw ak CC)),.c (.view (vw ar.c S0)),.c (.view (vw ak ZZ))] fun res hX=>res= .o 0/\hX=[⟨210,7,vw ar.c ((ixs 0 S0.length).map fun i=>xh p ns S0 ZZ (elZ CC (pt i 0 LL)) i)⟩]:=by
 have h9:∀hb∈p.kids,∃y,ns[(hb-1).toNat]? =some y:=fun hb h=>(bq (hk hb h)).2.2
 have hP:=fun hb(h:hb∈p.kids) y hy Ky Ry=>bm ns hb y (bq (hk hb h)).1 (by have:=(bq (hk hb h)).2.1;omega) hy (vwA af.ac ns) Ky Ry rfl
 have hn:=fun hb(h:hb∈p.kids) y hy K size=>kz ns hl hb y (hk hb h) hy rtl kp C D n p.s p.row p.al p.ac (knS p.wide) K size
 have hH:=fun i=>nY LL i hLl hLb
 obtain⟨fR,hM⟩:∃f,f=fun i=>xh p ns S0 ZZ (elZ CC (pt i 0 LL)) i:=⟨_,rfl⟩
 have ha:=fun{i:Int}{sd kd z y}(h0:0<=i) h1 h2 h3 h4=>Ev (p:=p) (ns:=ns) (S:=S0) (Z:=ZZ) (c:=elZ CC (pt i 0 LL)) (i:=i) (kd:=kd) (z:=z) (y:=y) (sd:=sd) h0 h1 h2 h3 h4
 have xc:∀i,xh p ns S0 ZZ (elZ CC (pt i 0 LL)) i=fR i:=fun i=>by rw [hM]
 rw [<-hM]
 simp only [xc]at ha
 clear xc hM
 obtain⟨s0,row,w,h,iw,ih,al,ac,kids⟩:=p
 dsimp only at *
 obtain⟨V,hV⟩:=nmE (vwA af.ac ns)
 rw [<-hV]at hP
 simp only [<-hV]at hn
 rw [<-hV]
 obtain⟨K,hK⟩:=nmE (vw ak kids)
 have xv:=lmV hK
 have iK:=imV hK
 have kK:=kmV (k:=1) hK fun _=>rfl
 have dK:=dmV hK
 have hn:=fun hb h y hy=>hn hb h y hy K
 have xj:∀{i:Nat}{v:Int},kids[i]? =some v->K[i]? =some [.J v]:=fun h=>by rw [hK];exact bf h
 obtain⟨Z,hZ⟩:=nmE (vw ak ZZ)
 have xw:=lmV hZ
 have iZ:=imV hZ
 have kZ:=kmV (k:=1) hZ fun _=>rfl
 have dZ:=dmV hZ
 have xn:∀{i:Nat}{v:Int},ZZ[i]? =some v->Z[i]? =some [.J v]:=fun h=>by rw [hZ];exact bf h
 obtain⟨vC,hq⟩:=nmE (vw ak CC)
 have xo:=lmV hq
 have xx:=imV hq
 have xz:=kmV (k:=1) hq fun _=>rfl
 have xt:=dmV hq
 have xg:∀{i:Nat}{v:Int},CC[i]? =some v->vC[i]? =some [.J v]:=fun h=>by rw [hq];exact bf h
 obtain⟨vS,hp⟩:=nmE (vw ar.c S0)
 have hs:=lmV hp
 have xy:=imV hp
 have xr:=kmV (k:=7) hp fun _=>rfl
 have xu:=dmV hp
 obtain⟨vL,xe⟩:=nmE (vwA lnA LL)
 simp only [<-xe]at hH
 rw [<-hK,<-hZ,<-hq,<-hp,<-xe]
 obtain⟨am,an⟩:=ac
 have ck:=dh am an
 obtain⟨KN,hC⟩:=nmE (knS ⟨am,an⟩)
 change PC0 _ _ (.i (knS ⟨am,an⟩))at ck
 rw [<-hC]at ck
 simp only [<-hC]at hn ha
 obtain⟨KW,hD⟩:=nmE (knS iw)
 simp only [<-hD]at hn
 rw [<-hD]
 obtain⟨R,hR⟩:=nmE ((ixs 0 S0.length).map fR)
 rw [<-hR]
 have xk:R.length=kids.length:=by rw [hR,zql,bX,hsl]
 have xm:S0.length<=1048576:=by omega
 have pS:=pmV hp
 clear hC hD hV
 refine ae (aJ f216) ay func216 fun g F hg hF=> ?_
 cbv
 refine goN hg ⟨xr,by show(0+vS.length)*48<=140737488355328;rw [hs];omega,by show 0+vS.length<=4611686018427387904;rw [hs];omega⟩ ?_
 cbv
 rw [gd hg,List.nil_append]
 cbv
 (repeat'(refine ad hg ck ?_;cbv))
 obtain⟨m,hm⟩:∃m:Int,m=(kids.length:Int):=⟨_,rfl⟩
 refine Cc hg ay (by kernel_rfl) m (by omega) (by omega) (fun z(s:List ar×LLA)=>[(0,.t (.c (.eptr [.view V,.B rtl,.B kp,C,D] 0))),(2,.v vL),(3,.v vC),(5,.v Z),(7,.p 0),(13,.o 1),(14,.i (KN)),(15,.i (z))]) (fun z(s:List ar×LLA)=>[.bx 180 68 (nwL n s0 row al ⟨am,an⟩ KW (.view K)),.rw ⟨210,7,s.2⟩]) (fun z(s:List ar×LLA)=>s.2=vw ar.c (s.1++S0.drop s.1.length)/\(s.1.length:Int)=z) (fun rest(s:List ar×LLA)=>s.1++(ixs (s.1.length:Int) rest).map fR) (R) ([],vS) (by show []++(ixs 0 m.toNat).map fR=R;rw [hR,hm,Int.toNat_natCast,hsl];rfl) ⟨hp,rfl⟩ (Wk.weak (wkG [some _,some 2] zr8 ⟨wqE rfl rfl,wqE rfl pS,trivial⟩ (by decide) aD)) (fun s B h0 hi he=> ?_) (fun z s rest B z0 z1 hk h0 hi hc e1 hB=> ?_)
 ·obtain⟨D1,E⟩:=s
  obtain⟨i1,i2⟩:=hi
  dsimp only at i1 i2 h0
  obtain rfl:D1=R:=by simpa [ixs]using h0
  have hE:E=vw ar.c D1:=by rw [i1,List.drop_of_length_le (by omega),List.append_nil]
  have pE:=pmV hE
  have tl:g .ln E=m:=by rw [bF hg,hE,aQ,xk,hm]
  rw [<-hE]at hF
  cbv
  rw [tl]
  cbv
  rw [he]
  cbv
  exact bR hF rfl pE
 ·obtain⟨D1,E⟩:=s
  obtain⟨i1,i2⟩:=hi
  dsimp only at i1 i2 h0
  have hT:z.toNat=D1.length:=by omega
  have xl:D1.length<S0.length:=by omega
  have tl:g .ln E=m:=by rw [bF hg,i1,aQ,zqe,List.length_drop];omega
  obtain⟨sd,hQ⟩:∃sd,S0[z.toNat]? =some sd:=⟨_,zqc (by omega)⟩
  obtain⟨kd,hu⟩:∃kd,kids[z.toNat]? =some kd:=⟨_,zqc (by omega)⟩
  obtain⟨zz,hU⟩:∃zz,ZZ[z.toNat]? =some zz:=⟨_,zqc (by omega)⟩
  have hN:kd∈kids:=zqd hu
  obtain⟨y,hS⟩:=h9 kd hN
  have ha:=ha z0 hQ hu hU hS
  have hG:=xj hu
  have h8:=xn hU
  have hx:E[z.toNat]? =some (lc (ar.c sd)):=by rw [i1];exact bf (by rw [hT,uG rfl,<-hT];exact hQ)
  have xp:z<aX E:=by rw [i1,aQ];simp;omega
  have ho:∀v,E.set z.toNat (lc (ar.c v))=vw ar.c ((D1++[v])++S0.drop (D1++[v]).length):=fun v=>by
   rw [i1,hT,mB,tB rfl xl];simp
  have h3:(D1++[fR z])++(ixs ((D1++[fR z]).length:Int) rest).map fR=R:=by
   rw [<-h0,show ixs (D1.length:Int) (rest+1)=(D1.length:Int)::ixs ((D1.length:Int)+1) rest from rfl,zqA,i2,zqe,zqm,show((D1.length+1:Nat):Int)=z+1 by omega]
   simp
  have nl:((D1++[fR z]).length:Int)=z+1:=by simp;omega
  obtain⟨lo,hr⟩:=nmE (pt z 0 LL)
  have xq:z<(kids.length:Int):=by omega
  have hd:=hlo z z0 xq
  have hv:=hH z
  rw [<-hr]at hv hd ha
  obtain⟨c,xa⟩:=nmE (elZ CC lo)
  have h5:=xg (kj hd.1 hd.2)
  have hO:=hd.1
  rw [<-xa]at h5 ha
  have cy:=hP kd hN y hS _ _ rfl rfl
  obtain⟨Ky,h6⟩:=nmE (vw ak y.kids)
  obtain⟨Ry,h7⟩:=nmE (vw aO.c y.table.rules)
  rw [<-h6,<-h7]at cy
  have cR:=hn kd hN y hS zz
  obtain⟨y0,y1,y2,y3,y4,y5,y6⟩:=sd
  have cI:=oD ⟨y0,y1,y2,y3,y4,y5,y6⟩
  obtain⟨fb,xb⟩:=nmE (yv ⟨y0,y1,y2,y3,y4,y5,y6⟩)
  rw [<-xb]at cI ha
  dsimp only at ha
  have cF:=eG y.style (!row) KN
  obtain⟨FX,hz⟩:=nmE (ph y.style (!row) KN);(try rw [<-hz]at cF);(try rw [<-hz]at ha)
  obtain⟨RR,hI⟩:=nmE (B5 y.style (!row) KN zz);(try rw [<-hI]at cR);(try rw [<-hI]at ha)
  have cB:=iQ ⟨y0,y1,y2,y3,y4,y5,y6⟩
  change PC0 _ _ (.i (wrap64 (y1+y2)))at cB
  obtain⟨BB,hY⟩:=nmE (wrap64 (y1+y2))
  rw [<-hY]at ha cB
  obtain⟨CB,hw⟩:=nmE (wrap64 (c-BB))
  rw [<-hw]at ha
  have cN:=cj y.style (!row) KN CB
  obtain⟨f0,hJ⟩:=nmE (ly y.style (!row) KN CB);(try rw [<-hJ]at cN);(try rw [<-hJ]at ha)
  simp only [AY]at ha
  have ht:=mi y6 f0
  change PC0 _ _ (.i (rP y6 f0))at ht
  obtain⟨f6,hL⟩:=nmE (rP y6 f0);(try rw [<-hL]at ht);(try rw [<-hL]at ha)
  have t2:g .w .sub .i64 c BB=CB:=by rw [bZ hg,hw]
  have t4:g .q .eql (FX) ((-1))=decide ((FX)=((-1))):=by rw [bj hg];exact zqn _ _
  have t5:g .q .eql (RR) ((-1))=decide ((RR)=((-1))):=by rw [bj hg];exact zqn _ _
  have hf:fR z=⟨y0,y1,y2,y3,y4,y5,y6⟩->E=vw ar.c ((D1++[fR z])++S0.drop (D1++[fR z]).length):=fun h=>by rw [h,<-ho,vo hx]
  have hW:=pmV i1
  have hh:E[z.toNat]? =some [.J y0,.J y1,.J y2,.B y3,.B y4,.J y5,.J y6]:=hx
  clear hw hY hL hJ hI hz xb h6 h7 xa hr hd hu hU hQ hH hn hP hlo h9
  cbv
  rw [tl]
  cbv
  rw [hc]
  cbv
  ((repeat'((first|refine aa hg cy ?_|refine goX hg _ z0 hG rfl ?_);cbv)))
  refine goY hg z0 xp fun j hj xd=> ?_
  cbv
  rw [<-hj]at hh ho hx
  refine⟨_,hh,?_⟩
  cbv
  ((repeat'(refine aa hg cI ?_;cbv)))
  cases fb
  case false=>
   simp only [Bool.false_eq_true,false_and,if_false]at ha
   cbv
   ((repeat'(rw [e1];cbv)))
   exact hB ((D1++[fR z],E)) _ _ ⟨h3,⟨hf ha,nl⟩⟩ (Wk.weak (wkG [some _,some 1] zr8 ⟨wqE rfl rfl,wqE rfl hW,trivial⟩ (by decide) aD))
  by_cases q4:FX= -1
  case neg=>
   rw [if_neg (fun h=>q4 h.2.1)]at ha
   (first|rw [zqu q4]at t4|rw [zqt q4]at t4|rw [zqu (Classical.not_not.2 q4)]at t4|rw [zqt (Classical.not_not.2 q4)]at t4)
   cbv
   ((repeat'((first|rw [t4]|rw [e1]|refine aa hg cF ?_);cbv)))
   exact hB ((D1++[fR z],E)) _ _ ⟨h3,⟨hf ha,nl⟩⟩ (Wk.weak (wkG [some _,some 1] zr8 ⟨wqE rfl rfl,wqE rfl hW,trivial⟩ (by decide) aD))
  by_cases q5:RR= -1
  case neg=>
   rw [if_neg (fun h=>q5 h.2.2)]at ha
   (first|rw [zqu q4]at t4|rw [zqt q4]at t4|rw [zqu (Classical.not_not.2 q4)]at t4|rw [zqt (Classical.not_not.2 q4)]at t4)
   (first|rw [zqu q5]at t5|rw [zqt q5]at t5|rw [zqu (Classical.not_not.2 q5)]at t5|rw [zqt (Classical.not_not.2 q5)]at t5)
   cbv
   ((repeat'((first|rw [t4]|rw [t5]|rw [e1]|refine aa hg cF ?_|refine aa hg cR ?_|refine goX hg _ z0 hG rfl ?_|refine goX hg _ z0 h8 rfl ?_);cbv)))
   exact hB ((D1++[fR z],E)) _ _ ⟨h3,⟨hf ha,nl⟩⟩ (Wk.weak (wkG [some _,some 1] zr8 ⟨wqE rfl rfl,wqE rfl hW,trivial⟩ (by decide) aD))
  rw [if_pos ⟨rfl,q4,q5⟩]at ha
  (first|rw [zqu q4]at t4|rw [zqt q4]at t4|rw [zqu (Classical.not_not.2 q4)]at t4|rw [zqt (Classical.not_not.2 q4)]at t4)
  (first|rw [zqu q5]at t5|rw [zqt q5]at t5|rw [zqu (Classical.not_not.2 q5)]at t5|rw [zqt (Classical.not_not.2 q5)]at t5)
  have hA:(g .st E j [.J f0,.J y1,.J y2,.B y3,.B y4,.J y5,.J y6])[j]? =some [.J f0,.J y1,.J y2,.B y3,.B y4,.J y5,.J y6]:=by rw [mP hg];exact List.getElem?_set_self xd
  have xf:j<(g .st E j [.J f0,.J y1,.J y2,.B y3,.B y4,.J y5,.J y6]).length:=(List.getElem?_eq_some_iff.1 hA).1
  cbv
  ((repeat'((first|rw [t4]|rw [t5]|rw [t2]|rw [e1]|refine aa hg cF ?_|refine aa hg cR ?_|refine aa hg hv ?_|refine aa hg cB ?_|refine aa hg cN ?_|refine aa hg ht ?_|refine goX hg _ z0 hG rfl ?_|refine goX hg _ z0 h8 rfl ?_|refine goX hg _ hO h5 rfl ?_|refine Hq hg z0 hj xd ?_|refine Hq hg z0 hj xf ?_|refine⟨_,hh,?_⟩|refine⟨_,hA,?_⟩);cbv)))
  generalize hG1:g .st _ j _=E2
  have xi:E2=g .st (g .st E j [.J f0,.J y1,.J y2,.B y3,.B y4,.J y5,.J y6]) j [.J f0,.J y1,.J y2,.B y3,.B y4,.J y5,.J f6]:=hG1.symm
  have aE:E2=vw ar.c ((D1++[fR z])++S0.drop (D1++[fR z]).length):=by
   rw [ha,<-ho,xi,mP hg,mP hg,List.set_set];rfl
  have xs:=pmV aE
  exact hB ((D1++[fR z],E2)) _ _ ⟨h3,⟨aE,nl⟩⟩ (Wk.weak (wkG [some _,some 1] zr8 ⟨wqE rfl rfl,wqE rfl xs,trivial⟩ (by decide) aD))
end Go.Proofs.YtckchgoblpgpbaaGreat
