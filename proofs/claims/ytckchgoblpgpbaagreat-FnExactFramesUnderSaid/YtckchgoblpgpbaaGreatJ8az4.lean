/- A part. -/
import Derived.Test.YtckchgoblpgpbaaGreatJ8az
set_option linter.all false
set_option maxHeartbeats 80000000
namespace Go.Proofs.YtckchgoblpgpbaaGreat
open Go.ChangeShapes Go.WideShapes Go.ChangeAt Go.RowKit Am Go.Proofs.Tryz
set_option maxRecDepth 100000
section
variable {ns:List ae}{n:Int}
variable {rtl keeps:Bool}
theorem nP(ns:List ae)(hl:ns.length<=1048576)(rtl keeps:Bool)(bx:Bx)(c L:Nat)(n:Int)(p:Pl)(zs:List Int)(hkl:p.kids.length<20)(hzs:zs.length=p.kids.length)(hk:∀ha∈p.kids,isN ns ha=true)(hbx:∀ha∈p.kids,yD (vwA ae.ac ns) rtl keeps bx c L ha)(st:St)(hm:st.1.length+20*c<=L)(hq:st.2.length+20*c<=L):
  SE prog 213 (sR (vwA ae.ac ns) rtl keeps) (SM st.1) (SA st.2) [.c (.ptr 0 0 0),.agg (nwL n p.s p.row p.al p.ac (knS p.wide) (.view (vw ak p.kids))),.c (.view (vw ak zs))] (.t (.c (.view (vw aw.c (vU bx p rtl ns (p.kids.zip zs) st).1)))) (SM (vU bx p rtl ns (p.kids.zip zs) st).2.1) (SA (vU bx p rtl ns (p.kids.zip zs) st).2.2):=by
 refine uL (t:=210) (k:=7) (V:=vw aw.c (vU bx p rtl ns (p.kids.zip zs) st).1) (R:= .o 5) ?_ (xj (c:=aw.c) (k:=7) fun _=>rfl) jc rfl rfl rfl
 have xa:=yK hzs
 have hL:=fun{i t} h=>Cx (a:=p.kids) (b:=zs) (i:=i) (t:=t) h
 have xu:(p.kids.zip zs).length=p.kids.length:=by rw [zqB];omega
 have h4:∀ha∈p.kids,∃y,ns[(ha-1).toNat]? =some y:=fun ha h=>(bd (hk ha h)).2.2
 have h9:=fun ha(h:ha∈p.kids) y hy Ky Ry=>bg ns ha y (bd (hk ha h)).1 (by have:=(bd (hk ha h)).2.1;omega) hy (vwA ae.ac ns) Ky Ry rfl
 have hj:=fun ha(h:ha∈p.kids) K a0 a1 c0 c1 st h1 h2=>nQ (vwA ae.ac ns) rtl keeps bx c L ha (hbx ha h) n p.s p.row p.al p.ac (knS p.wide) K a0 a1 c0 c1 st h1 h2
 have hS:=fun ha(h:ha∈p.kids) y hy C D K=>fX ns hl ha y (hk ha h) hy rtl false keeps C D n p.s p.row p.al p.ac (knS p.wide) K
 have hX:=fun ha(h:ha∈p.kids) y hy C D K=>lK ns hl ha y (hk ha h) hy rtl keeps C D n p.s p.row p.al p.ac (knS p.wide) K
 have ho:=fun ha(h:ha∈p.kids) y hy C D K size=>lI ns hl ha y (hk ha h) hy rtl keeps C D n p.s p.row p.al p.ac (knS p.wide) K size
 have hr:=fun ha(h:ha∈p.kids) al ac st=>zS (hbx ha h) p.row al ac st
 clear hbx
 obtain⟨f,hf⟩:∃f,f=fun ha al ac st=>vr bx p.row ha al ac st:=⟨_,rfl⟩
 have xm:∀ha al ac st,vr bx p.row ha al ac st=f ha al ac st:=fun k a b st=>by rw [hf]
 simp only [xm]at hj hr
 obtain⟨it,hJ⟩:∃it,it=fun ks st=>vU bx p rtl ns ks st:=⟨_,rfl⟩
 have hD:∀ks st,vU bx p rtl ns ks st=it ks st:=fun ks st=>by rw [hJ]
 have xo:∀st,it [] st=([],st):=fun st=>by rw [hJ];rfl
 have hu:∀k z r st,it ((k,z)::r) st=(J1 p (kst ns k) rtl (f k ⟨3,z⟩ (Cw p (kst ns k) rtl z) st).1::(it r (f k ⟨3,z⟩ (Cw p (kst ns k) rtl z) st).2).1,(it r (f k ⟨3,z⟩ (Cw p (kst ns k) rtl z) st).2).2):=fun k z r st=>by rw [hJ,hf];rfl
 simp only [hD]
 clear hf hJ xm hD
 obtain⟨s0,row,w,h,iw,ih,al,ac,kids⟩:=p
 dsimp only at *
 change∀ha(hh:ha∈kids) y,ns[(ha-1).toNat]? =some y->∀C D K,PC0 _ _ (.t (agP (kcX ⟨s0,row,w,h,iw,ih,al,ac,kids⟩ y.style rtl)))at hX
 obtain⟨V,hV⟩:=nmE (vwA ae.ac ns)
 rw [<-hV]at h9
 simp only [<-hV]at hj hS hX ho
 rw [<-hV]
 obtain⟨Z,hZ⟩:=nmE (vw ak zs)
 have xF:=lmV hZ
 have xk:∀{i:Nat}{v:Int},zs[i]? =some v->Z[i]? =some [.J v]:=fun h=>by rw [hZ];exact aZ h
 obtain⟨K,hK⟩:=nmE (vw ak kids)
 have xD:=lmV hK
 have hj:=fun ha h=>hj ha h K
 have hS:=fun ha h y hy C D=>hS ha h y hy C D K
 have hX:=fun ha h y hy C D=>hX ha h y hy C D K
 have ho:=fun ha h y hy C D=>ho ha h y hy C D K
 rw [<-hK,<-hZ]
 rw [<-hK]at xa
 obtain⟨am,an⟩:=ac
 have ck:=du am an
 obtain⟨KN,hA⟩:=nmE (knS ⟨am,an⟩)
 change PC0 _ _ (.i (knS ⟨am,an⟩))at ck
 rw [<-hA]at ck
 simp only [<-hA]at ho
 have hu:∀k z r st y,ns[(k-1).toNat]? =some y->∀kc,kc=kcX ⟨s0,row,w,h,iw,ih,al,⟨am,an⟩,kids⟩ y.style rtl->∀ax,ax=(if kc.mode≠3/\ER y.style (!row) KN z≠ -1 then(⟨3,mG y.style (!row) KN (ER y.style (!row) KN z)⟩:aK)else kc)->∀rr,rr=f k ⟨3,z⟩ ax st->it ((k,z)::r) st=((⟨mG y.style (!row) KN (alB (!row) rr.1),(sdB s0 y.style rtl false (knS iw)).before,(sdB s0 y.style rtl false (knS iw)).behind,(sdB s0 y.style rtl false (knS iw)).autoBefore,(sdB s0 y.style rtl false (knS iw)).autoBehind,Cv s0 y.style,tV rr.1.base (mG y.style (!row) KN (alB (!row) rr.1))⟩:aw)::(it r rr.2).1,(it r rr.2).2):=fun k z r st y hy kc xs ax xr rr hN=>by
  rw [hu,gj hy]
  have e:Cw ⟨s0,row,w,h,iw,ih,al,⟨am,an⟩,kids⟩ y.style rtl z=ax:=by
   rw [xr]
   unfold Cw ER
   dsimp only
   rw [<-xs,<-hA]
   by_cases q1:kc.mode=3<;>by_cases q2:qL y.style (!row) KN= -1<;>by_cases q3:rQ y.style (!row) z= -1<;>simp [q1,q2,q3]
  rw [e,<-hN,hA];rfl
 obtain⟨qs,hM⟩:=nmE (kids.zip zs)
 rw [<-hM]at xa xu
 simp only [<-hM]at hL
 rw [<-hM]
 obtain⟨R,hR⟩:=nmE (it qs st)
 rw [<-hR]
 generalize hKW:knS iw=KW at hj hS hX ho hu
 obtain⟨M0,hW⟩:=nmE (SM st.1)
 obtain⟨A0,hT⟩:=nmE (SA st.2)
 have xA:ay M0=true:=by rw [hW];exact bD _
 have xx:ay A0=true:=by rw [hT];exact bG _
 rw [<-hW,<-hT]
 have xb:qs.length<=1048576:=by omega
 have xE:R.1.length=qs.length:=by
  rw [hR]
  have:∀ks:List (Int×Int),(∀k∈ks,k.1∈kids)->∀st,(it ks st).1.length=ks.length:=by
   intro ks
   induction ks with
   |nil=>intro _ st;rw [xo];rfl
   |cons k ks ih=>
    intro hs st
    obtain⟨k,z⟩:=k
    obtain⟨y,hy⟩:=h4 k (hs (k,z) (zpd ..))
    rw [hu k z ks st y hy _ rfl _ rfl _ rfl]
    simp [ih (fun x hx=>hs x (zpe _ hx))]
  refine this qs (fun k xt=> ?_) st
  obtain⟨i,hi⟩:=List.mem_iff_getElem?.1 xt
  exact zqd (hL hi).1
 clear hA hV hM
 refine mC [(12,.hand)] func213 (fun g xC hd F h8 xn hg hF=> ?_)
 cbv
 (repeat'(refine ad hg ck ?_;cbv))
 replace hK:=xa
 refine iA ([(12,.hand)]) ([]) h8 xn hg bq (by kernel_rfl) K (fun t=>lc (ak t.1)) qs hK xb (fun z(s:(List aw×St)×LLA×LLA×LLA)=>[(0,.p 0),(2,.v Z),(4,.p 3),(7,.o 6),(8,.i (KN)),(9,.i (z))]) (fun z(s:(List aw×St)×LLA×LLA×LLA)=>[.bx 91 5 [.view V,.B rtl,.B keeps,.own 4,.own 5],.gn,.gn,.bx 180 68 (nwL n s0 row al ⟨am,an⟩ KW (.view K)),.rw ⟨157,10,s.2.1⟩,.rw ⟨172,6,s.2.2.1⟩,.rw ⟨210,7,s.2.2.2⟩]) (fun z(s:(List aw×St)×LLA×LLA×LLA)=>s.2.1=SM s.1.2.1/\s.2.2.1=SA s.1.2.2/\s.2.2.2=vw aw.c s.1.1/\s.1.2.1.length<=st.1.length+s.1.1.length*c/\s.1.2.2.length<=st.2.length+s.1.1.length*c) (fun(s:(List aw×St)×LLA×LLA×LLA) rest=>(s.1.1++(it rest s.1.2).1,(it rest s.1.2).2)) (R) (([],st),M0,A0,[]) (by rw [hR];rfl) ⟨hW,hT,rfl,by simp,by simp⟩ (Wk.weak (wkM [some 0,none,none,some 3,some 1,some 2,some 4] zr6 ⟨.inr (wqB rfl ⟨zr5,zpt⟩),.inl rfl,.inl rfl,.inr (wqE rfl rfl),.inr (wqE rfl xA),.inr (wqE rfl xx),.inr (wqE rfl rfl),zpt⟩ (by decide) ⟨.inl rfl,.inl rfl,.inr rfl,zpt⟩ ⟨.inl rfl,.inl rfl,.inr ⟨_,rfl⟩,zpt⟩)) (fun z s B hz h0 hi he=> ?_) (fun z s x rest B z0 z1 z2 hx hy h0 hi hc e1 hB=> ?_)
 ·obtain⟨⟨hb,hv⟩,M1,A1,E⟩:=s
  obtain⟨i1,i2,i3,i4,i5⟩:=hi
  dsimp only at i1 i2 i3 h0
  obtain rfl:R=(hb,hv):=by rw [<-h0,xo];simp
  have xB:ay M1=true:=by rw [i1];exact bD _
  have xy:ay A1=true:=by rw [i2];exact bG _
  have pE:=pmV i3
  cbv;rw [he];cbv
  subst i1 i2 i3
  exact Ch 4 5 6 hF rfl rfl rfl rfl rfl rfl (by decide) rfl xB xy pE
 ·obtain⟨⟨hb,hv⟩,M1,A1,E⟩:=s
  obtain⟨x0,x1⟩:=x
  obtain⟨i1,i2,i3,i4,i5⟩:=hi
  dsimp only at i1 i2 i3 i4 i5 h0 hy
  have xp:=hL hx
  have ht:x0∈kids:=zqd xp.1
  have xl:=xk xp.2
  obtain⟨y,hE⟩:=h4 x0 ht
  have hp:=hu x0 x1 rest hv y hE _ rfl _ rfl _ rfl
  have hn:=fun al ac=>hr x0 ht al ac hv
  have hG:hb.length+1<=20:=by
   have:=congrArg (fun r=>r.1.length) h0
   rw [hp]at this
   simp only [zqe,zqx]at this
   omega
  rw [hp]at h0
  clear hp
  have xq:E.length<=1048576:=by rw [i3,ar];omega
  have pM:ay M1=true:=by rw [i1];exact bD _
  have pA:ay A1=true:=by rw [i2];exact bG _
  have kM:∀y∈M1,y.length=10:=by rw [i1];exact Km _
  have dM:∀y∈M1,y.all dat=true:=by rw [i1];exact BK _
  have kA:∀y∈A1,y.length=6:=by rw [i2];exact Kn _
  have dA:∀y∈A1,y.all dat=true:=by rw [i2];exact BM _
  have cS:=hS x0 ht y hE (.view M1) (.view A1)
  have cX:=hX x0 ht y hE (.view M1) (.view A1)
  have cR:=ho x0 ht y hE (.view M1) (.view A1) x1
  have cy:=h9 x0 ht y hE _ _ rfl rfl
  obtain⟨Ky,xh⟩:=nmE (vw ak y.kids)
  obtain⟨Ry,xi⟩:=nmE (vw aC.c y.table.rules)
  rw [<-xh,<-xi]at cy
  generalize hSD:sdB s0 y.style rtl false KW=SD at cS h0
  obtain⟨d0,d1,d2,d3,d4,d5,d6⟩:=SD
  obtain⟨⟨k0,k1⟩,xg⟩:∃q,q=kcX ⟨s0,row,w,h,iw,ih,al,⟨am,an⟩,kids⟩ y.style rtl:=⟨_,rfl⟩
  rw [<-xg]at cX h0
  generalize hRR:ER y.style (!row) KN x1=RR at cR h0
  have hP:=cY y.style (!row) KN RR
  generalize hB1:mG y.style (!row) KN RR=B1 at hP h0
  dsimp only at h0
  obtain⟨⟨j0,j1⟩,hw⟩:∃q,q=(if k0≠3/\RR≠ -1 then(⟨3,B1⟩:aK)else⟨k0,k1⟩):=⟨_,rfl⟩
  rw [<-hw]at h0
  have cZ:=hj x0 ht 3 x1 j0 j1 hv (v7 i4 hm hG) (v7 i5 hq hG)
  rw [<-i1,<-i2]at cZ
  have hn:=hn ⟨3,x1⟩ ⟨j0,j1⟩
  obtain⟨⟨bb,hH⟩,hN⟩:∃r,r=f x0 ⟨3,x1⟩ ⟨j0,j1⟩ hv:=⟨_,rfl⟩
  rw [<-hN]at cZ hn h0
  dsimp only at cZ hn h0
  have xv:=oe i4 hn.1
  have xw:=oe i5 hn.2
  have hC:alB (!row) bb=if !row then bb.wide else bb.high:=rfl
  rw [acE]at cZ
  generalize hFR:vw ag.c bb.frames=FR at cZ
  obtain⟨b0,h5⟩:=nmE bb.wide
  obtain⟨b1,h6⟩:=nmE bb.high
  obtain⟨b3,h7⟩:=nmE bb.base
  rw [<-h5,<-h6,<-h7]at cZ
  rw [<-h5,<-h6]at hC
  rw [<-h7]at h0
  generalize hAL:alB (!row) bb=AL at hC h0
  have hQ:=cY y.style (!row) KN AL
  generalize hf0:mG y.style (!row) KN AL=f0 at hQ h0
  have hI:=nj b3 f0
  change PC0 _ _ (.i (tV b3 f0))at hI
  generalize hf6:tV b3 f0=f6 at hI h0
  have hO:=nm s0 y.style
  generalize hf5:Cv s0 y.style=f5 at hO h0
  obtain⟨M2,hY⟩:=nmE (SM hH.1)
  obtain⟨A2,hU⟩:=nmE (SA hH.2)
  have xd:ay M2=true:=by rw [hY];exact bD _
  have xc:ay A2=true:=by rw [hU];exact bG _
  rw [<-hY,<-hU]at cZ
  obtain⟨E2,xf⟩:∃E2,E2=E++[[.J f0,.J d1,.J d2,.B d3,.B d4,.J f5,.J f6]]:=⟨_,rfl⟩
  have aE:E2=vw aw.c (hb++[⟨f0,d1,d2,d3,d4,f5,f6⟩]):=by rw [xf,i3,bk];rfl
  have xz:=pmV aE
  have pE:=pmV i3
  have h3:((hb++[(⟨f0,d1,d2,d3,d4,f5,f6⟩:aw)])++(it rest hH).1,(it rest hH).2)=R:=by rw [<-h0];simp
  have nl:(hb++[(⟨f0,d1,d2,d3,d4,f5,f6⟩:aw)]).length=hb.length+1:=by simp
  have t0:g .q .neq (k0) (3)=decide (¬(k0)=(3)):=by rw [bC hg];exact dQ _ _
  have t1:g .q .neq (RR) ((-1))=decide (¬(RR)=((-1))):=by rw [bC hg];exact dQ _ _
  clear xh xi hN hSD i4 i5 hn hS hX ho h9 hr hu hj xg hRR hB1 hFR h5 h6 h7 hAL hf0 hf6 hf5 h4 hL xk
  by_cases q0:k0=3
  case' neg=>
   by_cases q1:RR= -1
  all_goals
   first
    |rw [if_pos ⟨by assumption,by assumption⟩]at hw
    |rw [if_neg (fun hh=>by first|exact hh.1 (by assumption)|exact hh.2 (by assumption))]at hw
   simp only [aK.mk.injEq]at hw
   obtain⟨rfl,rfl⟩:=hw
   ((first|rw [zqu q0]at t0|rw [zqt q0]at t0|rw [zqu (Classical.not_not.2 q0)]at t0|rw [zqt (Classical.not_not.2 q0)]at t0))
   (try((first|rw [zqu q1]at t1|rw [zqt q1]at t1|rw [zqu (Classical.not_not.2 q1)]at t1|rw [zqt (Classical.not_not.2 q1)]at t1)))
   cbv
   rw [hc]
   cbv
   ((repeat'((first|rw [t0]|rw [t1]|refine aa hg cy ?_|refine ad hg hP ?_|refine goX hg _ z0 hy rfl ?_|refine goX hg _ z0 xl rfl ?_|refine fy hg cS (dz (qw (r:=0) (rm:=4) (ra:=5) [.view V,.B rtl,.B keeps] rfl rfl rfl kM dM rfl kA dA) (bv rfl (aj (av rfl) (aj (av rfl) (az))))) rfl ?_|refine fy hg cX (dz (qw (r:=0) (rm:=4) (ra:=5) [.view V,.B rtl,.B keeps] rfl rfl rfl kM dM rfl kA dA) (bv rfl (aj (av rfl) (az)))) rfl ?_|refine fy hg cR (dz (qw (r:=0) (rm:=4) (ra:=5) [.view V,.B rtl,.B keeps] rfl rfl rfl kM dM rfl kA dA) (bv rfl (aj (av rfl) (aj (av rfl) (az))))) rfl ?_);cbv)))
   refine bP hg xn bq [0,1,2,3,4,5,6,7,8,9,10,11,12] (.op 13 [] (.op 14 [] (.op 15 [] .done .none) .none) (.op 14 [] (.op 13 [] (.op 15 [] .done .none) .none) .none)) (by kernel_rfl) (by kernel_rfl) (S:=Unit) (fun _=>True) (fun _=>[(0,.p 0),(2,.v Z),(4,.p 3),(7,.o 6),(8,.i (KN)),(9,.i (z)),(10,.p 7),(11,.p 8),(14,.p 9)]) (fun _=>[.bx 91 5 [.view V,.B rtl,.B keeps,.own 4,.own 5],.gn,.gn,.bx 180 68 (nwL n s0 row al ⟨am,an⟩ KW (.view K)),.rw ⟨157,10,M2⟩,.rw ⟨172,6,A2⟩,.rw ⟨210,7,E⟩,.bx 36 60 (lc (ah.c y.style)),.bx 210 7 [.J d0,.J d1,.J d2,.B d3,.B d4,.J d5,.J d6],.bx 127 4 [.J b0,.J b1,.J b3,.view FR]]) (fun BL xe=> ?_) (fun _ _=> ?_)
   ·cbv
    ((repeat'(first|exact trivial|exact rfl|refine And.intro ?_ ?_|((first|refine goX hg _ z0 hy rfl ?_|refine goX hg _ z0 xl rfl ?_|refine gl rfl hg 0 4 5 cZ rfl rfl rfl (by decide) rfl pM pA ⟨rfl,.inl ⟨rfl,rfl⟩,rfl,.inl ⟨rfl,rfl⟩,.inl ⟨rfl,rfl⟩,zpt⟩ rfl ?_);cbv))))
    all_goals first
     |exact xe () trivial _ _ (Wk.weak (wkM [some 0,none,none,some 3,some 10,some 11,some 6,some 7,some 8,some 12] zr9 ⟨.inr (wqB rfl ⟨zr5,zpt⟩),.inl rfl,.inl rfl,.inr (wqE rfl rfl),.inr (wqE rfl xd),.inr (wqE rfl xc),.inr (wqE rfl pE),.inr (wqE rfl rfl),.inr (wqE rfl rfl),.inr (wqE rfl rfl),zpt⟩ (by decide) ⟨.inl rfl,.inl rfl,.inr rfl,zpt⟩ ⟨.inl rfl,.inl rfl,.inr ⟨_,rfl⟩,zpt⟩))
     |exact xe () trivial _ _ (Wk.weak (wkM [some 0,none,none,some 3,some 11,some 12,some 6,some 7,some 8,some 10] zr9 ⟨.inr (wqB rfl ⟨zr5,zpt⟩),.inl rfl,.inl rfl,.inr (wqE rfl rfl),.inr (wqE rfl xd),.inr (wqE rfl xc),.inr (wqE rfl pE),.inr (wqE rfl rfl),.inr (wqE rfl rfl),.inr (wqE rfl rfl),zpt⟩ (by decide) ⟨.inl rfl,.inl rfl,.inr rfl,zpt⟩ ⟨.inl rfl,.inl rfl,.inr ⟨_,rfl⟩,zpt⟩))
   cbv
   cases row
   all_goals
    (try simp only [Bool.not_false,Bool.not_true,Bool.false_eq_true,if_false]at hC)
    (try simp only [Bool.not_false,Bool.not_true,if_true]at hC)
    subst hC
    (try cbv)
    ((repeat'((first|rw [e1]|refine ad hg hQ ?_|refine ad hg hI ?_|refine ad hg hO ?_|refine dg hg rfl (by decide) xq ?_;cbv;rw [fI hg,<-xf]);cbv)))
    skip
    exact hB (((hb++[⟨f0,d1,d2,d3,d4,f5,f6⟩],hH),M2,A2,E2)) _ _ ⟨h3,⟨hY,hU,aE,by rw [nl];exact xv,by rw [nl];exact xw⟩⟩ (Wk.weak (wkM [some 0,none,none,some 3,some 4,some 5,some 11] zr6 ⟨.inr (wqB rfl ⟨zr5,zpt⟩),.inl rfl,.inl rfl,.inr (wqE rfl rfl),.inr (wqE rfl xd),.inr (wqE rfl xc),.inr (wqE rfl xz),zpt⟩ (by decide) ⟨.inl rfl,.inl rfl,.inr rfl,zpt⟩ ⟨.inl rfl,.inl rfl,.inr ⟨_,rfl⟩,zpt⟩))
theorem ql(ns:List ae)(hl:ns.length<=1048576)(rtl kp:Bool)(C D:AC)(n:Int)(p:Pl)(hkl:p.kids.length<=1048576)(hk:∀hb∈p.kids,isN ns hb=true)(LL:List (List Int))(CC:List Int)(S0:List aw)(ZZ:List Int)(hsl:S0.length=p.kids.length)(hzl:ZZ.length=p.kids.length)(hLl:LL.length<=1048576)(hLb:∀l∈LL,l.length<=1048576)(hlo:∀i:Int,0<=i->i<(p.kids.length:Int)->0<=qY i 0 LL/\qY i 0 LL<(CC.length:Int)):
  bS prog 216 [.c (.eptr [.view (vwA ae.ac ns),.B rtl,.B kp,C,D] 0),.agg (nwL n p.s p.row p.al p.ac (knS p.wide) (.view (vw ak p.kids))),.c (.view (vwA lnA LL)),.c (.view (vw ak CC)),.c (.view (vw aw.c S0)),.c (.view (vw ak ZZ))] fun res hS=>res= .o 0/\hS=[⟨210,7,vw aw.c ((ixs 0 S0.length).map fun i=>zG p ns S0 ZZ (elZ CC (qY i 0 LL)) i)⟩]:=by
 have h5:∀hb∈p.kids,∃y,ns[(hb-1).toNat]? =some y:=fun hb h=>(bd (hk hb h)).2.2
 have hJ:=fun hb(h:hb∈p.kids) y hy Ky Ry=>bg ns hb y (bd (hk hb h)).1 (by have:=(bd (hk hb h)).2.1;omega) hy (vwA ae.ac ns) Ky Ry rfl
 have hn:=fun hb(h:hb∈p.kids) y hy K size=>lI ns hl hb y (hk hb h) hy rtl kp C D n p.s p.row p.al p.ac (knS p.wide) K size
 have hD:=fun i=>pc LL i hLl hLb
 obtain⟨fR,hG⟩:∃f,f=fun i=>zG p ns S0 ZZ (elZ CC (qY i 0 LL)) i:=⟨_,rfl⟩
 have ha:=fun{i:Int}{sd kd z y}(h0:0<=i) h1 h2 h3 h4=>H3 (p:=p) (ns:=ns) (S:=S0) (Z:=ZZ) (c:=elZ CC (qY i 0 LL)) (i:=i) (kd:=kd) (z:=z) (y:=y) (sd:=sd) h0 h1 h2 h3 h4
 have h8:∀i,zG p ns S0 ZZ (elZ CC (qY i 0 LL)) i=fR i:=fun i=>by rw [hG]
 rw [<-hG]
 simp only [h8]at ha
 clear h8 hG
 obtain⟨s0,row,w,h,iw,ih,al,ac,kids⟩:=p
 dsimp only at *
 obtain⟨V,hV⟩:=nmE (vwA ae.ac ns)
 rw [<-hV]at hJ
 simp only [<-hV]at hn
 rw [<-hV]
 obtain⟨K,hK⟩:=nmE (vw ak kids)
 have xo:=lmV hK
 have hn:=fun hb h y hy=>hn hb h y hy K
 have xe:∀{i:Nat}{v:Int},kids[i]? =some v->K[i]? =some [.J v]:=fun h=>by rw [hK];exact aZ h
 obtain⟨Z,hZ⟩:=nmE (vw ak ZZ)
 have xp:=lmV hZ
 have xi:∀{i:Nat}{v:Int},ZZ[i]? =some v->Z[i]? =some [.J v]:=fun h=>by rw [hZ];exact aZ h
 obtain⟨vC,hM⟩:=nmE (vw ak CC)
 have xj:=lmV hM
 have xc:∀{i:Nat}{v:Int},CC[i]? =some v->vC[i]? =some [.J v]:=fun h=>by rw [hM];exact aZ h
 obtain⟨vS,hq⟩:=nmE (vw aw.c S0)
 have hr:=lmV hq
 have xm:=kmV (k:=7) hq fun _=>rfl
 obtain⟨vL,xa⟩:=nmE (vwA lnA LL)
 simp only [<-xa]at hD
 rw [<-hK,<-hZ,<-hM,<-hq,<-xa]
 obtain⟨am,an⟩:=ac
 have ck:=du am an
 obtain⟨KN,hx⟩:=nmE (knS ⟨am,an⟩)
 change PC0 _ _ (.i (knS ⟨am,an⟩))at ck
 rw [<-hx]at ck
 simp only [<-hx]at hn ha
 obtain⟨KW,hz⟩:=nmE (knS iw)
 simp only [<-hz]at hn
 rw [<-hz]
 obtain⟨R,hR⟩:=nmE ((ixs 0 S0.length).map fR)
 rw [<-hR]
 have xf:R.length=kids.length:=by rw [hR,zql,bX,hsl]
 have xh:S0.length<=1048576:=by omega
 have pS:=pmV hq
 clear hx hz hV
 refine aV func216 fun g F hg hF=> ?_
 cbv
 refine goN hg ⟨xm,by show(0+vS.length)*48<=140737488355328;rw [hr];omega,by show 0+vS.length<=4611686018427387904;rw [hr];omega⟩ ?_
 cbv
 rw [fI hg,List.nil_append]
 cbv
 (repeat'(refine ad hg ck ?_;cbv))
 obtain⟨m,hm⟩:∃m:Int,m=(kids.length:Int):=⟨_,rfl⟩
 refine E8 hg bq (by kernel_rfl) m (by omega) (by omega) (fun z(s:List aw×LLA)=>[(0,.t (.c (.eptr [.view V,.B rtl,.B kp,C,D] 0))),(2,.v vL),(3,.v vC),(5,.v Z),(7,.p 0),(13,.o 1),(14,.i (KN)),(15,.i (z))]) (fun z(s:List aw×LLA)=>[.bx 180 68 (nwL n s0 row al ⟨am,an⟩ KW (.view K)),.rw ⟨210,7,s.2⟩]) (fun z(s:List aw×LLA)=>s.2=vw aw.c (s.1++S0.drop s.1.length)/\(s.1.length:Int)=z) (fun rest(s:List aw×LLA)=>s.1++(ixs (s.1.length:Int) rest).map fR) (R) ([],vS) (by show []++(ixs 0 m.toNat).map fR=R;rw [hR,hm,Int.toNat_natCast,hsl];rfl) ⟨hq,rfl⟩ (Wk.weak (wkG [some _,some 2] zr8 ⟨wqE rfl rfl,wqE rfl pS,zpt⟩ (by decide) aB)) (fun s B h0 hi he=> ?_) (fun z s rest B z0 z1 hk h0 hi hc e1 hB=> ?_)
 ·obtain⟨D1,E⟩:=s
  obtain⟨i1,i2⟩:=hi
  dsimp only at i1 i2 h0
  obtain rfl:D1=R:=by simpa [ixs]using h0
  have hE:E=vw aw.c D1:=by rw [i1,List.drop_of_length_le (by omega),zpr]
  have pE:=pmV hE
  have tl:g .ln E=m:=by rw [bz hg,hE,aU,xf,hm]
  rw [<-hE]at hF
  cbv
  rw [tl]
  cbv
  rw [he]
  cbv
  exact bN hF rfl pE
 ·obtain⟨D1,E⟩:=s
  obtain⟨i1,i2⟩:=hi
  dsimp only at i1 i2 h0
  have hO:z.toNat=D1.length:=by omega
  have xg:D1.length<S0.length:=by omega
  have tl:g .ln E=m:=by rw [bz hg,i1,aU,zqe,List.length_drop];omega
  obtain⟨sd,hL⟩:∃sd,S0[z.toNat]? =some sd:=⟨_,zqc (by omega)⟩
  obtain⟨kd,ht⟩:∃kd,kids[z.toNat]? =some kd:=⟨_,zqc (by omega)⟩
  obtain⟨zz,hP⟩:∃zz,ZZ[z.toNat]? =some zz:=⟨_,zqc (by omega)⟩
  have hH:kd∈kids:=zqd ht
  obtain⟨y,hN⟩:=h5 kd hH
  have ha:=ha z0 hL ht hP hN
  have hC:=xe ht
  have hY:=xi hP
  have hw:E[z.toNat]? =some (lc (aw.c sd)):=by rw [i1];exact aZ (by rw [hO,wT rfl,<-hO];exact hL)
  have xk:z<aN E:=by rw [i1,aU];simp;omega
  have ho:∀v,E.set z.toNat (lc (aw.c v))=vw aw.c ((D1++[v])++S0.drop (D1++[v]).length):=fun v=>by
   rw [i1,hO,ny,vN rfl xg];simp
  have h3:(D1++[fR z])++(ixs ((D1++[fR z]).length:Int) rest).map fR=R:=by
   rw [<-h0,show ixs (D1.length:Int) (rest+1)=(D1.length:Int)::ixs ((D1.length:Int)+1) rest from rfl,zqA,i2,zqe,zqm,show((D1.length+1:Nat):Int)=z+1 by omega]
   simp
  have nl:((D1++[fR z]).length:Int)=z+1:=by simp;omega
  obtain⟨lo,hp⟩:=nmE (qY z 0 LL)
  have xl:z<(kids.length:Int):=by omega
  have hd:=hlo z z0 xl
  have hu:=hD z
  rw [<-hp]at hu hd ha
  obtain⟨c,h6⟩:=nmE (elZ CC lo)
  have hU:=xc (lq hd.1 hd.2)
  have hI:=hd.1
  rw [<-h6]at hU ha
  have cy:=hJ kd hH y hN _ _ rfl rfl
  obtain⟨Ky,hW⟩:=nmE (vw ak y.kids)
  obtain⟨Ry,hX⟩:=nmE (vw aC.c y.table.rules)
  rw [<-hW,<-hX]at cy
  have cR:=hn kd hH y hN zz
  obtain⟨y0,y1,y2,y3,y4,y5,y6⟩:=sd
  have cI:=pU ⟨y0,y1,y2,y3,y4,y5,y6⟩
  obtain⟨fb,h7⟩:=nmE (Bq ⟨y0,y1,y2,y3,y4,y5,y6⟩)
  rw [<-h7]at cI ha
  dsimp only at ha
  have cF:=eN y.style (!row) KN
  generalize hFX:qL y.style (!row) KN=FX at cF ha
  generalize hRR:ER y.style (!row) KN zz=RR at cR ha
  have cB:=jl ⟨y0,y1,y2,y3,y4,y5,y6⟩
  change PC0 _ _ (.i (wrap64 (y1+y2)))at cB
  obtain⟨BB,hT⟩:=nmE (wrap64 (y1+y2))
  rw [<-hT]at ha cB
  obtain⟨CB,hv⟩:=nmE (wrap64 (c-BB))
  rw [<-hv]at ha
  have cN:=cY y.style (!row) KN CB
  generalize hf0:mG y.style (!row) KN CB=f0 at cN ha
  simp only [DL]at ha
  have hs:=nj y6 f0
  change PC0 _ _ (.i (tV y6 f0))at hs
  generalize hf6:tV y6 f0=f6 at hs ha
  have t2:g .w .sub .i64 c BB=CB:=by rw [cu hg,hv]
  have t4:g .q .eql (FX) ((-1))=decide ((FX)=((-1))):=by rw [bj hg];exact zqn _ _
  have t5:g .q .eql (RR) ((-1))=decide ((RR)=((-1))):=by rw [bj hg];exact zqn _ _
  have hf:fR z=⟨y0,y1,y2,y3,y4,y5,y6⟩->E=vw aw.c ((D1++[fR z])++S0.drop (D1++[fR z]).length):=fun h=>by rw [h,<-ho,xI hw]
  have hQ:=pmV i1
  have hh:E[z.toNat]? =some [.J y0,.J y1,.J y2,.B y3,.B y4,.J y5,.J y6]:=hw
  clear hv hT hf6 hf0 hRR hFX h7 hW hX h6 hp hd ht hP hL hD hn hJ hlo h5
  cbv
  rw [tl]
  cbv
  rw [hc]
  cbv
  ((repeat'((first|refine aa hg cy ?_|refine goX hg _ z0 hC rfl ?_);cbv)))
  refine goY hg z0 xk fun j hj h9=> ?_
  cbv
  rw [<-hj]at hh ho hw
  refine⟨_,hh,?_⟩
  cbv
  ((repeat'(refine aa hg cI ?_;cbv)))
  cases fb
  case false=>
   simp only [Bool.false_eq_true,false_and,if_false]at ha
   cbv
   ((repeat'(rw [e1];cbv)))
   exact hB ((D1++[fR z],E)) _ _ ⟨h3,⟨hf ha,nl⟩⟩ (Wk.weak (wkG [some _,some 1] zr8 ⟨wqE rfl rfl,wqE rfl hQ,zpt⟩ (by decide) aB))
  by_cases q4:FX= -1
  case neg=>
   rw [if_neg (fun h=>q4 h.2.1)]at ha
   (first|rw [zqu q4]at t4|rw [zqt q4]at t4|rw [zqu (Classical.not_not.2 q4)]at t4|rw [zqt (Classical.not_not.2 q4)]at t4)
   cbv
   ((repeat'((first|rw [t4]|rw [e1]|refine aa hg cF ?_);cbv)))
   exact hB ((D1++[fR z],E)) _ _ ⟨h3,⟨hf ha,nl⟩⟩ (Wk.weak (wkG [some _,some 1] zr8 ⟨wqE rfl rfl,wqE rfl hQ,zpt⟩ (by decide) aB))
  by_cases q5:RR= -1
  case neg=>
   rw [if_neg (fun h=>q5 h.2.2)]at ha
   (first|rw [zqu q4]at t4|rw [zqt q4]at t4|rw [zqu (Classical.not_not.2 q4)]at t4|rw [zqt (Classical.not_not.2 q4)]at t4)
   (first|rw [zqu q5]at t5|rw [zqt q5]at t5|rw [zqu (Classical.not_not.2 q5)]at t5|rw [zqt (Classical.not_not.2 q5)]at t5)
   cbv
   ((repeat'((first|rw [t4]|rw [t5]|rw [e1]|refine aa hg cF ?_|refine aa hg cR ?_|refine goX hg _ z0 hC rfl ?_|refine goX hg _ z0 hY rfl ?_);cbv)))
   exact hB ((D1++[fR z],E)) _ _ ⟨h3,⟨hf ha,nl⟩⟩ (Wk.weak (wkG [some _,some 1] zr8 ⟨wqE rfl rfl,wqE rfl hQ,zpt⟩ (by decide) aB))
  rw [if_pos ⟨rfl,q4,q5⟩]at ha
  (first|rw [zqu q4]at t4|rw [zqt q4]at t4|rw [zqu (Classical.not_not.2 q4)]at t4|rw [zqt (Classical.not_not.2 q4)]at t4)
  (first|rw [zqu q5]at t5|rw [zqt q5]at t5|rw [zqu (Classical.not_not.2 q5)]at t5|rw [zqt (Classical.not_not.2 q5)]at t5)
  have hA:(g .st E j [.J f0,.J y1,.J y2,.B y3,.B y4,.J y5,.J y6])[j]? =some [.J f0,.J y1,.J y2,.B y3,.B y4,.J y5,.J y6]:=by rw [jC hg];exact zpm h9
  have xb:j<(g .st E j [.J f0,.J y1,.J y2,.B y3,.B y4,.J y5,.J y6]).length:=(zqb.1 hA).1
  cbv
  ((repeat'((first|rw [t4]|rw [t5]|rw [t2]|rw [e1]|refine aa hg cF ?_|refine aa hg cR ?_|refine aa hg hu ?_|refine aa hg cB ?_|refine aa hg cN ?_|refine aa hg hs ?_|refine goX hg _ z0 hC rfl ?_|refine goX hg _ z0 hY rfl ?_|refine goX hg _ hI hU rfl ?_|refine DG hg z0 hj h9 ?_|refine DG hg z0 hj xb ?_|refine⟨_,hh,?_⟩|refine⟨_,hA,?_⟩);cbv)))
  generalize hG1:g .st _ j _=E2
  have xd:E2=g .st (g .st E j [.J f0,.J y1,.J y2,.B y3,.B y4,.J y5,.J y6]) j [.J f0,.J y1,.J y2,.B y3,.B y4,.J y5,.J f6]:=hG1.symm
  have aE:E2=vw aw.c ((D1++[fR z])++S0.drop (D1++[fR z]).length):=by
   rw [ha,<-ho,xd,jC hg,jC hg,List.set_set];rfl
  have xn:=pmV aE
  exact hB ((D1++[fR z],E2)) _ _ ⟨h3,⟨aE,nl⟩⟩ (Wk.weak (wkG [some _,some 1] zr8 ⟨wqE rfl rfl,wqE rfl xn,zpt⟩ (by decide) aB))
end
end Go.Proofs.YtckchgoblpgpbaaGreat
