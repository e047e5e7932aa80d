/- The reference's sides that fill their lines. -/
import Derived.Test.YtdnnffbbhijmkaaGreatQbp
set_option linter.unusedVariables false
set_option linter.unusedSimpArgs false
set_option maxHeartbeats 32000000
namespace Go.Proofs.YtdnnffbbhijmkaaGreat
open Go.ChangeShapes Go.WideShapes Go.ChangeAt Go.RowKit Am Go.Proofs.Tryz
set_option maxRecDepth 100000
def Bz(k:ar)(w:Bool)(base size:Int):Int:=if qM k w base= -1 then rC k w size else-1
theorem kj(ns:List ak)(hl:ns.length≤1048576)(kid:Int)(y:ak)(h1:isN ns kid=true)(hy:ns[(kid-1).toNat]? =some y)(rtl kp:Bool)(C D:AC)(n:Int)(s:ar)(row:Bool)(al ac:aw)(kn:Int)(K:LLA)(size:Int):PC0 183 [.c (.eptr [.view (vwA ak.ac ns),.B rtl,.B kp,C,D] 0),.agg (nwL n s row al ac kn (.view K)),ai kid,ai size] (.i (Bz y.style (!row) (knS ac) size)):=by
 obtain⟨V,hV⟩:=nmE (vwA ak.ac ns)
 obtain⟨Ky,hKy⟩:=nmE (vw ao y.kids)
 obtain⟨Ry,hRy⟩:=nmE (vw aJ.c y.table.rules)
 have b2:=bF h1
 have cy:=bL ns kid y b2.1 (by have:=b2.2.1;omega) hy V Ky Ry hV hKy hRy
 have ck:=de ac.mode ac.n
 change PC0 _ _ (.i (knS ac))at ck
 have cf:=fX y.style (!row) (knS ac)
 have cr:=l8 y.style (!row) size
 rw [←hV]
 unfold Bz
 obtain⟨am,an⟩:=ac
 obtain⟨KN,hKN⟩:=nmE (knS ⟨am,an⟩);(try rw [←hKN]at ck);(try rw [←hKN]at cf);(try rw [←hKN]at⊢)
 obtain⟨FX,hFX⟩:=nmE (qM y.style (!row) KN);(try rw [←hFX]at cf);(try rw [←hFX]at⊢)
 obtain⟨RT,hRT⟩:=nmE (rC y.style (!row) size);(try rw [←hRT]at cr);(try rw [←hRT]at⊢)
 clear hKN hFX hRT hV hKy hRy
 by_cases q1:FX= -1
 all_goals
  first|rw [if_pos q1]|rw [if_neg q1]
  refine ae (aK f183) aD func183 fun g F hg hF=> ?_
  have t0:g .q .neq (FX) ((-1))=decide (¬(FX)=((-1))):=by rw [bk hg];exact dx _ _
  (first|rw [zqu q1]at t0|rw [zqt q1]at t0|rw [zqu (Classical.not_not.2 q1)]at t0|rw [zqt (Classical.not_not.2 q1)]at t0)
  cbv
  ((repeat'((first|rw [t0]|refine ad hg cy ?_|refine aa hg cy ?_|refine ad hg ck ?_|refine aa hg ck ?_|refine ad hg cf ?_|refine aa hg cf ?_|refine ad hg cr ?_|refine aa hg cr ?_);cbv)))
  exact ba hF rfl
theorem mN(ns:List ak)(hl:ns.length≤1048576)(rtl keeps:Bool)(bx:Bx)(c L:Nat)(n:Int)(p:Pl)(zs:List Int)(hkl:p.kids.length<20)(hzs:zs.length=p.kids.length)(hk:∀kid∈p.kids,isN ns kid=true)(hbx:∀kid∈p.kids,yr (vwA ak.ac ns) rtl keeps bx c L kid)(st:St)(hm:st.1.length+20*c≤L)(hq:st.2.length+20*c≤L):
  SE prog 96 (sR (vwA ak.ac ns) rtl keeps) (SM st.1) (SA st.2) [.c (.ptr 0 0 0),.agg (nwL n p.s p.row p.al p.ac (knS p.wide) (.view (vw ao p.kids))),.c (.view (vw ao zs))] (.t (.c (.view (vw av.c (tu bx p rtl ns (p.kids.zip zs) st).1)))) (SM (tu bx p rtl ns (p.kids.zip zs) st).2.1) (SA (tu bx p rtl ns (p.kids.zip zs) st).2.2):=by
 refine vh (t:=126) (k:=7) (V:=vw av.c (tu bx p rtl ns (p.kids.zip zs) st).1) (R:= .o 5) ?_ (bC (c:=av.c) (k:=7) fun _=>rfl) az rfl rfl rfl
 have hqK:=wk hzs
 have hqa:=fun{i t} h=>za (a:=p.kids) (b:=zs) (i:=i) (t:=t) h
 have hql:(p.kids.zip zs).length=p.kids.length:=by rw [zqB];omega
 have hat:∀kid∈p.kids,∃y,ns[(kid-1).toNat]? =some y:=fun kid h=>(bF (hk kid h)).2.2
 have hnd:=fun kid(h:kid∈p.kids) y hy Ky Ry=>bL ns kid y (bF (hk kid h)).1 (by have:=(bF (hk kid h)).2.1;omega) hy (vwA ak.ac ns) Ky Ry rfl
 have hAs:=fun kid(h:kid∈p.kids) K a0 a1 c0 c1 st h1 h2=>mO (vwA ak.ac ns) rtl keeps bx c L kid (hbx kid h) n p.s p.row p.al p.ac (knS p.wide) K a0 a1 c0 c1 st h1 h2
 have hS:=fun kid(h:kid∈p.kids) y hy C D K=>fy ns hl kid y (hk kid h) hy rtl false keeps C D n p.s p.row p.al p.ac (knS p.wide) K
 have hX:=fun kid(h:kid∈p.kids) y hy C D K=>ko ns hl kid y (hk kid h) hy rtl keeps C D n p.s p.row p.al p.ac (knS p.wide) K
 have hRt:=fun kid(h:kid∈p.kids) y hy C D K size=>kj ns hl kid y (hk kid h) hy rtl keeps C D n p.s p.row p.al p.ac (knS p.wide) K size
 have hlen:=fun kid(h:kid∈p.kids) al ac st=>wZ (hbx kid h) p.row al ac st
 clear hbx
 obtain⟨f,hf⟩:∃f,f=fun kid al ac st=>sW bx p.row kid al ac st:=⟨_,rfl⟩
 have hfe:∀kid al ac st,sW bx p.row kid al ac st=f kid al ac st:=fun k a b st=>by rw [hf]
 simp only [hfe]at hAs hlen
 obtain⟨it,hit⟩:∃it,it=fun ks st=>tu bx p rtl ns ks st:=⟨_,rfl⟩
 have hite:∀ks st,tu bx p rtl ns ks st=it ks st:=fun ks st=>by rw [hit]
 have hi0:∀st,it [] st=([],st):=fun st=>by rw [hit];rfl
 have hi1:∀k z r st,it ((k,z)::r) st=(FS p (kst ns k) rtl (f k ⟨3,z⟩ (y9 p (kst ns k) rtl z) st).1::(it r (f k ⟨3,z⟩ (y9 p (kst ns k) rtl z) st).2).1,(it r (f k ⟨3,z⟩ (y9 p (kst ns k) rtl z) st).2).2):=fun k z r st=>by rw [hit,hf];rfl
 simp only [hite]
 clear hf hit hfe hite
 obtain⟨s0,row,w,h,iw,ih,al,ac,kids⟩:=p
 dsimp only at *
 change∀kid(hh:kid∈kids) y,ns[(kid-1).toNat]? =some y→∀C D K,PC0 _ _ (.t (agP (kcX ⟨s0,row,w,h,iw,ih,al,ac,kids⟩ y.style rtl)))at hX
 obtain⟨V,hV⟩:=nmE (vwA ak.ac ns)
 rw [←hV]at hnd
 simp only [←hV]at hAs hS hX hRt
 rw [←hV]
 obtain⟨Z,hZ⟩:=nmE (vw ao zs)
 have hZl:Z.length=zs.length:=by rw [hZ,af]
 have iZ:bR Z=true:=by rw [hZ];exact aG _ _
 have kZ:∀y∈Z,y.length=1:=by rw [hZ];exact bC (c:=ao) (k:=1) fun _=>rfl
 have dZ:∀y∈Z,y.all dat=true:=by rw [hZ];exact az
 have hZx:∀{i:Nat}{v:Int},zs[i]? =some v→Z[i]? =some [.J v]:=fun h=>by rw [hZ];exact bh h
 obtain⟨K,hK⟩:=nmE (vw ao kids)
 have hKl:K.length=kids.length:=by rw [hK,af]
 have iK:bR K=true:=by rw [hK];exact aG _ _
 have kK:∀y∈K,y.length=1:=by rw [hK];exact bC (c:=ao) (k:=1) fun _=>rfl
 have dK:∀y∈K,y.all dat=true:=by rw [hK];exact az
 have hAs:=fun kid h=>hAs kid h K
 have hS:=fun kid h y hy C D=>hS kid h y hy C D K
 have hX:=fun kid h y hy C D=>hX kid h y hy C D K
 have hRt:=fun kid h y hy C D=>hRt kid h y hy C D K
 rw [←hK,←hZ]
 rw [←hK]at hqK
 obtain⟨am,an⟩:=ac
 have ck:=de am an
 obtain⟨KN,hKN⟩:=nmE (knS ⟨am,an⟩)
 change PC0 _ _ (.i (knS ⟨am,an⟩))at ck
 rw [←hKN]at ck
 simp only [←hKN]at hRt
 have hi1:∀k z r st y,ns[(k-1).toNat]? =some y→∀kc,kc=kcX ⟨s0,row,w,h,iw,ih,al,⟨am,an⟩,kids⟩ y.style rtl→∀ax,ax=(if kc.mode≠3∧Bz y.style (!row) KN z≠ -1 then(⟨3,oM y.style (!row) KN (Bz y.style (!row) KN z)⟩:aw)else kc)→∀rr,rr=f k ⟨3,z⟩ ax st→it ((k,z)::r) st=((⟨oM y.style (!row) KN (alB (!row) rr.1),(sdB s0 y.style rtl false (knS iw)).before,(sdB s0 y.style rtl false (knS iw)).behind,(sdB s0 y.style rtl false (knS iw)).autoBefore,(sdB s0 y.style rtl false (knS iw)).autoBehind,yZ s0 y.style,rF rr.1.base (oM y.style (!row) KN (alB (!row) rr.1))⟩:av)::(it r rr.2).1,(it r rr.2).2):=fun k z r st y hy kc hkc ax hax rr hrr=>by
  rw [hi1,iz hy]
  have e:y9 ⟨s0,row,w,h,iw,ih,al,⟨am,an⟩,kids⟩ y.style rtl z=ax:=by
   rw [hax]
   unfold y9 Bz
   dsimp only
   rw [←hkc,←hKN]
   by_cases q1:kc.mode=3<;>by_cases q2:qM y.style (!row) KN= -1<;>by_cases q3:rC y.style (!row) z= -1<;>simp [q1,q2,q3]
  rw [e,←hrr,hKN];rfl
 obtain⟨qs,hqs⟩:=nmE (kids.zip zs)
 rw [←hqs]at hqK hql
 simp only [←hqs]at hqa
 rw [←hqs]
 obtain⟨R,hR⟩:=nmE (it qs st)
 rw [←hR]
 obtain⟨KW,hKW⟩:=nmE (knS iw);(try rw [←hKW]at hAs);(try rw [←hKW]at hS);(try rw [←hKW]at hX);(try rw [←hKW]at hRt);(try rw [←hKW]at hi1);(try rw [←hKW]at⊢)
 obtain⟨M0,hM0⟩:=nmE (SM st.1)
 obtain⟨A0,hA0⟩:=nmE (SA st.2)
 have pM0:aj M0=true:=by rw [hM0];exact bX _
 have pA0:aj A0=true:=by rw [hA0];exact bZ _
 rw [←hM0,←hA0]
 have hql2:qs.length≤1048576:=by omega
 have hRl:R.1.length=qs.length:=by
  rw [hR]
  have:∀ks:List (Int×Int),(∀k∈ks,k.1∈kids)→∀st,(it ks st).1.length=ks.length:=by
   intro ks
   induction ks with
   |nil=>intro _ st;rw [hi0];rfl
   |cons k ks ih=>
    intro hs st
    obtain⟨k,z⟩:=k
    obtain⟨y,hy⟩:=hat k (hs (k,z) (List.mem_cons_self ..))
    rw [hi1 k z ks st y hy _ rfl _ rfl _ rfl]
    simp [ih (fun x hx=>hs x (List.mem_cons_of_mem _ hx))]
  refine this qs (fun k hkm=> ?_) st
  obtain⟨i,hi⟩:=List.mem_iff_getElem?.1 hkm
  exact zqd (hqa hi).1
 clear hKN hV hqs
 refine du ([(12,.hand)]) ([]) (c:=aK f96) aD func96 (by kernel_rfl) (by kernel_rfl) (bl (by rfl)) (by kernel_rfl) (fun g eff hd F heff hhd hg hF=> ?_)
 cbv
 (repeat'((first|refine ad hg ck ?_|refine aa hg ck ?_);cbv))
 replace hK:=hqK
 refine lA ([(12,.hand)]) ([]) heff hhd hg aD (by kernel_rfl) K (fun t=>lc (ao t.1)) qs hK hql2 (fun z(s:(List av×St)×LLA×LLA×LLA)=>[(0,.p 0),(2,.v Z),(4,.p 3),(7,.o 6),(8,.i (KN)),(9,.i (z))]) (fun z(s:(List av×St)×LLA×LLA×LLA)=>[.bx 79 5 [.view V,.B rtl,.B keeps,.own 4,.own 5],.gn,.gn,.bx 89 68 (nwL n s0 row al ⟨am,an⟩ KW (.view K)),.rw ⟨199,10,s.2.1⟩,.rw ⟨206,6,s.2.2.1⟩,.rw ⟨126,7,s.2.2.2⟩]) (fun z(s:(List av×St)×LLA×LLA×LLA)=>s.2.1=SM s.1.2.1∧s.2.2.1=SA s.1.2.2∧s.2.2.2=vw av.c s.1.1∧s.1.2.1.length≤st.1.length+s.1.1.length*c∧s.1.2.2.length≤st.2.length+s.1.1.length*c) (fun(s:(List av×St)×LLA×LLA×LLA) rest=>(s.1.1++(it rest s.1.2).1,(it rest s.1.2).2)) (R) (([],st),M0,A0,[]) (by rw [hR];rfl) ⟨hM0,hA0,rfl,by simp,by simp⟩ (Wk.weak (wkM [some 0,none,none,some 3,some 1,some 2,some 4] ⟨rfl,rfl,rfl,rfl,rfl,rfl,trivial⟩ ⟨.inr ⟨_,_,rfl,rfl,rfl,rfl,.inr ⟨⟨rfl,rfl,rfl,rfl,rfl,trivial⟩,trivial⟩⟩,.inl rfl,.inl rfl,.inr (wqE rfl rfl),.inr (wqE rfl pM0),.inr (wqE rfl pA0),.inr (wqE rfl rfl),trivial⟩ (by decide) ⟨.inl rfl,.inl rfl,.inr rfl,trivial⟩ ⟨.inl rfl,.inl rfl,.inr ⟨_,rfl⟩,trivial⟩)) (fun z s B hz h0 hi he=> ?_) (fun z s x rest B z0 z1 z2 hx hy h0 hi hc e1 hB=> ?_)
 ·obtain⟨⟨out,st1⟩,M1,A1,E⟩:=s
  obtain⟨i1,i2,i3,i4,i5⟩:=hi
  dsimp only at i1 i2 i3 h0
  obtain rfl:R=(out,st1):=by rw [←h0,hi0];simp
  have pM1:aj M1=true:=by rw [i1];exact bX _
  have pA1:aj A1=true:=by rw [i2];exact bZ _
  have pE:aj E=true:=by rw [i3];exact ag _ _
  cbv;rw [he];cbv
  subst i1 i2 i3
  exact Ax 4 5 6 hF rfl rfl rfl rfl rfl rfl (by decide) rfl pM1 pA1 pE
 ·obtain⟨⟨out,st1⟩,M1,A1,E⟩:=s
  obtain⟨x0,x1⟩:=x
  obtain⟨i1,i2,i3,i4,i5⟩:=hi
  dsimp only at i1 i2 i3 i4 i5 h0 hy
  have hxa:=hqa hx
  have hxm:x0∈kids:=zqd hxa.1
  have hZz:=hZx hxa.2
  obtain⟨y,hyx⟩:=hat x0 hxm
  have hi1x:=hi1 x0 x1 rest st1 y hyx _ rfl _ rfl _ rfl
  have hn:=fun al ac=>hlen x0 hxm al ac st1
  have hz20:out.length+1≤20:=by
   have:=congrArg (fun r=>r.1.length) h0
   rw [hi1x]at this
   simp only [zqe,zqx]at this
   omega
  rw [hi1x]at h0
  clear hi1x
  have hEl:E.length≤1048576:=by rw [i3,af];omega
  have pM:aj M1=true:=by rw [i1];exact bX _
  have pA:aj A1=true:=by rw [i2];exact bZ _
  have kM:∀y∈M1,y.length=10:=by rw [i1];exact Gk _
  have dM:∀y∈M1,y.all dat=true:=by rw [i1];exact ym _
  have kA:∀y∈A1,y.length=6:=by rw [i2];exact Gl _
  have dA:∀y∈A1,y.all dat=true:=by rw [i2];exact yn _
  have cS:=hS x0 hxm y hyx (.view M1) (.view A1)
  have cX:=hX x0 hxm y hyx (.view M1) (.view A1)
  have cR:=hRt x0 hxm y hyx (.view M1) (.view A1) x1
  have cy:=hnd x0 hxm y hyx _ _ rfl rfl
  obtain⟨Ky,hKy⟩:=nmE (vw ao y.kids)
  obtain⟨Ry,hRy⟩:=nmE (vw aJ.c y.table.rules)
  rw [←hKy,←hRy]at cy
  obtain⟨SD,hSD⟩:=nmE (sdB s0 y.style rtl false KW);(try rw [←hSD]at cS);(try rw [←hSD]at h0)
  obtain⟨d0,d1,d2,d3,d4,d5,d6⟩:=SD
  obtain⟨⟨k0,k1⟩,hKC⟩:∃q,q=kcX ⟨s0,row,w,h,iw,ih,al,⟨am,an⟩,kids⟩ y.style rtl:=⟨_,rfl⟩
  rw [←hKC]at cX h0
  obtain⟨RR,hRR⟩:=nmE (Bz y.style (!row) KN x1);(try rw [←hRR]at cR);(try rw [←hRR]at h0)
  have cb1:=eV y.style (!row) KN RR
  obtain⟨B1,hB1⟩:=nmE (oM y.style (!row) KN RR);(try rw [←hB1]at cb1);(try rw [←hB1]at h0)
  dsimp only at h0
  obtain⟨⟨j0,j1⟩,hAX⟩:∃q,q=(if k0≠3∧RR≠ -1 then(⟨3,B1⟩:aw)else⟨k0,k1⟩):=⟨_,rfl⟩
  rw [←hAX]at h0
  have cZ:=hAs x0 hxm 3 x1 j0 j1 st1 (tB i4 hm hz20) (tB i5 hq hz20)
  rw [←i1,←i2]at cZ
  have hn:=hn ⟨3,x1⟩ ⟨j0,j1⟩
  obtain⟨⟨bb,st2⟩,hrr⟩:∃r,r=f x0 ⟨3,x1⟩ ⟨j0,j1⟩ st1:=⟨_,rfl⟩
  rw [←hrr]at cZ hn h0
  dsimp only at cZ hn h0
  have j1':=na i4 hn.1
  have j2':=na i5 hn.2
  have hal:alB (!row) bb=if !row then bb.wide else bb.high:=rfl
  rw [acE]at cZ
  obtain⟨FR,hFR⟩:=nmE (vw aV.c bb.frames);(try rw [←hFR]at cZ)
  obtain⟨b0,hb0⟩:=nmE bb.wide
  obtain⟨b1,hb1⟩:=nmE bb.high
  obtain⟨b3,hb3⟩:=nmE bb.base
  rw [←hb0,←hb1,←hb3]at cZ
  rw [←hb0,←hb1]at hal
  rw [←hb3]at h0
  obtain⟨AL,hAL⟩:=nmE (alB (!row) bb);(try rw [←hAL]at hal);(try rw [←hAL]at h0)
  have cb2:=eV y.style (!row) KN AL
  obtain⟨f0,hf0⟩:=nmE (oM y.style (!row) KN AL);(try rw [←hf0]at cb2);(try rw [←hf0]at h0)
  have cLs:=l5 b3 f0
  change PC0 _ _ (.i (rF b3 f0))at cLs
  obtain⟨f6,hf6⟩:=nmE (rF b3 f0);(try rw [←hf6]at cLs);(try rw [←hf6]at h0)
  have cAl:=l9 s0 y.style
  obtain⟨f5,hf5⟩:=nmE (yZ s0 y.style);(try rw [←hf5]at cAl);(try rw [←hf5]at h0)
  obtain⟨M2,hM2⟩:=nmE (SM st2.1)
  obtain⟨A2,hA2⟩:=nmE (SA st2.2)
  have pM2:aj M2=true:=by rw [hM2];exact bX _
  have pA2:aj A2=true:=by rw [hA2];exact bZ _
  rw [←hM2,←hA2]at cZ
  obtain⟨E2,hE2⟩:∃E2,E2=E++[[.J f0,.J d1,.J d2,.B d3,.B d4,.J f5,.J f6]]:=⟨_,rfl⟩
  have aE:E2=vw av.c (out++[⟨f0,d1,d2,d3,d4,f5,f6⟩]):=by rw [hE2,i3,bA];rfl
  have pE2:aj E2=true:=by rw [aE];exact ag _ _
  have pE:aj E=true:=by rw [i3];exact ag _ _
  have h3:((out++[(⟨f0,d1,d2,d3,d4,f5,f6⟩:av)])++(it rest st2).1,(it rest st2).2)=R:=by rw [←h0];simp
  have nl:(out++[(⟨f0,d1,d2,d3,d4,f5,f6⟩:av)]).length=out.length+1:=by simp
  have t0:g .q .neq (k0) (3)=decide (¬(k0)=(3)):=by rw [bk hg];exact dx _ _
  have t1:g .q .neq (RR) ((-1))=decide (¬(RR)=((-1))):=by rw [bk hg];exact dx _ _
  clear hKy hRy hrr hSD i4 i5 hn hS hX hRt hnd hlen hi1 hAs hKC hRR hB1 hFR hb0 hb1 hb3 hAL hf0 hf6 hf5 hat hqa hZx
  by_cases q0:k0=3
  case' neg=>
   by_cases q1:RR= -1
  all_goals
   first
    |rw [if_pos ⟨by assumption,by assumption⟩]at hAX
    |rw [if_neg (fun hh=>by first|exact hh.1 (by assumption)|exact hh.2 (by assumption))]at hAX
   simp only [aw.mk.injEq]at hAX
   obtain⟨rfl,rfl⟩:=hAX
   ((first|rw [zqu q0]at t0|rw [zqt q0]at t0|rw [zqu (Classical.not_not.2 q0)]at t0|rw [zqt (Classical.not_not.2 q0)]at t0))
   (try((first|rw [zqu q1]at t1|rw [zqt q1]at t1|rw [zqu (Classical.not_not.2 q1)]at t1|rw [zqt (Classical.not_not.2 q1)]at t1)))
   cbv
   rw [hc]
   cbv
   ((repeat'((first|rw [t0]|rw [t1]|refine ad hg cy ?_|refine aa hg cy ?_|refine ad hg cb1 ?_|refine aa hg cb1 ?_|refine goX hg _ z0 hy rfl ?_|refine goX hg _ z0 hZz rfl ?_|refine gR hg cS (dm (o3 (r:=0) (rm:=4) (ra:=5) [.view V,.B rtl,.B keeps] rfl rfl rfl kM dM rfl kA dA) (bM rfl (aq (ay rfl) (aq (ay rfl) (aF))))) rfl ?_|refine eN hg cS (dm (o3 (r:=0) (rm:=4) (ra:=5) [.view V,.B rtl,.B keeps] rfl rfl rfl kM dM rfl kA dA) (bM rfl (aq (ay rfl) (aq (ay rfl) (aF))))) rfl ?_|refine gR hg cX (dm (o3 (r:=0) (rm:=4) (ra:=5) [.view V,.B rtl,.B keeps] rfl rfl rfl kM dM rfl kA dA) (bM rfl (aq (ay rfl) (aF)))) rfl ?_|refine eN hg cX (dm (o3 (r:=0) (rm:=4) (ra:=5) [.view V,.B rtl,.B keeps] rfl rfl rfl kM dM rfl kA dA) (bM rfl (aq (ay rfl) (aF)))) rfl ?_|refine gR hg cR (dm (o3 (r:=0) (rm:=4) (ra:=5) [.view V,.B rtl,.B keeps] rfl rfl rfl kM dM rfl kA dA) (bM rfl (aq (ay rfl) (aq (ay rfl) (aF))))) rfl ?_|refine eN hg cR (dm (o3 (r:=0) (rm:=4) (ra:=5) [.view V,.B rtl,.B keeps] rfl rfl rfl kM dM rfl kA dA) (bM rfl (aq (ay rfl) (aq (ay rfl) (aF))))) rfl ?_);cbv)))
   refine ek hg hhd aD [0,1,2,3,4,5,6,7,8,9,10,11,12] (.op 13 [] (.op 14 [] (.op 15 [] .done .none) .none) (.op 14 [] (.op 13 [] (.op 15 [] .done .none) .none) .none)) (by kernel_rfl) (by kernel_rfl) (S:=Unit) (fun _=>True) (fun _=>[(0,.p 0),(2,.v Z),(4,.p 3),(7,.o 6),(8,.i (KN)),(9,.i (z)),(10,.p 7),(11,.p 8),(14,.p 9)]) (fun _=>[.bx 79 5 [.view V,.B rtl,.B keeps,.own 4,.own 5],.gn,.gn,.bx 89 68 (nwL n s0 row al ⟨am,an⟩ KW (.view K)),.rw ⟨199,10,M2⟩,.rw ⟨206,6,A2⟩,.rw ⟨126,7,E⟩,.bx 87 60 (lc (ar.c y.style)),.bx 126 7 [.J d0,.J d1,.J d2,.B d3,.B d4,.J d5,.J d6],.bx 64 4 [.J b0,.J b1,.J b3,.view FR]]) (fun BL hBL=> ?_) (fun _ _=> ?_)
   ·cbv
    ((repeat'(first|exact trivial|exact rfl|refine And.intro ?_ ?_|((first|refine goX hg _ z0 hy rfl ?_|refine goX hg _ z0 hZz rfl ?_|refine iC rfl hg 0 4 5 cZ rfl rfl rfl (by decide) rfl pM pA ⟨rfl,.inl ⟨rfl,rfl⟩,rfl,.inl ⟨rfl,rfl⟩,.inl ⟨rfl,rfl⟩,trivial⟩ rfl ?_);cbv))))
    all_goals first
     |exact hBL () trivial _ _ (Wk.weak (wkM [some 0,none,none,some 3,some 10,some 11,some 6,some 7,some 8,some 12] ⟨rfl,rfl,rfl,rfl,rfl,rfl,rfl,rfl,rfl,trivial⟩ ⟨.inr ⟨_,_,rfl,rfl,rfl,rfl,.inr ⟨⟨rfl,rfl,rfl,rfl,rfl,trivial⟩,trivial⟩⟩,.inl rfl,.inl rfl,.inr (wqE rfl rfl),.inr (wqE rfl pM2),.inr (wqE rfl pA2),.inr (wqE rfl pE),.inr (wqE rfl rfl),.inr (wqE rfl rfl),.inr (wqE rfl rfl),trivial⟩ (by decide) ⟨.inl rfl,.inl rfl,.inr rfl,trivial⟩ ⟨.inl rfl,.inl rfl,.inr ⟨_,rfl⟩,trivial⟩))
     |exact hBL () trivial _ _ (Wk.weak (wkM [some 0,none,none,some 3,some 11,some 12,some 6,some 7,some 8,some 10] ⟨rfl,rfl,rfl,rfl,rfl,rfl,rfl,rfl,rfl,trivial⟩ ⟨.inr ⟨_,_,rfl,rfl,rfl,rfl,.inr ⟨⟨rfl,rfl,rfl,rfl,rfl,trivial⟩,trivial⟩⟩,.inl rfl,.inl rfl,.inr (wqE rfl rfl),.inr (wqE rfl pM2),.inr (wqE rfl pA2),.inr (wqE rfl pE),.inr (wqE rfl rfl),.inr (wqE rfl rfl),.inr (wqE rfl rfl),trivial⟩ (by decide) ⟨.inl rfl,.inl rfl,.inr rfl,trivial⟩ ⟨.inl rfl,.inl rfl,.inr ⟨_,rfl⟩,trivial⟩))
   cbv
   cases row
   all_goals
    (try simp only [Bool.not_false,Bool.not_true,Bool.false_eq_true,if_false]at hal)
    (try simp only [Bool.not_false,Bool.not_true,if_true]at hal)
    subst hal
    (try cbv)
    ((repeat'((first|rw [e1]|refine ad hg cb2 ?_|refine aa hg cb2 ?_|refine ad hg cLs ?_|refine aa hg cLs ?_|refine ad hg cAl ?_|refine aa hg cAl ?_|refine dl hg rfl (by decide) hEl ?_;cbv;rw [gG hg,←hE2]);cbv)))
    skip
    exact hB (((out++[⟨f0,d1,d2,d3,d4,f5,f6⟩],st2),M2,A2,E2)) _ _ ⟨h3,⟨hM2,hA2,aE,by rw [nl];exact j1',by rw [nl];exact j2'⟩⟩ (Wk.weak (wkM [some 0,none,none,some 3,some 4,some 5,some 11] ⟨rfl,rfl,rfl,rfl,rfl,rfl,trivial⟩ ⟨.inr ⟨_,_,rfl,rfl,rfl,rfl,.inr ⟨⟨rfl,rfl,rfl,rfl,rfl,trivial⟩,trivial⟩⟩,.inl rfl,.inl rfl,.inr (wqE rfl rfl),.inr (wqE rfl pM2),.inr (wqE rfl pA2),.inr (wqE rfl pE2),trivial⟩ (by decide) ⟨.inl rfl,.inl rfl,.inr rfl,trivial⟩ ⟨.inl rfl,.inl rfl,.inr ⟨_,rfl⟩,trivial⟩))
theorem D6{p:Pl}{ns:List ak}{S:List av}{Z:List Int}{c i kd z:Int}{y:ak}{sd:av}(h0:0≤i)(hS:S[i.toNat]? =some sd)(hK:p.kids[i.toNat]? =some kd)(hZ:Z[i.toNat]? =some z)(hy:ns[(kd-1).toNat]? =some y):
  wP p ns S Z c i=if xW sd=true∧qM y.style (!p.row) (knS p.ac)= -1∧Bz y.style (!p.row) (knS p.ac) z= -1 then Ay sd (oM y.style (!p.row) (knS p.ac) (wrap64 (c-wrap64 (sd.before+sd.behind))))else sd:=by
 rw [Az h0 hS hK hZ hy]
 unfold Bz
 by_cases q:qM y.style (!p.row) (knS p.ac)= -1<;>simp [q]
theorem oQ(ns:List ak)(hl:ns.length≤1048576)(rtl kp:Bool)(C D:AC)(n:Int)(p:Pl)(hkl:p.kids.length≤1048576)(hk:∀kid∈p.kids,isN ns kid=true)(LL:List (List Int))(CC:List Int)(S0:List av)(ZZ:List Int)(hsl:S0.length=p.kids.length)(hzl:ZZ.length=p.kids.length)(hLl:LL.length≤1048576)(hLb:∀l∈LL,l.length≤1048576)(hlo:∀i:Int,0≤i→i<(p.kids.length:Int)→0≤pi i 0 LL∧pi i 0 LL<(CC.length:Int)):
  cY prog 315 [.c (.eptr [.view (vwA ak.ac ns),.B rtl,.B kp,C,D] 0),.agg (nwL n p.s p.row p.al p.ac (knS p.wide) (.view (vw ao p.kids))),.c (.view (vwA lnA LL)),.c (.view (vw ao CC)),.c (.view (vw av.c S0)),.c (.view (vw ao ZZ))] fun res rows=>res= .o 0∧rows=[⟨126,7,vw av.c ((ixs 0 S0.length).map fun i=>wP p ns S0 ZZ (elZ CC (pi i 0 LL)) i)⟩]:=by
 have hat:∀kid∈p.kids,∃y,ns[(kid-1).toNat]? =some y:=fun kid h=>(bF (hk kid h)).2.2
 have hnd:=fun kid(h:kid∈p.kids) y hy Ky Ry=>bL ns kid y (bF (hk kid h)).1 (by have:=(bF (hk kid h)).2.1;omega) hy (vwA ak.ac ns) Ky Ry rfl
 have hRt:=fun kid(h:kid∈p.kids) y hy K size=>kj ns hl kid y (hk kid h) hy rtl kp C D n p.s p.row p.al p.ac (knS p.wide) K size
 have hLo:=fun i=>nZ LL i hLl hLb
 obtain⟨fR,hfR⟩:∃f,f=fun i=>wP p ns S0 ZZ (elZ CC (pi i 0 LL)) i:=⟨_,rfl⟩
 have hfv:=fun{i:Int}{sd kd z y}(h0:0≤i) h1 h2 h3 h4=>D6 (p:=p) (ns:=ns) (S:=S0) (Z:=ZZ) (c:=elZ CC (pi i 0 LL)) (i:=i) (kd:=kd) (z:=z) (y:=y) (sd:=sd) h0 h1 h2 h3 h4
 have hfe:∀i,wP p ns S0 ZZ (elZ CC (pi i 0 LL)) i=fR i:=fun i=>by rw [hfR]
 rw [←hfR]
 simp only [hfe]at hfv
 clear hfe hfR
 obtain⟨s0,row,w,h,iw,ih,al,ac,kids⟩:=p
 dsimp only at *
 obtain⟨V,hV⟩:=nmE (vwA ak.ac ns)
 rw [←hV]at hnd
 simp only [←hV]at hRt
 rw [←hV]
 obtain⟨K,hK⟩:=nmE (vw ao kids)
 have hKl:K.length=kids.length:=by rw [hK,af]
 have iK:bR K=true:=by rw [hK];exact aG _ _
 have kK:∀y∈K,y.length=1:=by rw [hK];exact bC (c:=ao) (k:=1) fun _=>rfl
 have dK:∀y∈K,y.all dat=true:=by rw [hK];exact az
 have hRt:=fun kid h y hy=>hRt kid h y hy K
 have hKx:∀{i:Nat}{v:Int},kids[i]? =some v→K[i]? =some [.J v]:=fun h=>by rw [hK];exact bh h
 obtain⟨Z,hZ⟩:=nmE (vw ao ZZ)
 have hZl:Z.length=ZZ.length:=by rw [hZ,af]
 have iZ:bR Z=true:=by rw [hZ];exact aG _ _
 have kZ:∀y∈Z,y.length=1:=by rw [hZ];exact bC (c:=ao) (k:=1) fun _=>rfl
 have dZ:∀y∈Z,y.all dat=true:=by rw [hZ];exact az
 have hZx:∀{i:Nat}{v:Int},ZZ[i]? =some v→Z[i]? =some [.J v]:=fun h=>by rw [hZ];exact bh h
 obtain⟨vC,hvC⟩:=nmE (vw ao CC)
 have hvCl:vC.length=CC.length:=by rw [hvC,af]
 have ivC:bR vC=true:=by rw [hvC];exact aG _ _
 have kvC:∀y∈vC,y.length=1:=by rw [hvC];exact bC (c:=ao) (k:=1) fun _=>rfl
 have dvC:∀y∈vC,y.all dat=true:=by rw [hvC];exact az
 have hCx:∀{i:Nat}{v:Int},CC[i]? =some v→vC[i]? =some [.J v]:=fun h=>by rw [hvC];exact bh h
 obtain⟨vS,hvS⟩:=nmE (vw av.c S0)
 have hvSl:vS.length=S0.length:=by rw [hvS,af]
 have ivS:bR vS=true:=by rw [hvS];exact aG _ _
 have kvS:∀y∈vS,y.length=7:=by rw [hvS];exact bC (c:=av.c) (k:=7) fun _=>rfl
 have dvS:∀y∈vS,y.all dat=true:=by rw [hvS];exact az
 obtain⟨vL,hvL⟩:=nmE (vwA lnA LL)
 simp only [←hvL]at hLo
 rw [←hK,←hZ,←hvC,←hvS,←hvL]
 obtain⟨am,an⟩:=ac
 have ck:=de am an
 obtain⟨KN,hKN⟩:=nmE (knS ⟨am,an⟩)
 change PC0 _ _ (.i (knS ⟨am,an⟩))at ck
 rw [←hKN]at ck
 simp only [←hKN]at hRt hfv
 obtain⟨KW,hKW⟩:=nmE (knS iw)
 simp only [←hKW]at hRt
 rw [←hKW]
 obtain⟨R,hR⟩:=nmE ((ixs 0 S0.length).map fR)
 rw [←hR]
 have hRl:R.length=kids.length:=by rw [hR,zql,bW,hsl]
 have hSl2:S0.length≤1048576:=by omega
 have pS:aj vS=true:=by rw [hvS];exact ag _ _
 clear hKN hKW hV
 refine ae (aK f315) aD func315 fun g F hg hF=> ?_
 cbv
 refine goN hg ⟨kvS,by show(0+vS.length)*48≤140737488355328;rw [hvSl];omega,by show 0+vS.length≤4611686018427387904;rw [hvSl];omega⟩ ?_
 cbv
 rw [gG hg,List.nil_append]
 cbv
 (repeat'((first|refine ad hg ck ?_|refine aa hg ck ?_);cbv))
 obtain⟨m,hm⟩:∃m:Int,m=(kids.length:Int):=⟨_,rfl⟩
 refine BH hg aD (by kernel_rfl) m (by omega) (by omega) (fun z(s:List av×LLA)=>[(0,.t (.c (.eptr [.view V,.B rtl,.B kp,C,D] 0))),(2,.v vL),(3,.v vC),(5,.v Z),(7,.p 0),(13,.o 1),(14,.i (KN)),(15,.i (z))]) (fun z(s:List av×LLA)=>[.bx 89 68 (nwL n s0 row al ⟨am,an⟩ KW (.view K)),.rw ⟨126,7,s.2⟩]) (fun z(s:List av×LLA)=>s.2=vw av.c (s.1++S0.drop s.1.length)∧(s.1.length:Int)=z) (fun rest(s:List av×LLA)=>s.1++(ixs (s.1.length:Int) rest).map fR) (R) ([],vS) (by show []++(ixs 0 m.toNat).map fR=R;rw [hR,hm,Int.toNat_natCast,hsl];rfl) ⟨hvS,rfl⟩ (Wk.weak (wkG [some _,some 2] ⟨rfl,rfl,rfl,rfl,rfl,rfl,rfl,rfl,trivial⟩ ⟨wqE rfl rfl,wqE rfl pS,trivial⟩ (by decide) aI)) (fun s B h0 hi he=> ?_) (fun z s rest B z0 z1 hk h0 hi hc e1 hB=> ?_)
 ·obtain⟨D1,E⟩:=s
  obtain⟨i1,i2⟩:=hi
  dsimp only at i1 i2 h0
  obtain rfl:D1=R:=by simpa [ixs]using h0
  have hE:E=vw av.c D1:=by rw [i1,List.drop_of_length_le (by omega),List.append_nil]
  have pE:aj E=true:=by rw [hE];exact ag _ _
  have tl:g .ln E=m:=by rw [bD hg,hE,aN,hRl,hm]
  rw [←hE]at hF
  cbv
  rw [tl]
  cbv
  rw [he]
  cbv
  exact bP hF rfl pE
 ·obtain⟨D1,E⟩:=s
  obtain⟨i1,i2⟩:=hi
  dsimp only at i1 i2 h0
  have hzt:z.toNat=D1.length:=by omega
  have hSl:D1.length<S0.length:=by omega
  have tl:g .ln E=m:=by rw [bD hg,i1,aN,zqe,List.length_drop];omega
  obtain⟨sd,hsd⟩:∃sd,S0[z.toNat]? =some sd:=⟨_,zqc (by omega)⟩
  obtain⟨kd,hkd⟩:∃kd,kids[z.toNat]? =some kd:=⟨_,zqc (by omega)⟩
  obtain⟨zz,hzz⟩:∃zz,ZZ[z.toNat]? =some zz:=⟨_,zqc (by omega)⟩
  have hkm:kd∈kids:=zqd hkd
  obtain⟨y,hyk⟩:=hat kd hkm
  have hfv:=hfv z0 hsd hkd hzz hyk
  have hKz:=hKx hkd
  have hZz:=hZx hzz
  have hEx:E[z.toNat]? =some (lc (av.c sd)):=by rw [i1];exact bh (by rw [hzt,uv rfl,←hzt];exact hsd)
  have hzE:z<bg E:=by rw [i1,aN];simp;omega
  have hset:∀v,E.set z.toNat (lc (av.c v))=vw av.c ((D1++[v])++S0.drop (D1++[v]).length):=fun v=>by
   rw [i1,hzt,mi,th rfl hSl];simp
  have h3:(D1++[fR z])++(ixs ((D1++[fR z]).length:Int) rest).map fR=R:=by
   rw [←h0,show ixs (D1.length:Int) (rest+1)=(D1.length:Int)::ixs ((D1.length:Int)+1) rest from rfl,zqA,i2,zqe,zqm,show((D1.length+1:Nat):Int)=z+1 by omega]
   simp
  have nl:((D1++[fR z]).length:Int)=z+1:=by simp;omega
  obtain⟨lo,hlod⟩:=nmE (pi z 0 LL)
  have hzk:z<(kids.length:Int):=by omega
  have hlob:=hlo z z0 hzk
  have cLo:=hLo z
  rw [←hlod]at cLo hlob hfv
  obtain⟨c,hc2⟩:=nmE (elZ CC lo)
  have hCl:=hCx (jZ hlob.1 hlob.2)
  have hlo0:=hlob.1
  rw [←hc2]at hCl hfv
  have cy:=hnd kd hkm y hyk _ _ rfl rfl
  obtain⟨Ky,hKy⟩:=nmE (vw ao y.kids)
  obtain⟨Ry,hRy⟩:=nmE (vw aJ.c y.table.rules)
  rw [←hKy,←hRy]at cy
  have cR:=hRt kd hkm y hyk zz
  obtain⟨y0,y1,y2,y3,y4,y5,y6⟩:=sd
  have cI:=oC ⟨y0,y1,y2,y3,y4,y5,y6⟩
  obtain⟨fb,hfb⟩:=nmE (xW ⟨y0,y1,y2,y3,y4,y5,y6⟩)
  rw [←hfb]at cI hfv
  dsimp only at hfv
  have cF:=fX y.style (!row) KN
  obtain⟨FX,hFX⟩:=nmE (qM y.style (!row) KN);(try rw [←hFX]at cF);(try rw [←hFX]at hfv)
  obtain⟨RR,hRR⟩:=nmE (Bz y.style (!row) KN zz);(try rw [←hRR]at cR);(try rw [←hRR]at hfv)
  have cB:=iE ⟨y0,y1,y2,y3,y4,y5,y6⟩
  change PC0 _ _ (.i (wrap64 (y1+y2)))at cB
  obtain⟨BB,hBB⟩:=nmE (wrap64 (y1+y2))
  rw [←hBB]at hfv cB
  obtain⟨CB,hCB⟩:=nmE (wrap64 (c-BB))
  rw [←hCB]at hfv
  have cN:=eV y.style (!row) KN CB
  obtain⟨f0,hf0⟩:=nmE (oM y.style (!row) KN CB);(try rw [←hf0]at cN);(try rw [←hf0]at hfv)
  simp only [Ay]at hfv
  have cLs:=l5 y6 f0
  change PC0 _ _ (.i (rF y6 f0))at cLs
  obtain⟨f6,hf6⟩:=nmE (rF y6 f0);(try rw [←hf6]at cLs);(try rw [←hf6]at hfv)
  have t2:g .w .sub .i64 c BB=CB:=by rw [dd hg,hCB]
  have t4:g .q .eql (FX) ((-1))=decide ((FX)=((-1))):=by rw [bv hg];exact zqn _ _
  have t5:g .q .eql (RR) ((-1))=decide ((RR)=((-1))):=by rw [bv hg];exact zqn _ _
  have hsame:fR z=⟨y0,y1,y2,y3,y4,y5,y6⟩→E=vw av.c ((D1++[fR z])++S0.drop (D1++[fR z]).length):=fun h=>by rw [h,←hset,ve hEx]
  have pE1:aj E=true:=by rw [i1];exact ag _ _
  have hEx2:E[z.toNat]? =some [.J y0,.J y1,.J y2,.B y3,.B y4,.J y5,.J y6]:=hEx
  clear hCB hBB hf6 hf0 hRR hFX hfb hKy hRy hc2 hlod hlob hkd hzz hsd hLo hRt hnd hlo hat
  cbv
  rw [tl]
  cbv
  rw [hc]
  cbv
  ((repeat'((first|refine ad hg cy ?_|refine aa hg cy ?_|refine goX hg _ z0 hKz rfl ?_);cbv)))
  refine goY hg z0 hzE fun j hj hjl=> ?_
  cbv
  rw [←hj]at hEx2 hset hEx
  refine⟨_,hEx2,?_⟩
  cbv
  ((repeat'((first|refine ad hg cI ?_|refine aa hg cI ?_);cbv)))
  cases fb
  case false=>
   simp only [Bool.false_eq_true,false_and,if_false]at hfv
   cbv
   ((repeat'(rw [e1];cbv)))
   exact hB ((D1++[fR z],E)) _ _ ⟨h3,⟨hsame hfv,nl⟩⟩ (Wk.weak (wkG [some _,some 1] ⟨rfl,rfl,rfl,rfl,rfl,rfl,rfl,rfl,trivial⟩ ⟨wqE rfl rfl,wqE rfl pE1,trivial⟩ (by decide) aI))
  by_cases q4:FX= -1
  case neg=>
   rw [if_neg (fun h=>q4 h.2.1)]at hfv
   (first|rw [zqu q4]at t4|rw [zqt q4]at t4|rw [zqu (Classical.not_not.2 q4)]at t4|rw [zqt (Classical.not_not.2 q4)]at t4)
   cbv
   ((repeat'((first|rw [t4]|rw [e1]|refine ad hg cF ?_|refine aa hg cF ?_);cbv)))
   exact hB ((D1++[fR z],E)) _ _ ⟨h3,⟨hsame hfv,nl⟩⟩ (Wk.weak (wkG [some _,some 1] ⟨rfl,rfl,rfl,rfl,rfl,rfl,rfl,rfl,trivial⟩ ⟨wqE rfl rfl,wqE rfl pE1,trivial⟩ (by decide) aI))
  by_cases q5:RR= -1
  case neg=>
   rw [if_neg (fun h=>q5 h.2.2)]at hfv
   (first|rw [zqu q4]at t4|rw [zqt q4]at t4|rw [zqu (Classical.not_not.2 q4)]at t4|rw [zqt (Classical.not_not.2 q4)]at t4)
   (first|rw [zqu q5]at t5|rw [zqt q5]at t5|rw [zqu (Classical.not_not.2 q5)]at t5|rw [zqt (Classical.not_not.2 q5)]at t5)
   cbv
   ((repeat'((first|rw [t4]|rw [t5]|rw [e1]|refine ad hg cF ?_|refine aa hg cF ?_|refine ad hg cR ?_|refine aa hg cR ?_|refine goX hg _ z0 hKz rfl ?_|refine goX hg _ z0 hZz rfl ?_);cbv)))
   exact hB ((D1++[fR z],E)) _ _ ⟨h3,⟨hsame hfv,nl⟩⟩ (Wk.weak (wkG [some _,some 1] ⟨rfl,rfl,rfl,rfl,rfl,rfl,rfl,rfl,trivial⟩ ⟨wqE rfl rfl,wqE rfl pE1,trivial⟩ (by decide) aI))
  rw [if_pos ⟨rfl,q4,q5⟩]at hfv
  (first|rw [zqu q4]at t4|rw [zqt q4]at t4|rw [zqu (Classical.not_not.2 q4)]at t4|rw [zqt (Classical.not_not.2 q4)]at t4)
  (first|rw [zqu q5]at t5|rw [zqt q5]at t5|rw [zqu (Classical.not_not.2 q5)]at t5|rw [zqt (Classical.not_not.2 q5)]at t5)
  have hA:(g .st E j [.J f0,.J y1,.J y2,.B y3,.B y4,.J y5,.J y6])[j]? =some [.J f0,.J y1,.J y2,.B y3,.B y4,.J y5,.J y6]:=by rw [mH hg];exact List.getElem?_set_self hjl
  have hAl:j<(g .st E j [.J f0,.J y1,.J y2,.B y3,.B y4,.J y5,.J y6]).length:=(List.getElem?_eq_some_iff.1 hA).1
  cbv
  ((repeat'((first|rw [t4]|rw [t5]|rw [t2]|rw [e1]|refine ad hg cF ?_|refine aa hg cF ?_|refine ad hg cR ?_|refine aa hg cR ?_|refine ad hg cLo ?_|refine aa hg cLo ?_|refine ad hg cB ?_|refine aa hg cB ?_|refine ad hg cN ?_|refine aa hg cN ?_|refine ad hg cLs ?_|refine aa hg cLs ?_|refine goX hg _ z0 hKz rfl ?_|refine goX hg _ z0 hZz rfl ?_|refine goX hg _ hlo0 hCl rfl ?_|refine GQ hg z0 hj hjl ?_|refine GQ hg z0 hj hAl ?_|refine⟨_,hEx2,?_⟩|refine⟨_,hA,?_⟩);cbv)))
  generalize hG1:g .st _ j _=E2
  have hE2:E2=g .st (g .st E j [.J f0,.J y1,.J y2,.B y3,.B y4,.J y5,.J y6]) j [.J f0,.J y1,.J y2,.B y3,.B y4,.J y5,.J f6]:=hG1.symm
  have aE:E2=vw av.c ((D1++[fR z])++S0.drop (D1++[fR z]).length):=by
   rw [hfv,←hset,hE2,mH hg,mH hg,List.set_set];rfl
  have pE2:aj E2=true:=by rw [aE];exact ag _ _
  exact hB ((D1++[fR z],E2)) _ _ ⟨h3,⟨aE,nl⟩⟩ (Wk.weak (wkG [some _,some 1] ⟨rfl,rfl,rfl,rfl,rfl,rfl,rfl,rfl,trivial⟩ ⟨wqE rfl rfl,wqE rfl pE2,trivial⟩ (by decide) aI))
end Go.Proofs.YtdnnffbbhijmkaaGreat
