/- A part. -/
import Derived.Test.YtckchgoblpgpbaaGreatJ8az
set_option linter.all false
set_option maxHeartbeats 80000000
namespace Go.Proofs.YtckchgoblpgpbaaGreat
open Go.ChangeShapes Go.WideShapes Go.ChangeAt Go.RowKit Am Go.Proofs.Tryz
set_option maxRecDepth 100000
section
variable {ns:List ae}{n:Int}
variable {rtl keeps:Bool}
theorem tu(ns:List ae)(hl:ns.length<=1048576)(kid:Int)(y:ae)(h1:isN ns kid=true)(hy:ns[(kid-1).toNat]? =some y)(rtl keeps:Bool)(bx:Bx)(c L:Nat)(hbx:yD (vwA ae.ac ns) rtl keeps bx c L kid)(n:Int)(p:Pl)(K:LLA)(st:St)(hm:st.1.length+c<=L)(hq:st.2.length+c<=L):
  SE prog 256 (sR (vwA ae.ac ns) rtl keeps) (SM st.1) (SA st.2) [.c (.ptr 0 0 0),.agg (nwL n p.s p.row p.al p.ac (knS p.wide) (.view K)),ai kid] (.t (ai (yz bx p rtl ns kid st).1)) (SM (yz bx p rtl ns kid st).2.1) (SA (yz bx p rtl ns kid st).2.2):=by
 have hD:kst ns kid=y.style:=gj hy
 unfold yz
 rw [hD]
 obtain⟨s,row,w,h,iw,ih,al,ac,kids⟩:=p
 obtain⟨Ky,hx⟩:=nmE (vw ak y.kids)
 obtain⟨Ry,hz⟩:=nmE (vw aC.c y.table.rules)
 have b2:=bd h1
 have pM:=bD st.1
 have kM:=Km st.1
 have dM:=BK st.1
 have pA:=bG st.2
 have kA:=Kn st.2
 have dA:=BM st.2
 have cX:=lK ns hl kid y h1 hy rtl keeps (.view (SM st.1)) (.view (SA st.2)) n s row al ac (knS iw) K
 change PC0 _ _ (.t (agP (kcX ⟨s,row,w,h,iw,ih,al,ac,kids⟩ y.style rtl)))at cX
 have cS:=fX ns hl kid y h1 hy rtl true keeps (.view (SM st.1)) (.view (SA st.2)) n s row al ac (knS iw) K
 change PC0 _ _ (.t (.agg (lc (aw.c (Ay ⟨s,row,w,h,iw,ih,al,ac,kids⟩ y.style rtl true)))))at cS
 obtain⟨V,hV⟩:=nmE (vwA ae.ac ns)
 have cy:=bg ns kid y b2.1 (by have:=b2.2.1;omega) hy V Ky Ry hV hx hz
 rw [<-hV]at hbx cX cS⊢
 obtain⟨⟨k0,k1⟩,ht⟩:∃q,q=kcX ⟨s,row,w,h,iw,ih,al,ac,kids⟩ y.style rtl:=⟨_,rfl⟩
 obtain⟨BN,hc⟩:=nmE (FS ⟨s,row,w,h,iw,ih,al,ac,kids⟩ y.style rtl)
 rw [<-ht,<-hc]
 unfold FS at hc
 rw [<-ht]at cX hc
 obtain⟨⟨g0,g1⟩,ha⟩:∃q,q=Il ⟨s,row,w,h,iw,ih,al,ac,kids⟩ y.style rtl:=⟨_,rfl⟩
 rw [<-ha]
 unfold Il at ha
 obtain⟨SD,hA⟩:=nmE (Ay ⟨s,row,w,h,iw,ih,al,ac,kids⟩ y.style rtl true)
 rw [<-hA]at cS ha
 dsimp only at ha hc⊢
 have cZ:=nQ V rtl keeps bx c L kid hbx n s row al ac (knS iw) K g0 g1 k0 k1 st hm hq
 obtain⟨rr,hC⟩:=nmE (vr bx row kid ⟨g0,g1⟩ ⟨k0,k1⟩ st)
 rw [<-hC]at cZ⊢
 clear hA ht hC hbx hx hz hV
 obtain⟨am,an⟩:=al
 have ck:=du am an
 generalize hKN:knS ⟨am,an⟩=KN at ck hc
 generalize hKW:knS iw=KW at cX cS cZ
 have cs:=ec y.style.basis.kind y.style.basis.n KN
 change PC0 _ _ (.i (uI y.style.basis KN))at cs
 have cf:=eN y.style row KN
 have cr:=jr y.style row k1
 generalize hSZ:uI y.style.basis KN=SZ at cs hc
 generalize hFX:qL y.style row KN=FX at cf hc
 generalize hRT:rQ y.style row k1=RT at cr hc
 have co:=j8 SZ FX
 obtain⟨O,hO⟩:=nmE (orl SZ FX)
 change PC0 _ _ (.i (orl SZ FX))at co
 rw [<-hO]at co
 have hf:BN=if¬O= -1 then O else if k0=3 then RT else-1:=by
  rw [hc,hO]
  unfold orl
  by_cases q1:SZ= -1<;>by_cases q2:FX= -1<;>simp [q1,q2]
 have cB:=jl SD
 obtain⟨BB,hw⟩:=nmE (wrap64 (SD.before+SD.behind))
 change PC0 _ _ (.i (wrap64 (SD.before+SD.behind)))at cB
 rw [<-hw]at cB ha
 have cI:=dB am an BB
 obtain⟨⟨i0,i1⟩,hI⟩:∃q,q=qE ⟨am,an⟩ BB:=⟨_,rfl⟩
 change PC0 _ _ (.t (agP (qE ⟨am,an⟩ BB)))at cI
 rw [<-hI]at cI ha
 have cL:=lU i0 i1
 have hk:=bD rr.2.1
 have hj:=bG rr.2.2
 rw [acE]at cZ
 have he:alB row rr.1=if row then rr.1.wide else rr.1.high:=rfl
 obtain⟨b0,hu⟩:=nmE rr.1.wide
 obtain⟨b1,hv⟩:=nmE rr.1.high
 obtain⟨b3,hB⟩:=nmE rr.1.base
 rw [<-hu,<-hv,<-hB]at cZ
 rw [<-hu,<-hv]at he
 generalize hAL:alB row rr.1=AL at he
 generalize hFR:vw ag.c rr.1.frames=FR at cZ
 generalize hM:SM st.1=M at cZ cX cS pM kM dM;replace hM:=hM.symm
 generalize ho:SA st.2=A0 at cZ cX cS pA kA dA;replace ho:=ho.symm
 generalize hr:SM rr.2.1=M2 at cZ hk;replace hr:=hr.symm
 generalize hp:SA rr.2.2=A2 at cZ hj;replace hp:=hp.symm
 clear hc hKN hKW hSZ hFX hRT hO hw hI hu hv hB hAL hFR
 have tm:∀g:Gd,g=G0 prog 3 f256.ntmps->g .q .neq (-1) (-1)=false:=fun g hg=>by rw [bC hg];rfl
 by_cases q1:O= -1
 case neg=>
  have e:BN=O:=by rw [hf,if_pos q1]
  rw [if_pos (by rw [e];exact q1),e]
  dsimp only
  rw [<-hM,<-ho]
  refine mC [] func256 (fun g hh hd F hb hi hg hF=> ?_)
  have t0:g .q .eql (O) ((-1))=decide ((O)=((-1))):=by rw [bj hg];exact zqn _ _
  have t1:g .q .neq (O) ((-1))=decide (¬(O)=((-1))):=by rw [bC hg];exact dQ _ _
  (first|rw [zqu q1]at t0|rw [zqt q1]at t0|rw [zqu (Classical.not_not.2 q1)]at t0|rw [zqt (Classical.not_not.2 q1)]at t0);(first|rw [zqu q1]at t1|rw [zqt q1]at t1|rw [zqu (Classical.not_not.2 q1)]at t1|rw [zqt (Classical.not_not.2 q1)]at t1)
  cbv
  ((repeat'((first|rw [t0]|rw [t1]|refine ad hg cy ?_|refine ad hg ck ?_|refine aa hg cs ?_|refine aa hg cf ?_|refine aa hg co ?_|refine gC hg cX (dz (qw (r:=0) (rm:=1) (ra:=2) [.view V,.B rtl,.B keeps] rfl rfl rfl kM dM rfl kA dA) (bv rfl (aj (av rfl) (az)))) rfl ?_);cbv)))
  exact sK 1 2 hF rfl rfl rfl rfl rfl (by decide) rfl pM pA
 have hn:BN= -1->SE prog 256 (sR V rtl keeps) M A0 [.c (.ptr 0 0 0),.agg (nwL n s row ⟨am,an⟩ ac KW (.view K)),ai kid] (.i AL) M2 A2->SE prog 256 (sR V rtl keeps) M A0 [.c (.ptr 0 0 0),.agg (nwL n s row ⟨am,an⟩ ac KW (.view K)),ai kid] (.t (ai (if BN≠ -1 then(BN,st)else(AL,rr.2)).1)) (SM (if BN≠ -1 then(BN,st)else(AL,rr.2)).2.1) (SA (if BN≠ -1 then(BN,st)else(AL,rr.2)).2.2):=fun h hs=>by
  rw [if_neg (fun x=>x h)]
  dsimp only
  rw [<-hr,<-hp]
  exact hs
 clear hr hp
 have hE:O= -1:=q1
 subst hE
 by_cases q2:k0=3
 case pos=>
  by_cases q3:RT= -1
  case neg=>
   have e:BN=RT:=by rw [hf,if_neg (fun h=>h rfl),if_pos q2]
   rw [if_pos (by rw [e];exact q3),e]
   dsimp only
   rw [<-hM,<-ho]
   refine mC [] func256 (fun g hh hd F hb hi hg hF=> ?_)
   have tm:=tm g hg
   have tp:g .q .eql (-1) (-1)=true:=by rw [bj hg];rfl
   have t0:g .q .eql (k0) (3)=decide ((k0)=(3)):=by rw [bj hg];exact zqn _ _
   have t1:g .q .neq (RT) ((-1))=decide (¬(RT)=((-1))):=by rw [bC hg];exact dQ _ _
   (first|rw [zqu q2]at t0|rw [zqt q2]at t0|rw [zqu (Classical.not_not.2 q2)]at t0|rw [zqt (Classical.not_not.2 q2)]at t0);(first|rw [zqu q3]at t1|rw [zqt q3]at t1|rw [zqu (Classical.not_not.2 q3)]at t1|rw [zqt (Classical.not_not.2 q3)]at t1)
   cbv
   ((repeat'((first|rw [tp]|rw [t0]|rw [t1]|refine ad hg cy ?_|refine ad hg ck ?_|refine aa hg cs ?_|refine aa hg cf ?_|refine aa hg co ?_|refine ad hg cr ?_|refine gC hg cX (dz (qw (r:=0) (rm:=1) (ra:=2) [.view V,.B rtl,.B keeps] rfl rfl rfl kM dM rfl kA dA) (bv rfl (aj (av rfl) (az)))) rfl ?_);cbv)))
   exact sK 1 2 hF rfl rfl rfl rfl rfl (by decide) rfl pM pA
  have e:BN= -1:=by rw [hf,if_neg (fun h=>h rfl),if_pos q2,q3]
  refine hn e ?_
  clear hn
  cases row
  case false=>
   simp only [Bool.false_eq_true,if_false,aK.mk.injEq]at he ha
   obtain⟨rfl,rfl⟩:=ha
   subst he
   refine mC [] func256 (fun g hh hd F hb hi hg hF=> ?_)
   have tm:=tm g hg
   have tp:g .q .eql (-1) (-1)=true:=by rw [bj hg];rfl
   have t0:g .q .eql (k0) (3)=decide ((k0)=(3)):=by rw [bj hg];exact zqn _ _
   have t1:g .q .neq (RT) ((-1))=decide (¬(RT)=((-1))):=by rw [bC hg];exact dQ _ _
   (first|rw [zqu q2]at t0|rw [zqt q2]at t0|rw [zqu (Classical.not_not.2 q2)]at t0|rw [zqt (Classical.not_not.2 q2)]at t0);(first|rw [zqu q3]at t1|rw [zqt q3]at t1|rw [zqu (Classical.not_not.2 q3)]at t1|rw [zqt (Classical.not_not.2 q3)]at t1)
   cbv
   ((repeat'((first|rw [tp]|rw [t0]|rw [t1]|refine ad hg cy ?_|refine ad hg ck ?_|refine aa hg cs ?_|refine aa hg cf ?_|refine aa hg co ?_|refine ad hg cr ?_|refine gC hg cX (dz (qw (r:=0) (rm:=1) (ra:=2) [.view V,.B rtl,.B keeps] rfl rfl rfl kM dM rfl kA dA) (bv rfl (aj (av rfl) (az)))) rfl ?_|refine gl rfl hg 0 1 2 cZ rfl rfl rfl (by decide) rfl pM pA ⟨rfl,.inl ⟨rfl,rfl⟩,rfl,.inl ⟨rfl,rfl⟩,.inl ⟨rfl,rfl⟩,zpt⟩ rfl ?_);cbv)))
   exact sK 7 8 hF rfl rfl rfl rfl rfl (by decide) rfl hk hj
  case true=>
   simp only [if_true]at he ha
   subst he
   rw [<-ha]at cL
   refine mC [] func256 (fun g hh hd F hb hi hg hF=> ?_)
   have tm:=tm g hg
   have tp:g .q .eql (-1) (-1)=true:=by rw [bj hg];rfl
   have t0:g .q .eql (k0) (3)=decide ((k0)=(3)):=by rw [bj hg];exact zqn _ _
   have t1:g .q .neq (RT) ((-1))=decide (¬(RT)=((-1))):=by rw [bC hg];exact dQ _ _
   (first|rw [zqu q2]at t0|rw [zqt q2]at t0|rw [zqu (Classical.not_not.2 q2)]at t0|rw [zqt (Classical.not_not.2 q2)]at t0);(first|rw [zqu q3]at t1|rw [zqt q3]at t1|rw [zqu (Classical.not_not.2 q3)]at t1|rw [zqt (Classical.not_not.2 q3)]at t1)
   cbv
   ((repeat'((first|rw [tp]|rw [t0]|rw [t1]|refine ad hg cy ?_|refine ad hg ck ?_|refine aa hg cs ?_|refine aa hg cf ?_|refine aa hg co ?_|refine ad hg cr ?_|refine aa hg cB ?_|refine aa hg cI ?_|refine aa hg cL ?_|refine gC hg cX (dz (qw (r:=0) (rm:=1) (ra:=2) [.view V,.B rtl,.B keeps] rfl rfl rfl kM dM rfl kA dA) (bv rfl (aj (av rfl) (az)))) rfl ?_|refine fy hg cS (dz (qw (r:=0) (rm:=1) (ra:=2) [.view V,.B rtl,.B keeps] rfl rfl rfl kM dM rfl kA dA) (bv rfl (aj (av rfl) (aj (av rfl) (az))))) rfl ?_|refine gl rfl hg 0 1 2 cZ rfl rfl rfl (by decide) rfl pM pA ⟨rfl,.inl ⟨rfl,rfl⟩,rfl,.inl ⟨rfl,rfl⟩,.inl ⟨rfl,rfl⟩,zpt⟩ rfl ?_);cbv)))
   exact sK 7 8 hF rfl rfl rfl rfl rfl (by decide) rfl hk hj
 have e:BN= -1:=by rw [hf,if_neg (fun h=>h rfl),if_neg q2]
 refine hn e ?_
 clear hn
 cases row
 case false=>
  simp only [Bool.false_eq_true,if_false,aK.mk.injEq]at he ha
  obtain⟨rfl,rfl⟩:=ha
  subst he
  refine mC [] func256 (fun g hh hd F hb hi hg hF=> ?_)
  have tm:=tm g hg
  have tp:g .q .eql (-1) (-1)=true:=by rw [bj hg];rfl
  have t0:g .q .eql (k0) (3)=decide ((k0)=(3)):=by rw [bj hg];exact zqn _ _
  (first|rw [zqu q2]at t0|rw [zqt q2]at t0|rw [zqu (Classical.not_not.2 q2)]at t0|rw [zqt (Classical.not_not.2 q2)]at t0)
  cbv
  ((repeat'((first|rw [tm]|rw [tp]|rw [t0]|refine ad hg cy ?_|refine ad hg ck ?_|refine aa hg cs ?_|refine aa hg cf ?_|refine aa hg co ?_|refine gC hg cX (dz (qw (r:=0) (rm:=1) (ra:=2) [.view V,.B rtl,.B keeps] rfl rfl rfl kM dM rfl kA dA) (bv rfl (aj (av rfl) (az)))) rfl ?_|refine gl rfl hg 0 1 2 cZ rfl rfl rfl (by decide) rfl pM pA ⟨rfl,.inl ⟨rfl,rfl⟩,rfl,.inl ⟨rfl,rfl⟩,.inl ⟨rfl,rfl⟩,zpt⟩ rfl ?_);cbv)))
  exact sK 7 8 hF rfl rfl rfl rfl rfl (by decide) rfl hk hj
 case true=>
  simp only [if_true]at he ha
  subst he
  rw [<-ha]at cL
  refine mC [] func256 (fun g hh hd F hb hi hg hF=> ?_)
  have tm:=tm g hg
  have tp:g .q .eql (-1) (-1)=true:=by rw [bj hg];rfl
  have t0:g .q .eql (k0) (3)=decide ((k0)=(3)):=by rw [bj hg];exact zqn _ _
  (first|rw [zqu q2]at t0|rw [zqt q2]at t0|rw [zqu (Classical.not_not.2 q2)]at t0|rw [zqt (Classical.not_not.2 q2)]at t0)
  cbv
  ((repeat'((first|rw [tm]|rw [tp]|rw [t0]|refine ad hg cy ?_|refine ad hg ck ?_|refine aa hg cs ?_|refine aa hg cf ?_|refine aa hg co ?_|refine aa hg cB ?_|refine aa hg cI ?_|refine aa hg cL ?_|refine gC hg cX (dz (qw (r:=0) (rm:=1) (ra:=2) [.view V,.B rtl,.B keeps] rfl rfl rfl kM dM rfl kA dA) (bv rfl (aj (av rfl) (az)))) rfl ?_|refine fy hg cS (dz (qw (r:=0) (rm:=1) (ra:=2) [.view V,.B rtl,.B keeps] rfl rfl rfl kM dM rfl kA dA) (bv rfl (aj (av rfl) (aj (av rfl) (az))))) rfl ?_|refine gl rfl hg 0 1 2 cZ rfl rfl rfl (by decide) rfl pM pA ⟨rfl,.inl ⟨rfl,rfl⟩,rfl,.inl ⟨rfl,rfl⟩,.inl ⟨rfl,rfl⟩,zpt⟩ rfl ?_);cbv)))
  exact sK 7 8 hF rfl rfl rfl rfl rfl (by decide) rfl hk hj
theorem rz(ns:List ae)(hl:ns.length<=1048576)(rtl keeps:Bool)(bx:Bx)(c L:Nat)(n:Int)(p:Pl)(hkl:p.kids.length<20)(hk:∀ha∈p.kids,isN ns ha=true)(hbx:∀ha∈p.kids,yD (vwA ae.ac ns) rtl keeps bx c L ha)(st:St)(hm:st.1.length+20*c<=L)(hq:st.2.length+20*c<=L):
  SE prog 208 (sR (vwA ae.ac ns) rtl keeps) (SM st.1) (SA st.2) [.c (.ptr 0 0 0),.agg (nwL n p.s p.row p.al p.ac (knS p.wide) (.view (vw ak p.kids)))] (.t (.c (.view (vw af.c (mV bx p rtl ns p.kids st).1)))) (SM (mV bx p rtl ns p.kids st).2.1) (SA (mV bx p rtl ns p.kids st).2.2):=by
 refine uL (t:=237) (k:=9) (V:=vw af.c (mV bx p rtl ns p.kids st).1) (R:= .o 5) ?_ (xj (c:=af.c) (k:=9) fun _=>rfl) jc rfl rfl rfl
 have hT:∀ha∈p.kids,∃y,ns[(ha-1).toNat]? =some y:=fun ha h=>(bd (hk ha h)).2.2
 have hN:=fun ha(h:ha∈p.kids) y hy Ky Ry=>bg ns ha y (bd (hk ha h)).1 (by have:=(bd (hk ha h)).2.1;omega) hy (vwA ae.ac ns) Ky Ry rfl
 have hh:=fun ha(h:ha∈p.kids) y hy K st h1 h2=>tu ns hl ha y (hk ha h) hy rtl keeps bx c L (hbx ha h) n p K st h1 h2
 have hS:=fun ha(h:ha∈p.kids) y hy C D K=>fX ns hl ha y (hk ha h) hy rtl true keeps C D n p.s p.row p.al p.ac (knS p.wide) K
 have hj:=fun ha(h:ha∈p.kids) st=>D4 (hbx ha h) p ns st
 clear hbx
 obtain⟨f,hf⟩:∃f,f=fun k st=>yz bx p rtl ns k st:=⟨_,rfl⟩
 have hU:∀k st,yz bx p rtl ns k st=f k st:=fun k st=>by rw [hf]
 simp only [hU]at hh hj
 obtain⟨it,hw⟩:∃it,it=fun ks st=>mV bx p rtl ns ks st:=⟨_,rfl⟩
 have hr:∀ks st,mV bx p rtl ns ks st=it ks st:=fun ks st=>by rw [hw]
 have hX:∀st,it [] st=([],st):=fun st=>by rw [hw];rfl
 have ho:∀k r st,it (k::r) st=(Jo p (kst ns k) rtl (f k st).1::(it r (f k st).2).1,(it r (f k st).2).2):=fun k r st=>by rw [hw,hf];rfl
 simp only [hr]
 clear hf hw hU hr
 obtain⟨s0,row,w,h,iw,ih,al,ac,kids⟩:=p
 dsimp only at *
 obtain⟨V,hV⟩:=nmE (vwA ae.ac ns)
 rw [<-hV]at hN
 simp only [<-hV]at hh hS
 rw [<-hV]
 obtain⟨K,hK⟩:=nmE (vw ak kids)
 have xd:=lmV hK
 have hh:=fun ha h y hy st=>hh ha h y hy K st
 have hS:=fun ha h y hy C D=>hS ha h y hy C D K
 rw [<-hK]
 obtain⟨am,an⟩:=al
 have ck:=du am an
 obtain⟨KN,hH⟩:=nmE (knS ⟨am,an⟩)
 change PC0 _ _ (.i (knS ⟨am,an⟩))at ck
 rw [<-hH]at ck
 have ho:∀k r st y,ns[(k-1).toNat]? =some y->it (k::r) st=((⟨(f k st).1,Dm y.style row KN,Ei y.style row KN,y.style.grow,y.style.shrink,(sdB s0 y.style rtl true (knS iw)).before,(sdB s0 y.style rtl true (knS iw)).behind,(sdB s0 y.style rtl true (knS iw)).autoBefore,(sdB s0 y.style rtl true (knS iw)).autoBehind⟩:af)::(it r (f k st).2).1,(it r (f k st).2).2):=fun k r st y hy=>by
  rw [ho,gj hy,hH];rfl
 obtain⟨R,hR⟩:=nmE (it kids st)
 rw [<-hR]
 generalize hKW:knS iw=KW at hh hS ho
 obtain⟨M0,hI⟩:=nmE (SM st.1)
 obtain⟨A0,hE⟩:=nmE (SA st.2)
 have xa:ay M0=true:=by rw [hI];exact bD _
 have h8:ay A0=true:=by rw [hE];exact bG _
 rw [<-hI,<-hE]
 have hM:kids.length<=1048576:=by omega
 have xe:R.1.length=kids.length:=by
  rw [hR]
  have:∀ks:List Int,(∀k∈ks,k∈kids)->∀st,(it ks st).1.length=ks.length:=by
   intro ks
   induction ks with
   |nil=>intro _ st;rw [hX];rfl
   |cons k ks ih=>
    intro hs st
    obtain⟨y,hy⟩:=hT k (hs k (zpd ..))
    rw [ho k ks st y hy]
    simp [ih (fun x hx=>hs x (zpe _ hx))]
  exact this kids (fun _ h=>h) st
 clear hH hV
 refine mC [(8,.hand)] func208 (fun g xc hd F hL hW hg hF=> ?_)
 cbv
 (repeat'(refine ad hg ck ?_;cbv))
 refine iA ([(8,.hand)]) ([]) hL hW hg bq (by kernel_rfl) K (fun x=>lc (ak x)) kids hK hM (fun z(s:(List af×St)×LLA×LLA×LLA)=>[(0,.p 0),(3,.p 3),(5,.o 6),(6,.i (KN)),(7,.i (z))]) (fun z(s:(List af×St)×LLA×LLA×LLA)=>[.bx 91 5 [.view V,.B rtl,.B keeps,.own 4,.own 5],.gn,.gn,.bx 180 68 (nwL n s0 row ⟨am,an⟩ ac KW (.view K)),.rw ⟨157,10,s.2.1⟩,.rw ⟨172,6,s.2.2.1⟩,.rw ⟨237,9,s.2.2.2⟩]) (fun z(s:(List af×St)×LLA×LLA×LLA)=>s.2.1=SM s.1.2.1/\s.2.2.1=SA s.1.2.2/\s.2.2.2=vw af.c s.1.1/\s.1.2.1.length<=st.1.length+s.1.1.length*c/\s.1.2.2.length<=st.2.length+s.1.1.length*c) (fun(s:(List af×St)×LLA×LLA×LLA) rest=>(s.1.1++(it rest s.1.2).1,(it rest s.1.2).2)) (R) (([],st),M0,A0,[]) (by rw [hR];rfl) ⟨hI,hE,rfl,by simp,by simp⟩ (Wk.weak (wkM [some 0,none,none,some 3,some 1,some 2,some 4] zr5 ⟨.inr (wqB rfl ⟨zr5,zpt⟩),.inl rfl,.inl rfl,.inr (wqE rfl rfl),.inr (wqE rfl xa),.inr (wqE rfl h8),.inr (wqE rfl rfl),zpt⟩ (by decide) ⟨.inl rfl,.inl rfl,.inr rfl,zpt⟩ ⟨.inl rfl,.inl rfl,.inr ⟨_,rfl⟩,zpt⟩)) (fun z s B hz h0 hi he=> ?_) (fun z s x rest B z0 z1 z2 hx hy h0 hi hc e1 hB=> ?_)
 ·obtain⟨⟨hb,hp⟩,M1,A1,E⟩:=s
  obtain⟨i1,i2,i3,i4,i5⟩:=hi
  dsimp only at i1 i2 i3 h0
  obtain rfl:R=(hb,hp):=by rw [<-h0,hX];simp
  have xb:ay M1=true:=by rw [i1];exact bD _
  have h9:ay A1=true:=by rw [i2];exact bG _
  have pE:=pmV i3
  cbv;rw [he];cbv
  subst i1 i2 i3
  exact Ch 4 5 6 hF rfl rfl rfl rfl rfl rfl (by decide) rfl xb h9 pE
 ·obtain⟨⟨hb,hp⟩,M1,A1,E⟩:=s
  obtain⟨i1,i2,i3,i4,i5⟩:=hi
  dsimp only at i1 i2 i3 i4 i5 h0
  have ht:x∈kids:=zqd hx
  obtain⟨y,hA⟩:=hT x ht
  rw [ho x rest hp y hA]at h0
  have hu:hb.length+1<=20:=by
   have:=congrArg (fun r=>r.1.length) h0
   simp only [zqe,zqx]at this
   omega
  have h7:E.length<=1048576:=by rw [i3,ar];omega
  have pM:ay M1=true:=by rw [i1];exact bD _
  have pA:ay A1=true:=by rw [i2];exact bG _
  have kM:∀y∈M1,y.length=10:=by rw [i1];exact Km _
  have dM:∀y∈M1,y.all dat=true:=by rw [i1];exact BK _
  have kA:∀y∈A1,y.length=6:=by rw [i2];exact Kn _
  have dA:∀y∈A1,y.all dat=true:=by rw [i2];exact BM _
  have cB:=hh x ht y hA hp (v7 i4 hm hu) (v7 i5 hq hu)
  rw [<-i1,<-i2]at cB
  have cS:=hS x ht y hA (.view M1) (.view A1)
  have cy:=hN x ht y hA _ _ rfl rfl
  obtain⟨Ky,hP⟩:=nmE (vw ak y.kids)
  obtain⟨Ry,hQ⟩:=nmE (vw aC.c y.table.rules)
  rw [<-hP,<-hQ]at cy
  have hn:=hj x ht hp
  obtain⟨⟨b,hv⟩,hY⟩:∃r,r=f x hp:=⟨_,rfl⟩
  rw [<-hY]at cB hn h0
  dsimp only at cB hn h0
  have j1:=oe i4 hn.1
  have j2:=oe i5 hn.2
  have hC:=jp y.style row KN
  have hD:=j9 y.style row KN
  generalize hf1:Dm y.style row KN=f1 at hC h0
  generalize hf2:Ei y.style row KN=f2 at hD h0
  generalize hSD:sdB s0 y.style rtl true KW=SD at cS h0
  obtain⟨d0,d1,d2,d3,d4,d5,d6⟩:=SD
  dsimp only at h0
  obtain⟨M2,hJ⟩:=nmE (SM hv.1)
  obtain⟨A2,hG⟩:=nmE (SA hv.2)
  have h5:ay M2=true:=by rw [hJ];exact bD _
  have hZ:ay A2=true:=by rw [hG];exact bG _
  rw [<-hJ,<-hG]at cB
  obtain⟨E2,hO⟩:∃E2,E2=E++[[.J b,.J f1,.J f2,.J y.style.grow,.J y.style.shrink,.J d1,.J d2,.B d3,.B d4]]:=⟨_,rfl⟩
  have aE:E2=vw af.c (hb++[⟨b,f1,f2,y.style.grow,y.style.shrink,d1,d2,d3,d4⟩]):=by rw [hO,i3,bk];rfl
  have h4:=pmV aE
  have h3:((hb++[(⟨b,f1,f2,y.style.grow,y.style.shrink,d1,d2,d3,d4⟩:af)])++(it rest hv).1,(it rest hv).2)=R:=by rw [<-h0];simp
  have nl:(hb++[(⟨b,f1,f2,y.style.grow,y.style.shrink,d1,d2,d3,d4⟩:af)]).length=hb.length+1:=by simp
  clear hP hQ hY hf1 hf2 hSD i4 i5 hn hh hS hN hj ho
  cbv
  rw [hc]
  cbv
  ((repeat'((first|refine aa hg cy ?_|refine goX hg _ z0 hy rfl ?_|refine fy hg cS (dz (qw (r:=0) (rm:=4) (ra:=5) [.view V,.B rtl,.B keeps] rfl rfl rfl kM dM rfl kA dA) (bv rfl (aj (av rfl) (aj (av rfl) (az))))) rfl ?_);cbv)))
  refine bP hg hW bq [1,2,3,4,5,6,7,9,10,11,12,14,15,16,17,19,20,21,22,23,24,25,26,27,28,29,30] (.op 0 [] (.op 8 [13,18,31] (.op 32 [] (.op 33 [] (.op 34 [] .done .none) .none) .none) .none) (.op 8 [13,18,31] (.op 0 [] (.op 32 [] (.op 33 [] (.op 34 [] .done .none) .none) .none) (.op 32 [] (.op 0 [] (.op 33 [] (.op 34 [] .done .none) .none) .none) .none)) .none)) (by kernel_rfl) (by kernel_rfl) (S:=Unit) (fun _=>True) (fun _=>[(0,.p 0),(3,.p 3),(5,.o 6),(6,.i (KN)),(7,.i (z))]) (fun _=>[.bx 91 5 [.view V,.B rtl,.B keeps,.own 4,.own 5],.gn,.gn,.bx 180 68 (nwL n s0 row ⟨am,an⟩ ac KW (.view K)),.rw ⟨157,10,M2⟩,.rw ⟨172,6,A2⟩,.rw ⟨237,9,E2⟩]) (fun BL h6=> ?_) (fun _ _=> ?_)
  ·cbv
   ((repeat'(first|exact trivial|exact rfl|refine And.intro ?_ ?_|((first|refine aa hg hC ?_|refine aa hg hD ?_|refine goX hg _ z0 hy rfl ?_|refine gl rfl hg 0 4 5 cB rfl rfl rfl (by decide) rfl pM pA ⟨rfl,.inl ⟨rfl,rfl⟩,rfl,zpt⟩ rfl ?_|refine dg hg rfl (by decide) h7 ?_);cbv))))
   all_goals
    rw [fI hg,<-hO]
    exact h6 () trivial _ _ (Wk.weak (wkM [some 0,none,none,some 3,some 9,some 10,some 12] zr5 ⟨.inr (wqB rfl ⟨zr5,zpt⟩),.inl rfl,.inl rfl,.inr (wqE rfl rfl),.inr (wqE rfl h5),.inr (wqE rfl hZ),.inr (wqE rfl h4),zpt⟩ (by decide) ⟨.inl rfl,.inl rfl,.inr rfl,zpt⟩ ⟨.inl rfl,.inl rfl,.inr ⟨_,rfl⟩,zpt⟩))
  cbv
  ((repeat'(rw [e1];cbv)))
  skip
  exact hB (((hb++[⟨b,f1,f2,y.style.grow,y.style.shrink,d1,d2,d3,d4⟩],hv),M2,A2,E2)) _ _ ⟨h3,⟨hJ,hG,aE,by rw [nl];exact j1,by rw [nl];exact j2⟩⟩ (Wk.weak (wkM [some 0,none,none,some 3,some 4,some 5,some 6] zr5 ⟨.inr (wqB rfl ⟨zr5,zpt⟩),.inl rfl,.inl rfl,.inr (wqE rfl rfl),.inr (wqE rfl h5),.inr (wqE rfl hZ),.inr (wqE rfl h4),zpt⟩ (by decide) ⟨.inl rfl,.inl rfl,.inr rfl,zpt⟩ ⟨.inl rfl,.inl rfl,.inr ⟨_,rfl⟩,zpt⟩))
end
end Go.Proofs.YtckchgoblpgpbaaGreat
