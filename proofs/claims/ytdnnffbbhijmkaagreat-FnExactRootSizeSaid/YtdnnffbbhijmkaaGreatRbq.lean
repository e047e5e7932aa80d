/- The reference's items of the children. -/
import Derived.Test.YtdnnffbbhijmkaaGreatRbp
set_option linter.unusedVariables false
set_option linter.unusedSimpArgs false
set_option maxHeartbeats 16000000
namespace Go.Proofs.YtdnnffbbhijmkaaGreat
open Go.ChangeShapes Go.WideShapes Go.ChangeAt Go.RowKit Am Go.Proofs.Tryz
set_option maxRecDepth 100000
def sR(V:List (List AC))(rtl keeps:Bool):S3K:=⟨79,5,[.view V,.B rtl,.B keeps],199,10,206,6⟩
def SM(ms:List n4):List (List AC):=vwA n4.ac ms
def SA(qs:List jT):List (List AC):=vw jT.c qs
theorem bT(ms:List n4):ah (SM ms)=true:=j8 (c:=n4.ac) (fun x=>by obtain⟨a,⟨b,c⟩,⟨d,e⟩,f,⟨i,j,k,l⟩⟩:=x;rfl) ms
theorem Fz(ms:List n4):∀y∈SM ms,y.length=10:=xT (c:=n4.ac) (fun x=>by obtain⟨a,⟨b,c⟩,⟨d,e⟩,f,⟨i,j,k,l⟩⟩:=x;rfl)
theorem xP(ms:List n4):∀y∈SM ms,y.all dat=true:=nA (c:=n4.ac) (fun x=>by obtain⟨a,⟨b,c⟩,⟨d,e⟩,f,⟨i,j,k,l⟩⟩:=x;rfl)
theorem bU(qs:List jT):ah (SA qs)=true:=ag _ _
theorem xQ(qs:List jT):∀y∈SA qs,y.all dat=true:=az
theorem FA(qs:List jT):∀y∈SA qs,y.length=6:=bL (c:=jT.c) fun _=>rfl
def wD(V:List (List AC))(rtl keeps:Bool)(bx:Bx)(c L:Nat)(kid:Int):Prop:=(∀w h st,(bx kid w h st).2.1.length≤st.1.length+c∧(bx kid w h st).2.2.length≤st.2.length+c)∧
 ∀(w0 w1 h0 h1:Int)(st:St),st.1.length+c≤L→st.2.length+c≤L→
  SE prog 99 (sR V rtl keeps) (SM st.1) (SA st.2) [.c (.ptr 0 0 0),ai kid,agP ⟨w0,w1⟩,agP ⟨h0,h1⟩] (.t (.agg (jC.ac (bx kid ⟨w0,w1⟩ ⟨h0,h1⟩ st).1))) (SM (bx kid ⟨w0,w1⟩ ⟨h0,h1⟩ st).2.1) (SA (bx kid ⟨w0,w1⟩ ⟨h0,h1⟩ st).2.2)
theorem acE(q:jC):jC.ac q=[.J q.wide,.J q.high,.J q.base,.view (vw aV.c q.frames)]:=rfl
theorem wA{V:List (List AC)}{rtl keeps:Bool}{bx:Bx}{c L:Nat}{kid:Int}(hb:wD V rtl keeps bx c L kid)(row:Bool)(al ac:aF)(st:St):(sn bx row kid al ac st).2.1.length≤st.1.length+c∧(sn bx row kid al ac st).2.2.length≤st.2.length+c:=by
 unfold sn
 split<;>exact hb.1 ..
theorem mq(V:List (List AC))(rtl keeps:Bool)(bx:Bx)(c L:Nat)(kid:Int)(hb:wD V rtl keeps bx c L kid)(n:Int)(s:aq)(row:Bool)(al ac:aF)(kn:Int)(K:List (List AC))(a0 a1 c0 c1:Int)(st:St)(hm:st.1.length+c≤L)(hq:st.2.length+c≤L):
  SE prog 142 (sR V rtl keeps) (SM st.1) (SA st.2) [.c (.ptr 0 0 0),.agg (nwL n s row al ac kn (.view K)),ai kid,agP ⟨a0,a1⟩,agP ⟨c0,c1⟩] (.t (.agg (jC.ac (sn bx row kid ⟨a0,a1⟩ ⟨c0,c1⟩ st).1))) (SM (sn bx row kid ⟨a0,a1⟩ ⟨c0,c1⟩ st).2.1) (SA (sn bx row kid ⟨a0,a1⟩ ⟨c0,c1⟩ st).2.2):=by
 have c1':=hb.2 a0 a1 c0 c1 st hm hq
 have c2':=hb.2 c0 c1 a0 a1 st hm hq
 unfold sn
 have pM:=bT st.1
 have pA:=bU st.2
 obtain⟨r1,hr1⟩:=nmE (bx kid ⟨a0,a1⟩ ⟨c0,c1⟩ st)
 obtain⟨r2,hr2⟩:=nmE (bx kid ⟨c0,c1⟩ ⟨a0,a1⟩ st)
 rw [←hr1]at c1'
 rw [←hr2]at c2'
 rw [←hr1,←hr2]
 rw [acE]at c1' c2'
 clear hr1 hr2 hb
 cases row
 ·simp only [Bool.false_eq_true,if_false]
  rw [acE]
  have pM2:=bT r2.2.1
  have pA2:=bU r2.2.2
  obtain⟨F2,hF2⟩:=nmE (vw aV.c r2.1.frames);(try rw [←hF2]at c2');(try rw [←hF2]at⊢)
  obtain⟨M,hM⟩:=nmE (SM st.1);(try rw [←hM]at c2');(try rw [←hM]at pM);(try rw [←hM]at⊢)
  obtain⟨A0,hA0⟩:=nmE (SA st.2);(try rw [←hA0]at c2');(try rw [←hA0]at pA);(try rw [←hA0]at⊢)
  obtain⟨M2,hM2⟩:=nmE (SM r2.2.1);(try rw [←hM2]at c2');(try rw [←hM2]at pM2);(try rw [←hM2]at⊢)
  obtain⟨A2,hA2⟩:=nmE (SA r2.2.2);(try rw [←hA2]at c2');(try rw [←hA2]at pA2);(try rw [←hA2]at⊢)
  refine dm ([]) ([]) (c:=aN f142) aB func142 (by kernel_rfl) (by kernel_rfl) (bl (by rfl)) (by kernel_rfl) (fun g eff hd F heff hhd hg hF=> ?_)
  cbv
  (refine ir rfl hg 0 1 2 c2' rfl rfl rfl (by decide) rfl pM pA ⟨rfl,rfl,.inl ⟨rfl,rfl⟩,.inl ⟨rfl,rfl⟩,trivial⟩ rfl ?_;cbv)
  exact qo 7 8 hF rfl rfl rfl rfl rfl (by decide) rfl pM2 pA2
 ·simp only [if_true]
  rw [acE]
  have pM2:=bT r1.2.1
  have pA2:=bU r1.2.2
  obtain⟨F2,hF2⟩:=nmE (vw aV.c r1.1.frames);(try rw [←hF2]at c1');(try rw [←hF2]at⊢)
  obtain⟨M,hM⟩:=nmE (SM st.1);(try rw [←hM]at c1');(try rw [←hM]at pM);(try rw [←hM]at⊢)
  obtain⟨A0,hA0⟩:=nmE (SA st.2);(try rw [←hA0]at c1');(try rw [←hA0]at pA);(try rw [←hA0]at⊢)
  obtain⟨M2,hM2⟩:=nmE (SM r1.2.1);(try rw [←hM2]at c1');(try rw [←hM2]at pM2);(try rw [←hM2]at⊢)
  obtain⟨A2,hA2⟩:=nmE (SA r1.2.2);(try rw [←hA2]at c1');(try rw [←hA2]at pA2);(try rw [←hA2]at⊢)
  refine dm ([]) ([]) (c:=aN f142) aB func142 (by kernel_rfl) (by kernel_rfl) (bl (by rfl)) (by kernel_rfl) (fun g eff hd F heff hhd hg hF=> ?_)
  cbv
  (refine ir rfl hg 0 1 2 c1' rfl rfl rfl (by decide) rfl pM pA ⟨rfl,rfl,.inl ⟨rfl,rfl⟩,.inl ⟨rfl,rfl⟩,trivial⟩ rfl ?_;cbv)
  exact qo 7 8 hF rfl rfl rfl rfl rfl (by decide) rfl pM2 pA2
theorem qI(ns:List ak)(hl:ns.length≤1048576)(kid:Int)(y:ak)(h1:isN ns kid=true)(hy:ns[(kid-1).toNat]? =some y)(rtl keeps:Bool)(bx:Bx)(c L:Nat)(hbx:wD (vwA ak.ac ns) rtl keeps bx c L kid)(n:Int)(p:Pl)(K:List (List AC))(st:St)(hm:st.1.length+c≤L)(hq:st.2.length+c≤L):
  SE prog 74 (sR (vwA ak.ac ns) rtl keeps) (SM st.1) (SA st.2) [.c (.ptr 0 0 0),.agg (nwL n p.s p.row p.al p.ac (knS p.wide) (.view K)),ai kid] (.t (ai (vp bx p rtl ns kid st).1)) (SM (vp bx p rtl ns kid st).2.1) (SA (vp bx p rtl ns kid st).2.2):=by
 have hks:kst ns kid=y.style:=il hy
 unfold vp
 rw [hks]
 obtain⟨s,row,w,h,iw,ih,al,ac,kids⟩:=p
 obtain⟨Ky,hKy⟩:=nmE (vw ao y.kids)
 obtain⟨Ry,hRy⟩:=nmE (vw aJ.c y.table.rules)
 have b2:=bA h1
 have pM:=bT st.1
 have kM:=Fz st.1
 have dM:=xP st.1
 have pA:=bU st.2
 have kA:=FA st.2
 have dA:=xQ st.2
 have cX:=kg ns hl kid y h1 hy rtl keeps (.view (SM st.1)) (.view (SA st.2)) n s row al ac (knS iw) K
 change PC0 _ _ (.t (agP (kcX ⟨s,row,w,h,iw,ih,al,ac,kids⟩ y.style rtl)))at cX
 have cS:=fz ns hl kid y h1 hy rtl true keeps (.view (SM st.1)) (.view (SA st.2)) n s row al ac (knS iw) K
 change PC0 _ _ (.t (.agg (lc (av.c (wY ⟨s,row,w,h,iw,ih,al,ac,kids⟩ y.style rtl true)))))at cS
 obtain⟨V,hV⟩:=nmE (vwA ak.ac ns)
 have cy:=bB ns kid y b2.1 (by have:=b2.2.1;omega) hy V Ky Ry hV hKy hRy
 rw [←hV]at hbx cX cS⊢
 obtain⟨⟨k0,k1⟩,hKC⟩:∃q,q=kcX ⟨s,row,w,h,iw,ih,al,ac,kids⟩ y.style rtl:=⟨_,rfl⟩
 obtain⟨BN,hBN⟩:=nmE (BS ⟨s,row,w,h,iw,ih,al,ac,kids⟩ y.style rtl)
 rw [←hKC,←hBN]
 unfold BS at hBN
 rw [←hKC]at cX hBN
 obtain⟨⟨g0,g1⟩,hGA⟩:∃q,q=DG ⟨s,row,w,h,iw,ih,al,ac,kids⟩ y.style rtl:=⟨_,rfl⟩
 rw [←hGA]
 unfold DG at hGA
 obtain⟨SD,hSD⟩:=nmE (wY ⟨s,row,w,h,iw,ih,al,ac,kids⟩ y.style rtl true)
 rw [←hSD]at cS hGA
 dsimp only at hGA hBN⊢
 have cZ:=mq V rtl keeps bx c L kid hbx n s row al ac (knS iw) K g0 g1 k0 k1 st hm hq
 obtain⟨rr,hrr⟩:=nmE (sn bx row kid ⟨g0,g1⟩ ⟨k0,k1⟩ st)
 rw [←hrr]at cZ⊢
 clear hSD hKC hrr hbx hKy hRy hV
 obtain⟨am,an⟩:=al
 have ck:=dh am an
 obtain⟨KN,hKN⟩:=nmE (knS ⟨am,an⟩);(try rw [←hKN]at ck);(try rw [←hKN]at hBN)
 obtain⟨KW,hKW⟩:=nmE (knS iw);(try rw [←hKW]at cX);(try rw [←hKW]at cS);(try rw [←hKW]at cZ);(try rw [←hKW]at⊢)
 have cs:=dN y.style.basis.kind y.style.basis.n KN
 change PC0 _ _ (.t (ai (rK y.style.basis KN)))at cs
 have cf:=ec y.style row KN
 have cr:=lO y.style row k1
 obtain⟨SZ,hSZ⟩:=nmE (rK y.style.basis KN);(try rw [←hSZ]at cs);(try rw [←hSZ]at hBN)
 obtain⟨FX,hFX⟩:=nmE (oQ y.style row KN);(try rw [←hFX]at cf);(try rw [←hFX]at hBN)
 obtain⟨RT,hRT⟩:=nmE (qX y.style row k1);(try rw [←hRT]at cr);(try rw [←hRT]at hBN)
 have co:=jh SZ FX
 obtain⟨O,hO⟩:=nmE (orl SZ FX)
 change PC0 _ _ (.t (ai (orl SZ FX)))at co
 rw [←hO]at co
 have hBN2:BN=if¬O= -1 then O else if k0=3 then RT else-1:=by
  rw [hBN,hO]
  unfold orl
  by_cases q1:SZ= -1<;>by_cases q2:FX= -1<;>simp [q1,q2]
 have cB:=iu SD
 obtain⟨BB,hBB⟩:=nmE (wrap64 (SD.before+SD.behind))
 change PC0 _ _ (.t (ai (wrap64 (SD.before+SD.behind))))at cB
 rw [←hBB]at cB hGA
 have cI:=eN am an BB
 obtain⟨⟨i0,i1⟩,hI⟩:∃q,q=oY ⟨am,an⟩ BB:=⟨_,rfl⟩
 change PC0 _ _ (.t (agP (oY ⟨am,an⟩ BB)))at cI
 rw [←hI]at cI hGA
 have cL:=kq i0 i1
 have pM2:=bT rr.2.1
 have pA2:=bU rr.2.2
 rw [acE]at cZ
 have hal:alB row rr.1=if row then rr.1.wide else rr.1.high:=rfl
 obtain⟨b0,hb0⟩:=nmE rr.1.wide
 obtain⟨b1,hb1⟩:=nmE rr.1.high
 obtain⟨b3,hb3⟩:=nmE rr.1.base
 rw [←hb0,←hb1,←hb3]at cZ
 rw [←hb0,←hb1]at hal
 obtain⟨AL,hAL⟩:=nmE (alB row rr.1);(try rw [←hAL]at hal);(try rw [←hAL]at⊢)
 obtain⟨FR,hFR⟩:=nmE (vw aV.c rr.1.frames);(try rw [←hFR]at cZ)
 obtain⟨M,hM⟩:=nmE (SM st.1);(try rw [←hM]at cZ);(try rw [←hM]at cX);(try rw [←hM]at cS);(try rw [←hM]at pM);(try rw [←hM]at kM);(try rw [←hM]at dM);(try rw [←hM]at⊢)
 obtain⟨A0,hA0⟩:=nmE (SA st.2);(try rw [←hA0]at cZ);(try rw [←hA0]at cX);(try rw [←hA0]at cS);(try rw [←hA0]at pA);(try rw [←hA0]at kA);(try rw [←hA0]at dA);(try rw [←hA0]at⊢)
 obtain⟨M2,hM2⟩:=nmE (SM rr.2.1);(try rw [←hM2]at cZ);(try rw [←hM2]at pM2);(try rw [←hM2]at⊢)
 obtain⟨A2,hA2⟩:=nmE (SA rr.2.2);(try rw [←hA2]at cZ);(try rw [←hA2]at pA2);(try rw [←hA2]at⊢)
 clear hBN hKN hKW hSZ hFX hRT hO hBB hI hb0 hb1 hb3 hAL hFR
 have tm:∀g:Gd,g=G0 prog 3 f74.ntmps→g .q .neq (-1) (-1)=false:=fun g hg=>by rw [bj hg];rfl
 by_cases q1:O= -1
 case neg=>
  have e:BN=O:=by rw [hBN2,if_pos q1]
  rw [if_pos (by rw [e];exact q1),e]
  dsimp only
  rw [←hM,←hA0]
  refine dm ([]) ([]) (c:=aN f74) aB func74 (by kernel_rfl) (by kernel_rfl) (bl (by rfl)) (by kernel_rfl) (fun g eff hd F heff hhd hg hF=> ?_)
  have t0:g .q .eql (O) ((-1))=decide ((O)=((-1))):=by rw [bv hg];exact zqn _ _
  have t1:g .q .neq (O) ((-1))=decide (¬(O)=((-1))):=by rw [bj hg];exact dF _ _
  (first|rw [zqu q1]at t0|rw [zqt q1]at t0|rw [zqu (Classical.not_not.2 q1)]at t0|rw [zqt (Classical.not_not.2 q1)]at t0);(first|rw [zqu q1]at t1|rw [zqt q1]at t1|rw [zqu (Classical.not_not.2 q1)]at t1|rw [zqt (Classical.not_not.2 q1)]at t1)
  cbv
  ((repeat'((first|rw [t0]|rw [t1]|refine ad hg cy ?_|refine aa hg cy ?_|refine ad hg ck ?_|refine aa hg ck ?_|refine ad hg cs ?_|refine aa hg cs ?_|refine ad hg cf ?_|refine aa hg cf ?_|refine ad hg co ?_|refine aa hg co ?_|refine gI hg cX (dq (oE (r:=0) (rm:=1) (ra:=2) [.view V,.B rtl,.B keeps] rfl rfl rfl kM dM rfl kA dA) (bJ rfl (ar (aw rfl) (aC)))) rfl ?_|refine eJ hg cX (dq (oE (r:=0) (rm:=1) (ra:=2) [.view V,.B rtl,.B keeps] rfl rfl rfl kM dM rfl kA dA) (bJ rfl (ar (aw rfl) (aC)))) rfl ?_);cbv)))
  exact qo 1 2 hF rfl rfl rfl rfl rfl (by decide) rfl pM pA
 have ask:BN= -1→SE prog 74 (sR V rtl keeps) M A0 [.c (.ptr 0 0 0),.agg (nwL n s row ⟨am,an⟩ ac KW (.view K)),ai kid] (.t (ai AL)) M2 A2→SE prog 74 (sR V rtl keeps) M A0 [.c (.ptr 0 0 0),.agg (nwL n s row ⟨am,an⟩ ac KW (.view K)),ai kid] (.t (ai (if BN≠ -1 then(BN,st)else(AL,rr.2)).1)) (SM (if BN≠ -1 then(BN,st)else(AL,rr.2)).2.1) (SA (if BN≠ -1 then(BN,st)else(AL,rr.2)).2.2):=fun h hs=>by
  rw [if_neg (fun x=>x h)]
  dsimp only
  rw [←hM2,←hA2]
  exact hs
 clear hM2 hA2
 have q1':O= -1:=q1
 subst q1'
 by_cases q2:k0=3
 case pos=>
  by_cases q3:RT= -1
  case neg=>
   have e:BN=RT:=by rw [hBN2,if_neg (fun h=>h rfl),if_pos q2]
   rw [if_pos (by rw [e];exact q3),e]
   dsimp only
   rw [←hM,←hA0]
   refine dm ([]) ([]) (c:=aN f74) aB func74 (by kernel_rfl) (by kernel_rfl) (bl (by rfl)) (by kernel_rfl) (fun g eff hd F heff hhd hg hF=> ?_)
   have tm:=tm g hg
   have tp:g .q .eql (-1) (-1)=true:=by rw [bv hg];rfl
   have t0:g .q .eql (k0) (3)=decide ((k0)=(3)):=by rw [bv hg];exact zqn _ _
   have t1:g .q .neq (RT) ((-1))=decide (¬(RT)=((-1))):=by rw [bj hg];exact dF _ _
   (first|rw [zqu q2]at t0|rw [zqt q2]at t0|rw [zqu (Classical.not_not.2 q2)]at t0|rw [zqt (Classical.not_not.2 q2)]at t0);(first|rw [zqu q3]at t1|rw [zqt q3]at t1|rw [zqu (Classical.not_not.2 q3)]at t1|rw [zqt (Classical.not_not.2 q3)]at t1)
   cbv
   ((repeat'((first|rw [tm]|rw [tp]|rw [t0]|rw [t1]|refine ad hg cy ?_|refine aa hg cy ?_|refine ad hg ck ?_|refine aa hg ck ?_|refine ad hg cs ?_|refine aa hg cs ?_|refine ad hg cf ?_|refine aa hg cf ?_|refine ad hg co ?_|refine aa hg co ?_|refine ad hg cr ?_|refine aa hg cr ?_|refine gI hg cX (dq (oE (r:=0) (rm:=1) (ra:=2) [.view V,.B rtl,.B keeps] rfl rfl rfl kM dM rfl kA dA) (bJ rfl (ar (aw rfl) (aC)))) rfl ?_|refine eJ hg cX (dq (oE (r:=0) (rm:=1) (ra:=2) [.view V,.B rtl,.B keeps] rfl rfl rfl kM dM rfl kA dA) (bJ rfl (ar (aw rfl) (aC)))) rfl ?_);cbv)))
   exact qo 1 2 hF rfl rfl rfl rfl rfl (by decide) rfl pM pA
  have e:BN= -1:=by rw [hBN2,if_neg (fun h=>h rfl),if_pos q2,q3]
  refine ask e ?_
  clear ask
  cases row
  case false=>
   simp only [Bool.false_eq_true,if_false,aF.mk.injEq]at hal hGA
   obtain⟨rfl,rfl⟩:=hGA
   subst hal
   refine dm ([]) ([]) (c:=aN f74) aB func74 (by kernel_rfl) (by kernel_rfl) (bl (by rfl)) (by kernel_rfl) (fun g eff hd F heff hhd hg hF=> ?_)
   have tm:=tm g hg
   have tp:g .q .eql (-1) (-1)=true:=by rw [bv hg];rfl
   have t0:g .q .eql (k0) (3)=decide ((k0)=(3)):=by rw [bv hg];exact zqn _ _
   have t1:g .q .neq (RT) ((-1))=decide (¬(RT)=((-1))):=by rw [bj hg];exact dF _ _
   (first|rw [zqu q2]at t0|rw [zqt q2]at t0|rw [zqu (Classical.not_not.2 q2)]at t0|rw [zqt (Classical.not_not.2 q2)]at t0);(first|rw [zqu q3]at t1|rw [zqt q3]at t1|rw [zqu (Classical.not_not.2 q3)]at t1|rw [zqt (Classical.not_not.2 q3)]at t1)
   cbv
   ((repeat'((first|rw [tm]|rw [tp]|rw [t0]|rw [t1]|refine ad hg cy ?_|refine aa hg cy ?_|refine ad hg ck ?_|refine aa hg ck ?_|refine ad hg cs ?_|refine aa hg cs ?_|refine ad hg cf ?_|refine aa hg cf ?_|refine ad hg co ?_|refine aa hg co ?_|refine ad hg cr ?_|refine aa hg cr ?_|refine gI hg cX (dq (oE (r:=0) (rm:=1) (ra:=2) [.view V,.B rtl,.B keeps] rfl rfl rfl kM dM rfl kA dA) (bJ rfl (ar (aw rfl) (aC)))) rfl ?_|refine eJ hg cX (dq (oE (r:=0) (rm:=1) (ra:=2) [.view V,.B rtl,.B keeps] rfl rfl rfl kM dM rfl kA dA) (bJ rfl (ar (aw rfl) (aC)))) rfl ?_|refine ir rfl hg 0 1 2 cZ rfl rfl rfl (by decide) rfl pM pA ⟨rfl,.inl ⟨rfl,rfl⟩,rfl,.inl ⟨rfl,rfl⟩,.inl ⟨rfl,rfl⟩,trivial⟩ rfl ?_);cbv)))
   exact qo 7 8 hF rfl rfl rfl rfl rfl (by decide) rfl pM2 pA2
  case true=>
   simp only [if_true]at hal hGA
   subst hal
   rw [←hGA]at cL
   refine dm ([]) ([]) (c:=aN f74) aB func74 (by kernel_rfl) (by kernel_rfl) (bl (by rfl)) (by kernel_rfl) (fun g eff hd F heff hhd hg hF=> ?_)
   have tm:=tm g hg
   have tp:g .q .eql (-1) (-1)=true:=by rw [bv hg];rfl
   have t0:g .q .eql (k0) (3)=decide ((k0)=(3)):=by rw [bv hg];exact zqn _ _
   have t1:g .q .neq (RT) ((-1))=decide (¬(RT)=((-1))):=by rw [bj hg];exact dF _ _
   (first|rw [zqu q2]at t0|rw [zqt q2]at t0|rw [zqu (Classical.not_not.2 q2)]at t0|rw [zqt (Classical.not_not.2 q2)]at t0);(first|rw [zqu q3]at t1|rw [zqt q3]at t1|rw [zqu (Classical.not_not.2 q3)]at t1|rw [zqt (Classical.not_not.2 q3)]at t1)
   cbv
   ((repeat'((first|rw [tm]|rw [tp]|rw [t0]|rw [t1]|refine ad hg cy ?_|refine aa hg cy ?_|refine ad hg ck ?_|refine aa hg ck ?_|refine ad hg cs ?_|refine aa hg cs ?_|refine ad hg cf ?_|refine aa hg cf ?_|refine ad hg co ?_|refine aa hg co ?_|refine ad hg cr ?_|refine aa hg cr ?_|refine ad hg cB ?_|refine aa hg cB ?_|refine ad hg cI ?_|refine aa hg cI ?_|refine ad hg cL ?_|refine aa hg cL ?_|refine gI hg cX (dq (oE (r:=0) (rm:=1) (ra:=2) [.view V,.B rtl,.B keeps] rfl rfl rfl kM dM rfl kA dA) (bJ rfl (ar (aw rfl) (aC)))) rfl ?_|refine eJ hg cX (dq (oE (r:=0) (rm:=1) (ra:=2) [.view V,.B rtl,.B keeps] rfl rfl rfl kM dM rfl kA dA) (bJ rfl (ar (aw rfl) (aC)))) rfl ?_|refine gI hg cS (dq (oE (r:=0) (rm:=1) (ra:=2) [.view V,.B rtl,.B keeps] rfl rfl rfl kM dM rfl kA dA) (bJ rfl (ar (aw rfl) (ar (aw rfl) (aC))))) rfl ?_|refine eJ hg cS (dq (oE (r:=0) (rm:=1) (ra:=2) [.view V,.B rtl,.B keeps] rfl rfl rfl kM dM rfl kA dA) (bJ rfl (ar (aw rfl) (ar (aw rfl) (aC))))) rfl ?_|refine ir rfl hg 0 1 2 cZ rfl rfl rfl (by decide) rfl pM pA ⟨rfl,.inl ⟨rfl,rfl⟩,rfl,.inl ⟨rfl,rfl⟩,.inl ⟨rfl,rfl⟩,trivial⟩ rfl ?_);cbv)))
   exact qo 7 8 hF rfl rfl rfl rfl rfl (by decide) rfl pM2 pA2
 have e:BN= -1:=by rw [hBN2,if_neg (fun h=>h rfl),if_neg q2]
 refine ask e ?_
 clear ask
 cases row
 case false=>
  simp only [Bool.false_eq_true,if_false,aF.mk.injEq]at hal hGA
  obtain⟨rfl,rfl⟩:=hGA
  subst hal
  refine dm ([]) ([]) (c:=aN f74) aB func74 (by kernel_rfl) (by kernel_rfl) (bl (by rfl)) (by kernel_rfl) (fun g eff hd F heff hhd hg hF=> ?_)
  have tm:=tm g hg
  have tp:g .q .eql (-1) (-1)=true:=by rw [bv hg];rfl
  have t0:g .q .eql (k0) (3)=decide ((k0)=(3)):=by rw [bv hg];exact zqn _ _
  (first|rw [zqu q2]at t0|rw [zqt q2]at t0|rw [zqu (Classical.not_not.2 q2)]at t0|rw [zqt (Classical.not_not.2 q2)]at t0)
  cbv
  ((repeat'((first|rw [tm]|rw [tp]|rw [t0]|refine ad hg cy ?_|refine aa hg cy ?_|refine ad hg ck ?_|refine aa hg ck ?_|refine ad hg cs ?_|refine aa hg cs ?_|refine ad hg cf ?_|refine aa hg cf ?_|refine ad hg co ?_|refine aa hg co ?_|refine ad hg cr ?_|refine aa hg cr ?_|refine gI hg cX (dq (oE (r:=0) (rm:=1) (ra:=2) [.view V,.B rtl,.B keeps] rfl rfl rfl kM dM rfl kA dA) (bJ rfl (ar (aw rfl) (aC)))) rfl ?_|refine eJ hg cX (dq (oE (r:=0) (rm:=1) (ra:=2) [.view V,.B rtl,.B keeps] rfl rfl rfl kM dM rfl kA dA) (bJ rfl (ar (aw rfl) (aC)))) rfl ?_|refine ir rfl hg 0 1 2 cZ rfl rfl rfl (by decide) rfl pM pA ⟨rfl,.inl ⟨rfl,rfl⟩,rfl,.inl ⟨rfl,rfl⟩,.inl ⟨rfl,rfl⟩,trivial⟩ rfl ?_);cbv)))
  exact qo 7 8 hF rfl rfl rfl rfl rfl (by decide) rfl pM2 pA2
 case true=>
  simp only [if_true]at hal hGA
  subst hal
  rw [←hGA]at cL
  refine dm ([]) ([]) (c:=aN f74) aB func74 (by kernel_rfl) (by kernel_rfl) (bl (by rfl)) (by kernel_rfl) (fun g eff hd F heff hhd hg hF=> ?_)
  have tm:=tm g hg
  have tp:g .q .eql (-1) (-1)=true:=by rw [bv hg];rfl
  have t0:g .q .eql (k0) (3)=decide ((k0)=(3)):=by rw [bv hg];exact zqn _ _
  (first|rw [zqu q2]at t0|rw [zqt q2]at t0|rw [zqu (Classical.not_not.2 q2)]at t0|rw [zqt (Classical.not_not.2 q2)]at t0)
  cbv
  ((repeat'((first|rw [tm]|rw [tp]|rw [t0]|refine ad hg cy ?_|refine aa hg cy ?_|refine ad hg ck ?_|refine aa hg ck ?_|refine ad hg cs ?_|refine aa hg cs ?_|refine ad hg cf ?_|refine aa hg cf ?_|refine ad hg co ?_|refine aa hg co ?_|refine ad hg cr ?_|refine aa hg cr ?_|refine ad hg cB ?_|refine aa hg cB ?_|refine ad hg cI ?_|refine aa hg cI ?_|refine ad hg cL ?_|refine aa hg cL ?_|refine gI hg cX (dq (oE (r:=0) (rm:=1) (ra:=2) [.view V,.B rtl,.B keeps] rfl rfl rfl kM dM rfl kA dA) (bJ rfl (ar (aw rfl) (aC)))) rfl ?_|refine eJ hg cX (dq (oE (r:=0) (rm:=1) (ra:=2) [.view V,.B rtl,.B keeps] rfl rfl rfl kM dM rfl kA dA) (bJ rfl (ar (aw rfl) (aC)))) rfl ?_|refine gI hg cS (dq (oE (r:=0) (rm:=1) (ra:=2) [.view V,.B rtl,.B keeps] rfl rfl rfl kM dM rfl kA dA) (bJ rfl (ar (aw rfl) (ar (aw rfl) (aC))))) rfl ?_|refine eJ hg cS (dq (oE (r:=0) (rm:=1) (ra:=2) [.view V,.B rtl,.B keeps] rfl rfl rfl kM dM rfl kA dA) (bJ rfl (ar (aw rfl) (ar (aw rfl) (aC))))) rfl ?_|refine ir rfl hg 0 1 2 cZ rfl rfl rfl (by decide) rfl pM pA ⟨rfl,.inl ⟨rfl,rfl⟩,rfl,.inl ⟨rfl,rfl⟩,.inl ⟨rfl,rfl⟩,trivial⟩ rfl ?_);cbv)))
  exact qo 7 8 hF rfl rfl rfl rfl rfl (by decide) rfl pM2 pA2
theorem Ag{V:List (List AC)}{rtl keeps:Bool}{bx:Bx}{c L:Nat}{kid:Int}(hb:wD V rtl keeps bx c L kid)(p:Pl)(ns:List ak)(st:St):(vp bx p rtl ns kid st).2.1.length≤st.1.length+c∧(vp bx p rtl ns kid st).2.2.length≤st.2.length+c:=by
 unfold vp
 split
 ·exact⟨Nat.le_add_right ..,Nat.le_add_right ..⟩
 ·exact wA hb ..
theorem sM{a b c k L:Nat}(h:a≤b+k*c)(hL:b+20*c≤L)(hk:k+1≤20):a+c≤L:=by
 have:=Nat.mul_le_mul_right c hk
 rw [Nat.succ_mul]at this
 omega
theorem mK{a a' b c k:Nat}(h:a≤b+k*c)(h2:a'≤a+c):a'≤b+(k+1)*c:=by
 rw [Nat.succ_mul];omega
theorem pb(ns:List ak)(hl:ns.length≤1048576)(rtl keeps:Bool)(bx:Bx)(c L:Nat)(n:Int)(p:Pl)(hkl:p.kids.length<20)(hk:∀kid∈p.kids,isN ns kid=true)(hbx:∀kid∈p.kids,wD (vwA ak.ac ns) rtl keeps bx c L kid)(st:St)(hm:st.1.length+20*c≤L)(hq:st.2.length+20*c≤L):
  SE prog 91 (sR (vwA ak.ac ns) rtl keeps) (SM st.1) (SA st.2) [.c (.ptr 0 0 0),.agg (nwL n p.s p.row p.al p.ac (knS p.wide) (.view (vw ao p.kids)))] (.t (.c (.view (vw aj.c (lq bx p rtl ns p.kids st).1)))) (SM (lq bx p rtl ns p.kids st).2.1) (SA (lq bx p rtl ns p.kids st).2.2):=by
 refine uL (t:=121) (k:=9) (V:=vw aj.c (lq bx p rtl ns p.kids st).1) (R:= .o 5) ?_ (bL (c:=aj.c) (k:=9) fun _=>rfl) az rfl rfl rfl
 have hat:∀kid∈p.kids,∃y,ns[(kid-1).toNat]? =some y:=fun kid h=>(bA (hk kid h)).2.2
 have hnd:=fun kid(h:kid∈p.kids) y hy Ky Ry=>bB ns kid y (bA (hk kid h)).1 (by have:=(bA (hk kid h)).2.1;omega) hy (vwA ak.ac ns) Ky Ry rfl
 have hBa:=fun kid(h:kid∈p.kids) y hy K st h1 h2=>qI ns hl kid y (hk kid h) hy rtl keeps bx c L (hbx kid h) n p K st h1 h2
 have hS:=fun kid(h:kid∈p.kids) y hy C D K=>fz ns hl kid y (hk kid h) hy rtl true keeps C D n p.s p.row p.al p.ac (knS p.wide) K
 have hlen:=fun kid(h:kid∈p.kids) st=>Ag (hbx kid h) p ns st
 clear hbx
 obtain⟨f,hf⟩:∃f,f=fun k st=>vp bx p rtl ns k st:=⟨_,rfl⟩
 have hfe:∀k st,vp bx p rtl ns k st=f k st:=fun k st=>by rw [hf]
 simp only [hfe]at hBa hlen
 obtain⟨it,hit⟩:∃it,it=fun ks st=>lq bx p rtl ns ks st:=⟨_,rfl⟩
 have hite:∀ks st,lq bx p rtl ns ks st=it ks st:=fun ks st=>by rw [hit]
 have hi0:∀st,it [] st=([],st):=fun st=>by rw [hit];rfl
 have hi1:∀k r st,it (k::r) st=(Es p (kst ns k) rtl (f k st).1::(it r (f k st).2).1,(it r (f k st).2).2):=fun k r st=>by rw [hit,hf];rfl
 simp only [hite]
 clear hf hit hfe hite
 obtain⟨s0,row,w,h,iw,ih,al,ac,kids⟩:=p
 dsimp only at *
 obtain⟨V,hV⟩:=nmE (vwA ak.ac ns)
 rw [←hV]at hnd
 simp only [←hV]at hBa hS
 rw [←hV]
 obtain⟨K,hK⟩:=nmE (vw ao kids)
 have hKl:K.length=kids.length:=by rw [hK,af]
 have iK:bQ K=true:=by rw [hK];exact aI _ _
 have kK:∀y∈K,y.length=1:=by rw [hK];exact bL (c:=ao) (k:=1) fun _=>rfl
 have dK:∀y∈K,y.all dat=true:=by rw [hK];exact az
 have hBa:=fun kid h y hy st=>hBa kid h y hy K st
 have hS:=fun kid h y hy C D=>hS kid h y hy C D K
 rw [←hK]
 obtain⟨am,an⟩:=al
 have ck:=dh am an
 obtain⟨KN,hKN⟩:=nmE (knS ⟨am,an⟩)
 change PC0 _ _ (.t (ai (knS ⟨am,an⟩)))at ck
 rw [←hKN]at ck
 have hi1:∀k r st y,ns[(k-1).toNat]? =some y→it (k::r) st=((⟨(f k st).1,zA y.style row KN,Au y.style row KN,y.style.grow,y.style.shrink,(sdB s0 y.style rtl true (knS iw)).before,(sdB s0 y.style rtl true (knS iw)).behind,(sdB s0 y.style rtl true (knS iw)).autoBefore,(sdB s0 y.style rtl true (knS iw)).autoBehind⟩:aj)::(it r (f k st).2).1,(it r (f k st).2).2):=fun k r st y hy=>by
  rw [hi1,il hy,hKN];rfl
 obtain⟨R,hR⟩:=nmE (it kids st)
 rw [←hR]
 obtain⟨KW,hKW⟩:=nmE (knS iw);(try rw [←hKW]at hBa);(try rw [←hKW]at hS);(try rw [←hKW]at hi1);(try rw [←hKW]at⊢)
 obtain⟨M0,hM0⟩:=nmE (SM st.1)
 obtain⟨A0,hA0⟩:=nmE (SA st.2)
 have pM0:ah M0=true:=by rw [hM0];exact bT _
 have pA0:ah A0=true:=by rw [hA0];exact bU _
 rw [←hM0,←hA0]
 have hkl2:kids.length≤1048576:=by omega
 have hRl:R.1.length=kids.length:=by
  rw [hR]
  have:∀ks:List Int,(∀k∈ks,k∈kids)→∀st,(it ks st).1.length=ks.length:=by
   intro ks
   induction ks with
   |nil=>intro _ st;rw [hi0];rfl
   |cons k ks ih=>
    intro hs st
    obtain⟨y,hy⟩:=hat k (hs k (List.mem_cons_self ..))
    rw [hi1 k ks st y hy]
    simp [ih (fun x hx=>hs x (List.mem_cons_of_mem _ hx))]
  exact this kids (fun _ h=>h) st
 clear hKN hV
 refine dm ([(8,.hand)]) ([]) (c:=aN f91) aB func91 (by kernel_rfl) (by kernel_rfl) (bl (by rfl)) (by kernel_rfl) (fun g eff hd F heff hhd hg hF=> ?_)
 cbv
 (repeat'((first|refine ad hg ck ?_|refine aa hg ck ?_);cbv))
 refine lj ([(8,.hand)]) ([]) heff hhd hg aB (by kernel_rfl) K (fun x=>lc (ao x)) kids hK hkl2 (fun z(s:(List aj×St)×List (List AC)×List (List AC)×List (List AC))=>[(0,.p 0),(3,.p 3),(5,.o 6),(6,.t (ai (KN))),(7,.t (ai (z)))]) (fun z(s:(List aj×St)×List (List AC)×List (List AC)×List (List AC))=>[.bx 79 5 [.view V,.B rtl,.B keeps,.own 4,.own 5],.gn,.gn,.bx 89 68 (nwL n s0 row ⟨am,an⟩ ac KW (.view K)),.rw ⟨199,10,s.2.1⟩,.rw ⟨206,6,s.2.2.1⟩,.rw ⟨121,9,s.2.2.2⟩]) (fun z(s:(List aj×St)×List (List AC)×List (List AC)×List (List AC))=>s.2.1=SM s.1.2.1∧s.2.2.1=SA s.1.2.2∧s.2.2.2=vw aj.c s.1.1∧s.1.2.1.length≤st.1.length+s.1.1.length*c∧s.1.2.2.length≤st.2.length+s.1.1.length*c) (fun(s:(List aj×St)×List (List AC)×List (List AC)×List (List AC)) rest=>(s.1.1++(it rest s.1.2).1,(it rest s.1.2).2)) (R) (([],st),M0,A0,[]) (by rw [hR];rfl) ⟨hM0,hA0,rfl,by simp,by simp⟩ (Wk.weak (wkM [some 0,none,none,some 3,some 1,some 2,some 4] ⟨rfl,rfl,rfl,rfl,rfl,trivial⟩ ⟨.inr ⟨_,_,rfl,rfl,rfl,rfl,.inr ⟨⟨rfl,rfl,rfl,rfl,rfl,trivial⟩,trivial⟩⟩,.inl rfl,.inl rfl,.inr (wqE rfl rfl),.inr (wqE rfl pM0),.inr (wqE rfl pA0),.inr (wqE rfl rfl),trivial⟩ (by decide) ⟨.inl rfl,.inl rfl,.inr rfl,trivial⟩ ⟨.inl rfl,.inl rfl,.inr ⟨_,rfl⟩,trivial⟩)) (fun z s B hz h0 hi he=> ?_) (fun z s x rest B z0 z1 z2 hx hy h0 hi hc e1 hB=> ?_)
 ·obtain⟨⟨out,st1⟩,M1,A1,E⟩:=s
  obtain⟨i1,i2,i3,i4,i5⟩:=hi
  dsimp only at i1 i2 i3 h0
  obtain rfl:R=(out,st1):=by rw [←h0,hi0];simp
  have pM1:ah M1=true:=by rw [i1];exact bT _
  have pA1:ah A1=true:=by rw [i2];exact bU _
  have pE:ah E=true:=by rw [i3];exact ag _ _
  cbv;rw [he];cbv
  subst i1 i2 i3
  exact zW 4 5 6 hF rfl rfl rfl rfl rfl rfl (by decide) rfl pM1 pA1 pE
 ·obtain⟨⟨out,st1⟩,M1,A1,E⟩:=s
  obtain⟨i1,i2,i3,i4,i5⟩:=hi
  dsimp only at i1 i2 i3 i4 i5 h0
  have hxm:x∈kids:=zqd hx
  obtain⟨y,hyx⟩:=hat x hxm
  rw [hi1 x rest st1 y hyx]at h0
  have hz20:out.length+1≤20:=by
   have:=congrArg (fun r=>r.1.length) h0
   simp only [zqe,zqx]at this
   omega
  have hEl:E.length≤1048576:=by rw [i3,af];omega
  have pM:ah M1=true:=by rw [i1];exact bT _
  have pA:ah A1=true:=by rw [i2];exact bU _
  have kM:∀y∈M1,y.length=10:=by rw [i1];exact Fz _
  have dM:∀y∈M1,y.all dat=true:=by rw [i1];exact xP _
  have kA:∀y∈A1,y.length=6:=by rw [i2];exact FA _
  have dA:∀y∈A1,y.all dat=true:=by rw [i2];exact xQ _
  have cB:=hBa x hxm y hyx st1 (sM i4 hm hz20) (sM i5 hq hz20)
  rw [←i1,←i2]at cB
  have cS:=hS x hxm y hyx (.view M1) (.view A1)
  have cy:=hnd x hxm y hyx _ _ rfl rfl
  obtain⟨Ky,hKy⟩:=nmE (vw ao y.kids)
  obtain⟨Ry,hRy⟩:=nmE (vw aJ.c y.table.rules)
  rw [←hKy,←hRy]at cy
  have hn:=hlen x hxm st1
  obtain⟨⟨b,st2⟩,hrr⟩:∃r,r=f x st1:=⟨_,rfl⟩
  rw [←hrr]at cB hn h0
  dsimp only at cB hn h0
  have j1:=mK i4 hn.1
  have j2:=mK i5 hn.2
  have cLe:=iz y.style row KN
  have cMo:=ji y.style row KN
  obtain⟨f1,hf1⟩:=nmE (zA y.style row KN);(try rw [←hf1]at cLe);(try rw [←hf1]at h0)
  obtain⟨f2,hf2⟩:=nmE (Au y.style row KN);(try rw [←hf2]at cMo);(try rw [←hf2]at h0)
  obtain⟨SD,hSD⟩:=nmE (sdB s0 y.style rtl true KW);(try rw [←hSD]at cS);(try rw [←hSD]at h0)
  obtain⟨d0,d1,d2,d3,d4,d5,d6⟩:=SD
  dsimp only at h0
  obtain⟨M2,hM2⟩:=nmE (SM st2.1)
  obtain⟨A2,hA2⟩:=nmE (SA st2.2)
  have pM2:ah M2=true:=by rw [hM2];exact bT _
  have pA2:ah A2=true:=by rw [hA2];exact bU _
  rw [←hM2,←hA2]at cB
  obtain⟨E2,hE2⟩:∃E2,E2=E++[[.J b,.J f1,.J f2,.J y.style.grow,.J y.style.shrink,.J d1,.J d2,.B d3,.B d4]]:=⟨_,rfl⟩
  have aE:E2=vw aj.c (out++[⟨b,f1,f2,y.style.grow,y.style.shrink,d1,d2,d3,d4⟩]):=by rw [hE2,i3,bz];rfl
  have pE2:ah E2=true:=by rw [aE];exact ag _ _
  have pE:ah E=true:=by rw [i3];exact ag _ _
  have h3:((out++[(⟨b,f1,f2,y.style.grow,y.style.shrink,d1,d2,d3,d4⟩:aj)])++(it rest st2).1,(it rest st2).2)=R:=by rw [←h0];simp
  have nl:(out++[(⟨b,f1,f2,y.style.grow,y.style.shrink,d1,d2,d3,d4⟩:aj)]).length=out.length+1:=by simp
  clear hKy hRy hrr hf1 hf2 hSD i4 i5 hn hBa hS hnd hlen hi1
  cbv
  rw [hc]
  cbv
  ((repeat'((first|refine ad hg cy ?_|refine aa hg cy ?_|refine goX hg _ z0 hy rfl ?_|refine gI hg cS (dq (oE (r:=0) (rm:=4) (ra:=5) [.view V,.B rtl,.B keeps] rfl rfl rfl kM dM rfl kA dA) (bJ rfl (ar (aw rfl) (ar (aw rfl) (aC))))) rfl ?_|refine eJ hg cS (dq (oE (r:=0) (rm:=4) (ra:=5) [.view V,.B rtl,.B keeps] rfl rfl rfl kM dM rfl kA dA) (bJ rfl (ar (aw rfl) (ar (aw rfl) (aC))))) rfl ?_);cbv)))
  refine fo hg hhd aB [1,2,3,4,5,6,7,9,10,11,12,14,15,16,17,19,20,21,22,23,24,25,26,27,28,29,30] (.op 0 [] (.op 8 [13,18,31] (.op 32 [] (.op 33 [] (.op 34 [] .done .none) .none) .none) .none) (.op 8 [13,18,31] (.op 0 [] (.op 32 [] (.op 33 [] (.op 34 [] .done .none) .none) .none) (.op 32 [] (.op 0 [] (.op 33 [] (.op 34 [] .done .none) .none) .none) .none)) .none)) (by kernel_rfl) (by kernel_rfl) (S:=Unit) (fun _=>True) (fun _=>[(0,.p 0),(3,.p 3),(5,.o 6),(6,.t (ai (KN))),(7,.t (ai (z)))]) (fun _=>[.bx 79 5 [.view V,.B rtl,.B keeps,.own 4,.own 5],.gn,.gn,.bx 89 68 (nwL n s0 row ⟨am,an⟩ ac KW (.view K)),.rw ⟨199,10,M2⟩,.rw ⟨206,6,A2⟩,.rw ⟨121,9,E2⟩]) (fun BL hBL=> ?_) (fun _ _=> ?_)
  ·cbv
   ((repeat'(first|exact trivial|exact rfl|refine And.intro ?_ ?_|((first|refine ad hg cLe ?_|refine aa hg cLe ?_|refine ad hg cMo ?_|refine aa hg cMo ?_|refine goX hg _ z0 hy rfl ?_|refine ir rfl hg 0 4 5 cB rfl rfl rfl (by decide) rfl pM pA ⟨rfl,.inl ⟨rfl,rfl⟩,rfl,trivial⟩ rfl ?_|refine dp hg rfl (by decide) hEl ?_);cbv))))
   all_goals
    rw [gy hg,←hE2]
    exact hBL () trivial _ _ (Wk.weak (wkM [some 0,none,none,some 3,some 9,some 10,some 12] ⟨rfl,rfl,rfl,rfl,rfl,trivial⟩ ⟨.inr ⟨_,_,rfl,rfl,rfl,rfl,.inr ⟨⟨rfl,rfl,rfl,rfl,rfl,trivial⟩,trivial⟩⟩,.inl rfl,.inl rfl,.inr (wqE rfl rfl),.inr (wqE rfl pM2),.inr (wqE rfl pA2),.inr (wqE rfl pE2),trivial⟩ (by decide) ⟨.inl rfl,.inl rfl,.inr rfl,trivial⟩ ⟨.inl rfl,.inl rfl,.inr ⟨_,rfl⟩,trivial⟩))
  cbv
  ((repeat'(rw [e1];cbv)))
  skip
  exact hB (((out++[⟨b,f1,f2,y.style.grow,y.style.shrink,d1,d2,d3,d4⟩],st2),M2,A2,E2)) _ _ ⟨h3,⟨hM2,hA2,aE,by rw [nl];exact j1,by rw [nl];exact j2⟩⟩ (Wk.weak (wkM [some 0,none,none,some 3,some 4,some 5,some 6] ⟨rfl,rfl,rfl,rfl,rfl,trivial⟩ ⟨.inr ⟨_,_,rfl,rfl,rfl,rfl,.inr ⟨⟨rfl,rfl,rfl,rfl,rfl,trivial⟩,trivial⟩⟩,.inl rfl,.inl rfl,.inr (wqE rfl rfl),.inr (wqE rfl pM2),.inr (wqE rfl pA2),.inr (wqE rfl pE2),trivial⟩ (by decide) ⟨.inl rfl,.inl rfl,.inr rfl,trivial⟩ ⟨.inl rfl,.inl rfl,.inr ⟨_,rfl⟩,trivial⟩))
end Go.Proofs.YtdnnffbbhijmkaaGreat
