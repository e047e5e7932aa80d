/- The reference's items of the children. -/
import Derived.Test.YtkicjdeddpihaaaGreatS4bq
set_option linter.unusedVariables false
set_option linter.unusedSimpArgs false
set_option maxHeartbeats 16000000
namespace Go.Proofs.YtkicjdeddpihaaaGreat
open Go.ChangeShapes Go.WideShapes Go.ChangeAt Go.RowKit Am Go.Proofs.Tryz
set_option maxRecDepth 100000
def sR(V:LLA)(rtl keeps:Bool):S3K:=⟨74,5,[.view V,.B rtl,.B keeps],146,10,153,6⟩
def SM(ms:List oY):LLA:=vwA oY.ac ms
def SA(qs:List kz):LLA:=vw kz.c qs
theorem cu(ms:List oY):aB (SM ms)=true:=kN (c:=oY.ac) (fun x=>by obtain⟨a,⟨b,c⟩,⟨d,e⟩,f,⟨i,j,k,l⟩⟩:=x;rfl) ms
theorem Jg(ms:List oY):∀y∈SM ms,y.length=10:=Ak (c:=oY.ac) (fun x=>by obtain⟨a,⟨b,c⟩,⟨d,e⟩,f,⟨i,j,k,l⟩⟩:=x;rfl)
theorem Ag(ms:List oY):∀y∈SM ms,y.all dat=true:=ow (c:=oY.ac) (fun x=>by obtain⟨a,⟨b,c⟩,⟨d,e⟩,f,⟨i,j,k,l⟩⟩:=x;rfl)
theorem cV(qs:List kz):aB (SA qs)=true:=aI _ _
theorem Ah(qs:List kz):∀y∈SA qs,y.all dat=true:=tH
theorem Jh(qs:List kz):∀y∈SA qs,y.length=6:=Dg (c:=kz.c) fun _=>rfl
def Aj(V:LLA)(rtl keeps:Bool)(bx:Bx)(c L:Nat)(kid:Int):Prop:=(∀w h st,(bx kid w h st).2.1.length<=st.1.length+c/\(bx kid w h st).2.2.length<=st.2.length+c)/\
 ∀(w0 w1 h0 h1:Int)(st:St),st.1.length+c<=L->st.2.length+c<=L->
  SE prog 44 (sR V rtl keeps) (SM st.1) (SA st.2) [.c (.ptr 0 0 0),ai kid,agP ⟨w0,w1⟩,agP ⟨h0,h1⟩] (.t (.agg (jc.ac (bx kid ⟨w0,w1⟩ ⟨h0,h1⟩ st).1))) (SM (bx kid ⟨w0,w1⟩ ⟨h0,h1⟩ st).2.1) (SA (bx kid ⟨w0,w1⟩ ⟨h0,h1⟩ st).2.2)
theorem acE(q:jc):jc.ac q=[.J q.wide,.J q.high,.J q.base,.view (vw aD.c q.frames)]:=rfl
variable {rtl keeps:Bool}
theorem yF{V:LLA}{bx:Bx}{c L:Nat}{kid:Int}(hb:Aj V rtl keeps bx c L kid)(row:Bool)(al ac:az)(st:St):(uw bx row kid al ac st).2.1.length<=st.1.length+c/\(uw bx row kid al ac st).2.2.length<=st.2.length+c:=by
 unfold uw
 split<;>exact hb.1 ..
theorem nh(V:LLA)(rtl keeps:Bool)(bx:Bx)(c L:Nat)(kid:Int)(hb:Aj V rtl keeps bx c L kid)(n:Int)(s:ao)(row:Bool)(al ac:az)(kn:Int)(K:LLA)(a0 a1 c0 c1:Int)(st:St)(hm:st.1.length+c<=L)(hq:st.2.length+c<=L):
  SE prog 105 (sR V rtl keeps) (SM st.1) (SA st.2) [.c (.ptr 0 0 0),.agg (nwL n s row al ac kn (.view K)),ai kid,agP ⟨a0,a1⟩,agP ⟨c0,c1⟩] (.t (.agg (jc.ac (uw bx row kid ⟨a0,a1⟩ ⟨c0,c1⟩ st).1))) (SM (uw bx row kid ⟨a0,a1⟩ ⟨c0,c1⟩ st).2.1) (SA (uw bx row kid ⟨a0,a1⟩ ⟨c0,c1⟩ st).2.2):=by
 have ha:=hb.2 a0 a1 c0 c1 st hm hq
 have hc:=hb.2 c0 c1 a0 a1 st hm hq
 unfold uw
 have pM:=cu st.1
 have pA:=cV st.2
 obtain⟨r1,hr1⟩:=nmE (bx kid ⟨a0,a1⟩ ⟨c0,c1⟩ st)
 obtain⟨r2,hn⟩:=nmE (bx kid ⟨c0,c1⟩ ⟨a0,a1⟩ st)
 rw [<-hr1]at ha
 rw [<-hn]at hc
 rw [<-hr1,<-hn]
 rw [acE]at ha hc
 clear hr1 hn hb
 cases row
 ·simp only [Bool.false_eq_true,if_false]
  rw [acE]
  have hk:=cu r2.2.1
  have hj:=cV r2.2.2
  obtain⟨F2,hi⟩:=nmE (vw aD.c r2.1.frames);(try rw [<-hi]at hc);(try rw [<-hi]at⊢)
  obtain⟨M,hM⟩:=nmE (SM st.1);(try rw [<-hM]at hc);(try rw [<-hM]at pM);(try rw [<-hM]at⊢)
  obtain⟨A0,he⟩:=nmE (SA st.2);(try rw [<-he]at hc);(try rw [<-he]at pA);(try rw [<-he]at⊢)
  obtain⟨M2,hh⟩:=nmE (SM r2.2.1);(try rw [<-hh]at hc);(try rw [<-hh]at hk);(try rw [<-hh]at⊢)
  obtain⟨A2,hf⟩:=nmE (SA r2.2.2);(try rw [<-hf]at hc);(try rw [<-hf]at hj);(try rw [<-hf]at⊢)
  refine dJ ([]) ([]) (c:=aM f105) ay func105 (by kernel_rfl) (by kernel_rfl) (bl (by rfl)) (by kernel_rfl) (fun g ho hd F hl hp hg hF=> ?_)
  cbv
  (refine jF rfl hg 0 1 2 hc rfl rfl rfl (by decide) rfl pM pA ⟨rfl,rfl,.inl ⟨rfl,rfl⟩,.inl ⟨rfl,rfl⟩,trivial⟩ rfl ?_;cbv)
  exact tC 7 8 hF rfl rfl rfl rfl rfl (by decide) rfl hk hj
 ·simp only [if_true]
  rw [acE]
  have hk:=cu r1.2.1
  have hj:=cV r1.2.2
  obtain⟨F2,hi⟩:=nmE (vw aD.c r1.1.frames);(try rw [<-hi]at ha);(try rw [<-hi]at⊢)
  obtain⟨M,hM⟩:=nmE (SM st.1);(try rw [<-hM]at ha);(try rw [<-hM]at pM);(try rw [<-hM]at⊢)
  obtain⟨A0,he⟩:=nmE (SA st.2);(try rw [<-he]at ha);(try rw [<-he]at pA);(try rw [<-he]at⊢)
  obtain⟨M2,hh⟩:=nmE (SM r1.2.1);(try rw [<-hh]at ha);(try rw [<-hh]at hk);(try rw [<-hh]at⊢)
  obtain⟨A2,hf⟩:=nmE (SA r1.2.2);(try rw [<-hf]at ha);(try rw [<-hf]at hj);(try rw [<-hf]at⊢)
  refine dJ ([]) ([]) (c:=aM f105) ay func105 (by kernel_rfl) (by kernel_rfl) (bl (by rfl)) (by kernel_rfl) (fun g ho hd F hl hp hg hF=> ?_)
  cbv
  (refine jF rfl hg 0 1 2 ha rfl rfl rfl (by decide) rfl pM pA ⟨rfl,rfl,.inl ⟨rfl,rfl⟩,.inl ⟨rfl,rfl⟩,trivial⟩ rfl ?_;cbv)
  exact tC 7 8 hF rfl rfl rfl rfl rfl (by decide) rfl hk hj
theorem sv(ns:List ag)(hl:ns.length<=1048576)(kid:Int)(y:ag)(h1:isN ns kid=true)(hy:ns[(kid-1).toNat]? =some y)(rtl keeps:Bool)(bx:Bx)(c L:Nat)(hbx:Aj (vwA ag.ac ns) rtl keeps bx c L kid)(n:Int)(p:Pl)(K:LLA)(st:St)(hm:st.1.length+c<=L)(hq:st.2.length+c<=L):
  SE prog 68 (sR (vwA ag.ac ns) rtl keeps) (SM st.1) (SA st.2) [.c (.ptr 0 0 0),.agg (nwL n p.s p.row p.al p.ac (knS p.wide) (.view K)),ai kid] (.t (ai (xx bx p rtl ns kid st).1)) (SM (xx bx p rtl ns kid st).2.1) (SA (xx bx p rtl ns kid st).2.2):=by
 have hN:kst ns kid=y.style:=km hy
 unfold xx
 rw [hN]
 obtain⟨s,row,w,h,iw,ih,al,ac,kids⟩:=p
 obtain⟨Ky,hG⟩:=nmE (vw aj y.kids)
 obtain⟨Ry,hH⟩:=nmE (vw aK.c y.table.rules)
 have b2:=bC h1
 have pM:=cu st.1
 have kM:=Jg st.1
 have dM:=Ag st.1
 have pA:=cV st.2
 have kA:=Jh st.2
 have dA:=Ah st.2
 have cX:=kT ns hl kid y h1 hy rtl keeps (.view (SM st.1)) (.view (SA st.2)) n s row al ac (knS iw) K
 change PC0 _ _ (.t (agP (kcX ⟨s,row,w,h,iw,ih,al,ac,kids⟩ y.style rtl)))at cX
 have cS:=fJ ns hl kid y h1 hy rtl true keeps (.view (SM st.1)) (.view (SA st.2)) n s row al ac (knS iw) K
 change PC0 _ _ (.t (.agg (lc (av.c (zf ⟨s,row,w,h,iw,ih,al,ac,kids⟩ y.style rtl true)))))at cS
 obtain⟨V,hV⟩:=nmE (vwA ag.ac ns)
 have cy:=bL ns kid y b2.1 (by have:=b2.2.1;omega) hy V Ky Ry hV hG hH
 rw [<-hV]at hbx cX cS⊢
 obtain⟨⟨k0,k1⟩,hw⟩:∃q,q=kcX ⟨s,row,w,h,iw,ih,al,ac,kids⟩ y.style rtl:=⟨_,rfl⟩
 obtain⟨BN,hc⟩:=nmE (EJ ⟨s,row,w,h,iw,ih,al,ac,kids⟩ y.style rtl)
 rw [<-hw,<-hc]
 unfold EJ at hc
 rw [<-hw]at cX hc
 obtain⟨⟨g0,g1⟩,ha⟩:∃q,q=Hc ⟨s,row,w,h,iw,ih,al,ac,kids⟩ y.style rtl:=⟨_,rfl⟩
 rw [<-ha]
 unfold Hc at ha
 obtain⟨SD,hJ⟩:=nmE (zf ⟨s,row,w,h,iw,ih,al,ac,kids⟩ y.style rtl true)
 rw [<-hJ]at cS ha
 dsimp only at ha hc⊢
 have cZ:=nh V rtl keeps bx c L kid hbx n s row al ac (knS iw) K g0 g1 k0 k1 st hm hq
 obtain⟨rr,hL⟩:=nmE (uw bx row kid ⟨g0,g1⟩ ⟨k0,k1⟩ st)
 rw [<-hL]at cZ⊢
 clear hJ hw hL hbx hG hH hV
 obtain⟨am,an⟩:=al
 have ck:=dq am an
 obtain⟨KN,hx⟩:=nmE (knS ⟨am,an⟩);(try rw [<-hx]at ck);(try rw [<-hx]at hc)
 obtain⟨KW,hk⟩:=nmE (knS iw);(try rw [<-hk]at cX);(try rw [<-hk]at cS);(try rw [<-hk]at cZ);(try rw [<-hk]at⊢)
 have cs:=ef y.style.basis.kind y.style.basis.n KN
 change PC0 _ _ (.i (tN y.style.basis KN))at cs
 have cf:=gy y.style row KN
 have cr:=mA y.style row k1
 obtain⟨SZ,hA⟩:=nmE (tN y.style.basis KN);(try rw [<-hA]at cs);(try rw [<-hA]at hc)
 obtain⟨FX,hv⟩:=nmE (rU y.style row KN);(try rw [<-hv]at cf);(try rw [<-hv]at hc)
 obtain⟨RT,hz⟩:=nmE (sM y.style row k1);(try rw [<-hz]at cr);(try rw [<-hz]at hc)
 have co:=jL SZ FX
 obtain⟨O,hO⟩:=nmE (orl SZ FX)
 change PC0 _ _ (.i (orl SZ FX))at co
 rw [<-hO]at co
 have hh:BN=if¬O= -1 then O else if k0=3 then RT else-1:=by
  rw [hc,hO]
  unfold orl
  by_cases q1:SZ= -1<;>by_cases q2:FX= -1<;>simp [q1,q2]
 have cB:=jd SD
 obtain⟨BB,hD⟩:=nmE (wrap64 (SD.before+SD.behind))
 change PC0 _ _ (.i (wrap64 (SD.before+SD.behind)))at cB
 rw [<-hD]at cB ha
 have cI:=fh am an BB
 obtain⟨⟨i0,i1⟩,hI⟩:∃q,q=qu ⟨am,an⟩ BB:=⟨_,rfl⟩
 change PC0 _ _ (.t (agP (qu ⟨am,an⟩ BB)))at cI
 rw [<-hI]at cI ha
 have cL:=li i0 i1
 have hr:=cu rr.2.1
 have hp:=cV rr.2.2
 rw [acE]at cZ
 have he:alB row rr.1=if row then rr.1.wide else rr.1.high:=rfl
 obtain⟨b0,hB⟩:=nmE rr.1.wide
 obtain⟨b1,hC⟩:=nmE rr.1.high
 obtain⟨b3,hK⟩:=nmE rr.1.base
 rw [<-hB,<-hC,<-hK]at cZ
 rw [<-hB,<-hC]at he
 obtain⟨AL,hu⟩:=nmE (alB row rr.1);(try rw [<-hu]at he);(try rw [<-hu]at⊢)
 obtain⟨FR,hE⟩:=nmE (vw aD.c rr.1.frames);(try rw [<-hE]at cZ)
 obtain⟨M,hM⟩:=nmE (SM st.1);(try rw [<-hM]at cZ);(try rw [<-hM]at cX);(try rw [<-hM]at cS);(try rw [<-hM]at pM);(try rw [<-hM]at kM);(try rw [<-hM]at dM);(try rw [<-hM]at⊢)
 obtain⟨A0,hf⟩:=nmE (SA st.2);(try rw [<-hf]at cZ);(try rw [<-hf]at cX);(try rw [<-hf]at cS);(try rw [<-hf]at pA);(try rw [<-hf]at kA);(try rw [<-hf]at dA);(try rw [<-hf]at⊢)
 obtain⟨M2,hn⟩:=nmE (SM rr.2.1);(try rw [<-hn]at cZ);(try rw [<-hn]at hr);(try rw [<-hn]at⊢)
 obtain⟨A2,hj⟩:=nmE (SA rr.2.2);(try rw [<-hj]at cZ);(try rw [<-hj]at hp);(try rw [<-hj]at⊢)
 clear hc hx hk hA hv hz hO hD hI hB hC hK hu hE
 have tm:∀g:Gd,g=G0 prog 3 f68.ntmps->g .q .neq (-1) (-1)=false:=fun g hg=>by rw [bj hg];rfl
 by_cases q1:O= -1
 case neg=>
  have e:BN=O:=by rw [hh,if_pos q1]
  rw [if_pos (by rw [e];exact q1),e]
  dsimp only
  rw [<-hM,<-hf]
  refine dJ ([]) ([]) (c:=aM f68) ay func68 (by kernel_rfl) (by kernel_rfl) (bl (by rfl)) (by kernel_rfl) (fun g hi hd F hb ho hg hF=> ?_)
  have t0:g .q .eql (O) ((-1))=decide ((O)=((-1))):=by rw [bn hg];exact zqn _ _
  have t1:g .q .neq (O) ((-1))=decide (¬(O)=((-1))):=by rw [bj hg];exact dX _ _
  (first|rw [zqu q1]at t0|rw [zqt q1]at t0|rw [zqu (Classical.not_not.2 q1)]at t0|rw [zqt (Classical.not_not.2 q1)]at t0);(first|rw [zqu q1]at t1|rw [zqt q1]at t1|rw [zqu (Classical.not_not.2 q1)]at t1|rw [zqt (Classical.not_not.2 q1)]at t1)
  cbv
  ((repeat'((first|rw [t0]|rw [t1]|refine ae hg cy ?_|refine ae hg ck ?_|refine aa hg cs ?_|refine aa hg cf ?_|refine aa hg co ?_|refine ij hg cX (dB (pK (r:=0) (rm:=1) (ra:=2) [.view V,.B rtl,.B keeps] rfl rfl rfl kM dM rfl kA dA) (bN rfl (aq (aw rfl) (aC)))) rfl ?_);cbv)))
  exact tC 1 2 hF rfl rfl rfl rfl rfl (by decide) rfl pM pA
 have ht:BN= -1->SE prog 68 (sR V rtl keeps) M A0 [.c (.ptr 0 0 0),.agg (nwL n s row ⟨am,an⟩ ac KW (.view K)),ai kid] (.i AL) M2 A2->SE prog 68 (sR V rtl keeps) M A0 [.c (.ptr 0 0 0),.agg (nwL n s row ⟨am,an⟩ ac KW (.view K)),ai kid] (.t (ai (if BN≠ -1 then(BN,st)else(AL,rr.2)).1)) (SM (if BN≠ -1 then(BN,st)else(AL,rr.2)).2.1) (SA (if BN≠ -1 then(BN,st)else(AL,rr.2)).2.2):=fun h hs=>by
  rw [if_neg (fun x=>x h)]
  dsimp only
  rw [<-hn,<-hj]
  exact hs
 clear hn hj
 have hP:O= -1:=q1
 subst hP
 by_cases q2:k0=3
 case pos=>
  by_cases q3:RT= -1
  case neg=>
   have e:BN=RT:=by rw [hh,if_neg (fun h=>h rfl),if_pos q2]
   rw [if_pos (by rw [e];exact q3),e]
   dsimp only
   rw [<-hM,<-hf]
   refine dJ ([]) ([]) (c:=aM f68) ay func68 (by kernel_rfl) (by kernel_rfl) (bl (by rfl)) (by kernel_rfl) (fun g hi hd F hb ho hg hF=> ?_)
   have tm:=tm g hg
   have tp:g .q .eql (-1) (-1)=true:=by rw [bn hg];rfl
   have t0:g .q .eql (k0) (3)=decide ((k0)=(3)):=by rw [bn hg];exact zqn _ _
   have t1:g .q .neq (RT) ((-1))=decide (¬(RT)=((-1))):=by rw [bj hg];exact dX _ _
   (first|rw [zqu q2]at t0|rw [zqt q2]at t0|rw [zqu (Classical.not_not.2 q2)]at t0|rw [zqt (Classical.not_not.2 q2)]at t0);(first|rw [zqu q3]at t1|rw [zqt q3]at t1|rw [zqu (Classical.not_not.2 q3)]at t1|rw [zqt (Classical.not_not.2 q3)]at t1)
   cbv
   ((repeat'((first|rw [tp]|rw [t0]|rw [t1]|refine ae hg cy ?_|refine ae hg ck ?_|refine aa hg cs ?_|refine aa hg cf ?_|refine aa hg co ?_|refine ae hg cr ?_|refine ij hg cX (dB (pK (r:=0) (rm:=1) (ra:=2) [.view V,.B rtl,.B keeps] rfl rfl rfl kM dM rfl kA dA) (bN rfl (aq (aw rfl) (aC)))) rfl ?_);cbv)))
   exact tC 1 2 hF rfl rfl rfl rfl rfl (by decide) rfl pM pA
  have e:BN= -1:=by rw [hh,if_neg (fun h=>h rfl),if_pos q2,q3]
  refine ht e ?_
  clear ht
  cases row
  case false=>
   simp only [Bool.false_eq_true,if_false,az.mk.injEq]at he ha
   obtain⟨rfl,rfl⟩:=ha
   subst he
   refine dJ ([]) ([]) (c:=aM f68) ay func68 (by kernel_rfl) (by kernel_rfl) (bl (by rfl)) (by kernel_rfl) (fun g hi hd F hb ho hg hF=> ?_)
   have tm:=tm g hg
   have tp:g .q .eql (-1) (-1)=true:=by rw [bn hg];rfl
   have t0:g .q .eql (k0) (3)=decide ((k0)=(3)):=by rw [bn hg];exact zqn _ _
   have t1:g .q .neq (RT) ((-1))=decide (¬(RT)=((-1))):=by rw [bj hg];exact dX _ _
   (first|rw [zqu q2]at t0|rw [zqt q2]at t0|rw [zqu (Classical.not_not.2 q2)]at t0|rw [zqt (Classical.not_not.2 q2)]at t0);(first|rw [zqu q3]at t1|rw [zqt q3]at t1|rw [zqu (Classical.not_not.2 q3)]at t1|rw [zqt (Classical.not_not.2 q3)]at t1)
   cbv
   ((repeat'((first|rw [tp]|rw [t0]|rw [t1]|refine ae hg cy ?_|refine ae hg ck ?_|refine aa hg cs ?_|refine aa hg cf ?_|refine aa hg co ?_|refine ae hg cr ?_|refine ij hg cX (dB (pK (r:=0) (rm:=1) (ra:=2) [.view V,.B rtl,.B keeps] rfl rfl rfl kM dM rfl kA dA) (bN rfl (aq (aw rfl) (aC)))) rfl ?_|refine jF rfl hg 0 1 2 cZ rfl rfl rfl (by decide) rfl pM pA ⟨rfl,.inl ⟨rfl,rfl⟩,rfl,.inl ⟨rfl,rfl⟩,.inl ⟨rfl,rfl⟩,trivial⟩ rfl ?_);cbv)))
   exact tC 7 8 hF rfl rfl rfl rfl rfl (by decide) rfl hr hp
  case true=>
   simp only [if_true]at he ha
   subst he
   rw [<-ha]at cL
   refine dJ ([]) ([]) (c:=aM f68) ay func68 (by kernel_rfl) (by kernel_rfl) (bl (by rfl)) (by kernel_rfl) (fun g hi hd F hb ho hg hF=> ?_)
   have tm:=tm g hg
   have tp:g .q .eql (-1) (-1)=true:=by rw [bn hg];rfl
   have t0:g .q .eql (k0) (3)=decide ((k0)=(3)):=by rw [bn hg];exact zqn _ _
   have t1:g .q .neq (RT) ((-1))=decide (¬(RT)=((-1))):=by rw [bj hg];exact dX _ _
   (first|rw [zqu q2]at t0|rw [zqt q2]at t0|rw [zqu (Classical.not_not.2 q2)]at t0|rw [zqt (Classical.not_not.2 q2)]at t0);(first|rw [zqu q3]at t1|rw [zqt q3]at t1|rw [zqu (Classical.not_not.2 q3)]at t1|rw [zqt (Classical.not_not.2 q3)]at t1)
   cbv
   ((repeat'((first|rw [tp]|rw [t0]|rw [t1]|refine ae hg cy ?_|refine ae hg ck ?_|refine aa hg cs ?_|refine aa hg cf ?_|refine aa hg co ?_|refine ae hg cr ?_|refine aa hg cB ?_|refine aa hg cI ?_|refine aa hg cL ?_|refine ij hg cX (dB (pK (r:=0) (rm:=1) (ra:=2) [.view V,.B rtl,.B keeps] rfl rfl rfl kM dM rfl kA dA) (bN rfl (aq (aw rfl) (aC)))) rfl ?_|refine fg hg cS (dB (pK (r:=0) (rm:=1) (ra:=2) [.view V,.B rtl,.B keeps] rfl rfl rfl kM dM rfl kA dA) (bN rfl (aq (aw rfl) (aq (aw rfl) (aC))))) rfl ?_|refine jF rfl hg 0 1 2 cZ rfl rfl rfl (by decide) rfl pM pA ⟨rfl,.inl ⟨rfl,rfl⟩,rfl,.inl ⟨rfl,rfl⟩,.inl ⟨rfl,rfl⟩,trivial⟩ rfl ?_);cbv)))
   exact tC 7 8 hF rfl rfl rfl rfl rfl (by decide) rfl hr hp
 have e:BN= -1:=by rw [hh,if_neg (fun h=>h rfl),if_neg q2]
 refine ht e ?_
 clear ht
 cases row
 case false=>
  simp only [Bool.false_eq_true,if_false,az.mk.injEq]at he ha
  obtain⟨rfl,rfl⟩:=ha
  subst he
  refine dJ ([]) ([]) (c:=aM f68) ay func68 (by kernel_rfl) (by kernel_rfl) (bl (by rfl)) (by kernel_rfl) (fun g hi hd F hb ho hg hF=> ?_)
  have tm:=tm g hg
  have tp:g .q .eql (-1) (-1)=true:=by rw [bn hg];rfl
  have t0:g .q .eql (k0) (3)=decide ((k0)=(3)):=by rw [bn hg];exact zqn _ _
  (first|rw [zqu q2]at t0|rw [zqt q2]at t0|rw [zqu (Classical.not_not.2 q2)]at t0|rw [zqt (Classical.not_not.2 q2)]at t0)
  cbv
  ((repeat'((first|rw [tm]|rw [tp]|rw [t0]|refine ae hg cy ?_|refine ae hg ck ?_|refine aa hg cs ?_|refine aa hg cf ?_|refine aa hg co ?_|refine ij hg cX (dB (pK (r:=0) (rm:=1) (ra:=2) [.view V,.B rtl,.B keeps] rfl rfl rfl kM dM rfl kA dA) (bN rfl (aq (aw rfl) (aC)))) rfl ?_|refine jF rfl hg 0 1 2 cZ rfl rfl rfl (by decide) rfl pM pA ⟨rfl,.inl ⟨rfl,rfl⟩,rfl,.inl ⟨rfl,rfl⟩,.inl ⟨rfl,rfl⟩,trivial⟩ rfl ?_);cbv)))
  exact tC 7 8 hF rfl rfl rfl rfl rfl (by decide) rfl hr hp
 case true=>
  simp only [if_true]at he ha
  subst he
  rw [<-ha]at cL
  refine dJ ([]) ([]) (c:=aM f68) ay func68 (by kernel_rfl) (by kernel_rfl) (bl (by rfl)) (by kernel_rfl) (fun g hi hd F hb ho hg hF=> ?_)
  have tm:=tm g hg
  have tp:g .q .eql (-1) (-1)=true:=by rw [bn hg];rfl
  have t0:g .q .eql (k0) (3)=decide ((k0)=(3)):=by rw [bn hg];exact zqn _ _
  (first|rw [zqu q2]at t0|rw [zqt q2]at t0|rw [zqu (Classical.not_not.2 q2)]at t0|rw [zqt (Classical.not_not.2 q2)]at t0)
  cbv
  ((repeat'((first|rw [tm]|rw [tp]|rw [t0]|refine ae hg cy ?_|refine ae hg ck ?_|refine aa hg cs ?_|refine aa hg cf ?_|refine aa hg co ?_|refine aa hg cB ?_|refine aa hg cI ?_|refine aa hg cL ?_|refine ij hg cX (dB (pK (r:=0) (rm:=1) (ra:=2) [.view V,.B rtl,.B keeps] rfl rfl rfl kM dM rfl kA dA) (bN rfl (aq (aw rfl) (aC)))) rfl ?_|refine fg hg cS (dB (pK (r:=0) (rm:=1) (ra:=2) [.view V,.B rtl,.B keeps] rfl rfl rfl kM dM rfl kA dA) (bN rfl (aq (aw rfl) (aq (aw rfl) (aC))))) rfl ?_|refine jF rfl hg 0 1 2 cZ rfl rfl rfl (by decide) rfl pM pA ⟨rfl,.inl ⟨rfl,rfl⟩,rfl,.inl ⟨rfl,rfl⟩,.inl ⟨rfl,rfl⟩,trivial⟩ rfl ?_);cbv)))
  exact tC 7 8 hF rfl rfl rfl rfl rfl (by decide) rfl hr hp
theorem C3{V:LLA}{bx:Bx}{c L:Nat}{kid:Int}(hb:Aj V rtl keeps bx c L kid)(p:Pl)(ns:List ag)(st:St):(xx bx p rtl ns kid st).2.1.length<=st.1.length+c/\(xx bx p rtl ns kid st).2.2.length<=st.2.length+c:=by
 unfold xx
 split
 ·exact⟨Nat.le_add_right ..,Nat.le_add_right ..⟩
 ·exact yF hb ..
theorem uP{a b c k L:Nat}(h:a<=b+k*c)(hL:b+20*c<=L)(hk:k+1<=20):a+c<=L:=by
 have:=Nat.mul_le_mul_right c hk
 rw [Nat.succ_mul]at this
 omega
theorem nB{a a' b c k:Nat}(h:a<=b+k*c)(h2:a'<=a+c):a'<=b+(k+1)*c:=by
 rw [Nat.succ_mul];omega
theorem qG(ns:List ag)(hl:ns.length<=1048576)(rtl keeps:Bool)(bx:Bx)(c L:Nat)(n:Int)(p:Pl)(hkl:p.kids.length<20)(hk:∀ha∈p.kids,isN ns ha=true)(hbx:∀ha∈p.kids,Aj (vwA ag.ac ns) rtl keeps bx c L ha)(st:St)(hm:st.1.length+20*c<=L)(hq:st.2.length+20*c<=L):
  SE prog 36 (sR (vwA ag.ac ns) rtl keeps) (SM st.1) (SA st.2) [.c (.ptr 0 0 0),.agg (nwL n p.s p.row p.al p.ac (knS p.wide) (.view (vw aj p.kids)))] (.t (.c (.view (vw af.c (l7 bx p rtl ns p.kids st).1)))) (SM (l7 bx p rtl ns p.kids st).2.1) (SA (l7 bx p rtl ns p.kids st).2.2):=by
 refine wH (t:=99) (k:=9) (V:=vw af.c (l7 bx p rtl ns p.kids st).1) (R:= .o 5) ?_ (Dg (c:=af.c) (k:=9) fun _=>rfl) tH rfl rfl rfl
 have hY:∀ha∈p.kids,∃y,ns[(ha-1).toNat]? =some y:=fun ha h=>(bC (hk ha h)).2.2
 have hT:=fun ha(h:ha∈p.kids) y hy Ky Ry=>bL ns ha y (bC (hk ha h)).1 (by have:=(bC (hk ha h)).2.1;omega) hy (vwA ag.ac ns) Ky Ry rfl
 have hh:=fun ha(h:ha∈p.kids) y hy K st h1 h2=>sv ns hl ha y (hk ha h) hy rtl keeps bx c L (hbx ha h) n p K st h1 h2
 have hS:=fun ha(h:ha∈p.kids) y hy C D K=>fJ ns hl ha y (hk ha h) hy rtl true keeps C D n p.s p.row p.al p.ac (knS p.wide) K
 have hj:=fun ha(h:ha∈p.kids) st=>C3 (hbx ha h) p ns st
 clear hbx
 obtain⟨f,hf⟩:∃f,f=fun k st=>xx bx p rtl ns k st:=⟨_,rfl⟩
 have hZ:∀k st,xx bx p rtl ns k st=f k st:=fun k st=>by rw [hf]
 simp only [hZ]at hh hj
 obtain⟨it,hA⟩:∃it,it=fun ks st=>l7 bx p rtl ns ks st:=⟨_,rfl⟩
 have hr:∀ks st,l7 bx p rtl ns ks st=it ks st:=fun ks st=>by rw [hA]
 have h5:∀st,it [] st=([],st):=fun st=>by rw [hA];rfl
 have ho:∀k r st,it (k::r) st=(Ib p (kst ns k) rtl (f k st).1::(it r (f k st).2).1,(it r (f k st).2).2):=fun k r st=>by rw [hA,hf];rfl
 simp only [hr]
 clear hf hA hZ hr
 obtain⟨s0,row,w,h,iw,ih,al,ac,kids⟩:=p
 dsimp only at *
 obtain⟨V,hV⟩:=nmE (vwA ag.ac ns)
 rw [<-hV]at hT
 simp only [<-hV]at hh hS
 rw [<-hV]
 obtain⟨K,hK⟩:=nmE (vw aj kids)
 have xh:=lmV hK
 have iK:=imV hK
 have kK:=kmV (k:=1) hK fun _=>rfl
 have dK:=dmV hK
 have hh:=fun ha h y hy st=>hh ha h y hy K st
 have hS:=fun ha h y hy C D=>hS ha h y hy C D K
 rw [<-hK]
 obtain⟨am,an⟩:=al
 have ck:=dq am an
 obtain⟨KN,hI⟩:=nmE (knS ⟨am,an⟩)
 change PC0 _ _ (.i (knS ⟨am,an⟩))at ck
 rw [<-hI]at ck
 have ho:∀k r st y,ns[(k-1).toNat]? =some y->it (k::r) st=((⟨(f k st).1,Ch y.style row KN,Di y.style row KN,y.style.grow,y.style.shrink,(sdB s0 y.style rtl true (knS iw)).before,(sdB s0 y.style rtl true (knS iw)).behind,(sdB s0 y.style rtl true (knS iw)).autoBefore,(sdB s0 y.style rtl true (knS iw)).autoBehind⟩:af)::(it r (f k st).2).1,(it r (f k st).2).2):=fun k r st y hy=>by
  rw [ho,km hy,hI];rfl
 obtain⟨R,hR⟩:=nmE (it kids st)
 rw [<-hR]
 obtain⟨KW,hw⟩:=nmE (knS iw);(try rw [<-hw]at hh);(try rw [<-hw]at hS);(try rw [<-hw]at ho);(try rw [<-hw]at⊢)
 obtain⟨M0,hJ⟩:=nmE (SM st.1)
 obtain⟨A0,hG⟩:=nmE (SA st.2)
 have xe:aB M0=true:=by rw [hJ];exact cu _
 have xc:aB A0=true:=by rw [hG];exact cV _
 rw [<-hJ,<-hG]
 have hQ:kids.length<=1048576:=by omega
 have xi:R.1.length=kids.length:=by
  rw [hR]
  have:∀ks:List Int,(∀k∈ks,k∈kids)->∀st,(it ks st).1.length=ks.length:=by
   intro ks
   induction ks with
   |nil=>intro _ st;rw [h5];rfl
   |cons k ks ih=>
    intro hs st
    obtain⟨y,hy⟩:=hY k (hs k (List.mem_cons_self ..))
    rw [ho k ks st y hy]
    simp [ih (fun x hx=>hs x (List.mem_cons_of_mem _ hx))]
  exact this kids (fun _ h=>h) st
 clear hI hV
 refine dJ ([(8,.hand)]) ([]) (c:=aM f36) ay func36 (by kernel_rfl) (by kernel_rfl) (bl (by rfl)) (by kernel_rfl) (fun g xg hd F hN h4 hg hF=> ?_)
 cbv
 (repeat'(refine ae hg ck ?_;cbv))
 refine lX ([(8,.hand)]) ([]) hN h4 hg ay (by kernel_rfl) K (fun x=>lc (aj x)) kids hK hQ (fun z(s:(List af×St)×LLA×LLA×LLA)=>[(0,.p 0),(3,.p 3),(5,.o 6),(6,.i (KN)),(7,.i (z))]) (fun z(s:(List af×St)×LLA×LLA×LLA)=>[.bx 74 5 [.view V,.B rtl,.B keeps,.own 4,.own 5],.gn,.gn,.bx 66 68 (nwL n s0 row ⟨am,an⟩ ac KW (.view K)),.rw ⟨146,10,s.2.1⟩,.rw ⟨153,6,s.2.2.1⟩,.rw ⟨99,9,s.2.2.2⟩]) (fun z(s:(List af×St)×LLA×LLA×LLA)=>s.2.1=SM s.1.2.1/\s.2.2.1=SA s.1.2.2/\s.2.2.2=vw af.c s.1.1/\s.1.2.1.length<=st.1.length+s.1.1.length*c/\s.1.2.2.length<=st.2.length+s.1.1.length*c) (fun(s:(List af×St)×LLA×LLA×LLA) rest=>(s.1.1++(it rest s.1.2).1,(it rest s.1.2).2)) (R) (([],st),M0,A0,[]) (by rw [hR];rfl) ⟨hJ,hG,rfl,by simp,by simp⟩ (Wk.weak (wkM [some 0,none,none,some 3,some 1,some 2,some 4] zr5 ⟨.inr ⟨_,_,rfl,rfl,rfl,rfl,.inr ⟨zr5,trivial⟩⟩,.inl rfl,.inl rfl,.inr (wqE rfl rfl),.inr (wqE rfl xe),.inr (wqE rfl xc),.inr (wqE rfl rfl),trivial⟩ (by decide) ⟨.inl rfl,.inl rfl,.inr rfl,trivial⟩ ⟨.inl rfl,.inl rfl,.inr ⟨_,rfl⟩,trivial⟩)) (fun z s B hz h0 hi he=> ?_) (fun z s x rest B z0 z1 z2 hx hy h0 hi hc e1 hB=> ?_)
 ·obtain⟨⟨hb,hp⟩,M1,A1,E⟩:=s
  obtain⟨i1,i2,i3,i4,i5⟩:=hi
  dsimp only at i1 i2 i3 h0
  obtain rfl:R=(hb,hp):=by rw [<-h0,h5];simp
  have xf:aB M1=true:=by rw [i1];exact cu _
  have xd:aB A1=true:=by rw [i2];exact cV _
  have pE:=pmV i3
  cbv;rw [he];cbv
  subst i1 i2 i3
  exact CK 4 5 6 hF rfl rfl rfl rfl rfl rfl (by decide) rfl xf xd pE
 ·obtain⟨⟨hb,hp⟩,M1,A1,E⟩:=s
  obtain⟨i1,i2,i3,i4,i5⟩:=hi
  dsimp only at i1 i2 i3 i4 i5 h0
  have ht:x∈kids:=zqd hx
  obtain⟨y,hC⟩:=hY x ht
  rw [ho x rest hp y hC]at h0
  have hu:hb.length+1<=20:=by
   have:=congrArg (fun r=>r.1.length) h0
   simp only [zqe,zqx]at this
   omega
  have xb:E.length<=1048576:=by rw [i3,ar];omega
  have pM:aB M1=true:=by rw [i1];exact cu _
  have pA:aB A1=true:=by rw [i2];exact cV _
  have kM:∀y∈M1,y.length=10:=by rw [i1];exact Jg _
  have dM:∀y∈M1,y.all dat=true:=by rw [i1];exact Ag _
  have kA:∀y∈A1,y.length=6:=by rw [i2];exact Jh _
  have dA:∀y∈A1,y.all dat=true:=by rw [i2];exact Ah _
  have cB:=hh x ht y hC hp (uP i4 hm hu) (uP i5 hq hu)
  rw [<-i1,<-i2]at cB
  have cS:=hS x ht y hC (.view M1) (.view A1)
  have cy:=hT x ht y hC _ _ rfl rfl
  obtain⟨Ky,hW⟩:=nmE (vw aj y.kids)
  obtain⟨Ry,hX⟩:=nmE (vw aK.c y.table.rules)
  rw [<-hW,<-hX]at cy
  have hn:=hj x ht hp
  obtain⟨⟨b,hv⟩,h6⟩:∃r,r=f x hp:=⟨_,rfl⟩
  rw [<-h6]at cB hn h0
  dsimp only at cB hn h0
  have j1:=nB i4 hn.1
  have j2:=nB i5 hn.2
  have hD:=jh y.style row KN
  have hE:=jM y.style row KN
  obtain⟨f1,hO⟩:=nmE (Ch y.style row KN);(try rw [<-hO]at hD);(try rw [<-hO]at h0)
  obtain⟨f2,hP⟩:=nmE (Di y.style row KN);(try rw [<-hP]at hE);(try rw [<-hP]at h0)
  obtain⟨SD,hM⟩:=nmE (sdB s0 y.style rtl true KW);(try rw [<-hM]at cS);(try rw [<-hM]at h0)
  obtain⟨d0,d1,d2,d3,d4,d5,d6⟩:=SD
  dsimp only at h0
  obtain⟨M2,hL⟩:=nmE (SM hv.1)
  obtain⟨A2,hH⟩:=nmE (SA hv.2)
  have h9:aB M2=true:=by rw [hL];exact cu _
  have h7:aB A2=true:=by rw [hH];exact cV _
  rw [<-hL,<-hH]at cB
  obtain⟨E2,hU⟩:∃E2,E2=E++[[.J b,.J f1,.J f2,.J y.style.grow,.J y.style.shrink,.J d1,.J d2,.B d3,.B d4]]:=⟨_,rfl⟩
  have aE:E2=vw af.c (hb++[⟨b,f1,f2,y.style.grow,y.style.shrink,d1,d2,d3,d4⟩]):=by rw [hU,i3,br];rfl
  have h8:=pmV aE
  have pE:=pmV i3
  have h3:((hb++[(⟨b,f1,f2,y.style.grow,y.style.shrink,d1,d2,d3,d4⟩:af)])++(it rest hv).1,(it rest hv).2)=R:=by rw [<-h0];simp
  have nl:(hb++[(⟨b,f1,f2,y.style.grow,y.style.shrink,d1,d2,d3,d4⟩:af)]).length=hb.length+1:=by simp
  clear hW hX h6 hO hP hM i4 i5 hn hh hS hT hj ho
  cbv
  rw [hc]
  cbv
  ((repeat'((first|refine aa hg cy ?_|refine goX hg _ z0 hy rfl ?_|refine fg hg cS (dB (pK (r:=0) (rm:=4) (ra:=5) [.view V,.B rtl,.B keeps] rfl rfl rfl kM dM rfl kA dA) (bN rfl (aq (aw rfl) (aq (aw rfl) (aC))))) rfl ?_);cbv)))
  refine fG hg h4 ay [1,2,3,4,5,6,7,9,10,11,12,14,15,16,17,19,20,21,22,23,24,25,26,27,28,29,30] (.op 0 [] (.op 8 [13,18,31] (.op 32 [] (.op 33 [] (.op 34 [] .done .none) .none) .none) .none) (.op 8 [13,18,31] (.op 0 [] (.op 32 [] (.op 33 [] (.op 34 [] .done .none) .none) .none) (.op 32 [] (.op 0 [] (.op 33 [] (.op 34 [] .done .none) .none) .none) .none)) .none)) (by kernel_rfl) (by kernel_rfl) (S:=Unit) (fun _=>True) (fun _=>[(0,.p 0),(3,.p 3),(5,.o 6),(6,.i (KN)),(7,.i (z))]) (fun _=>[.bx 74 5 [.view V,.B rtl,.B keeps,.own 4,.own 5],.gn,.gn,.bx 66 68 (nwL n s0 row ⟨am,an⟩ ac KW (.view K)),.rw ⟨146,10,M2⟩,.rw ⟨153,6,A2⟩,.rw ⟨99,9,E2⟩]) (fun BL xa=> ?_) (fun _ _=> ?_)
  ·cbv
   ((repeat'(first|exact trivial|exact rfl|refine And.intro ?_ ?_|((first|refine aa hg hD ?_|refine aa hg hE ?_|refine goX hg _ z0 hy rfl ?_|refine jF rfl hg 0 4 5 cB rfl rfl rfl (by decide) rfl pM pA ⟨rfl,.inl ⟨rfl,rfl⟩,rfl,trivial⟩ rfl ?_|refine dz hg rfl (by decide) xb ?_);cbv))))
   all_goals
    rw [gW hg,<-hU]
    exact xa () trivial _ _ (Wk.weak (wkM [some 0,none,none,some 3,some 9,some 10,some 12] zr5 ⟨.inr ⟨_,_,rfl,rfl,rfl,rfl,.inr ⟨zr5,trivial⟩⟩,.inl rfl,.inl rfl,.inr (wqE rfl rfl),.inr (wqE rfl h9),.inr (wqE rfl h7),.inr (wqE rfl h8),trivial⟩ (by decide) ⟨.inl rfl,.inl rfl,.inr rfl,trivial⟩ ⟨.inl rfl,.inl rfl,.inr ⟨_,rfl⟩,trivial⟩))
  cbv
  ((repeat'(rw [e1];cbv)))
  skip
  exact hB (((hb++[⟨b,f1,f2,y.style.grow,y.style.shrink,d1,d2,d3,d4⟩],hv),M2,A2,E2)) _ _ ⟨h3,⟨hL,hH,aE,by rw [nl];exact j1,by rw [nl];exact j2⟩⟩ (Wk.weak (wkM [some 0,none,none,some 3,some 4,some 5,some 6] zr5 ⟨.inr ⟨_,_,rfl,rfl,rfl,rfl,.inr ⟨zr5,trivial⟩⟩,.inl rfl,.inl rfl,.inr (wqE rfl rfl),.inr (wqE rfl h9),.inr (wqE rfl h7),.inr (wqE rfl h8),trivial⟩ (by decide) ⟨.inl rfl,.inl rfl,.inr rfl,trivial⟩ ⟨.inl rfl,.inl rfl,.inr ⟨_,rfl⟩,trivial⟩))
end Go.Proofs.YtkicjdeddpihaaaGreat
