/- Lines zipped with their crosses; a side that is looked up. -/
import Derived.Test.YtdnnffbbhijmkaaGreatQbk
set_option linter.unusedVariables false
set_option linter.unusedSimpArgs false
set_option maxHeartbeats 16000000
namespace Go.Proofs.YtdnnffbbhijmkaaGreat
open Go.ChangeShapes Go.WideShapes Go.ChangeAt Go.RowKit Am Go.Proofs.Tryz
set_option maxRecDepth 100000
theorem qz(ns:List ak)(hl:ns.length≤1048576)(kid:Int)(y:ak)(h1:isN ns kid=true)(hy:ns[(kid-1).toNat]? =some y)(rtl:Bool)(b:Bv)(hbx:xc (vwA ak.ac ns) rtl b kid)(n:Int)(p:Pl)(K:LLA):PC0 75 [.agg (mA (vwA ak.ac ns) rtl),.agg (plL n p.s p.w p.h p.row p.wide p.high p.al p.ac (.view K)),ai kid] (.i (Cs b p rtl ns kid)):=by
 obtain⟨s,row,w,h,iw,ih,al,ac,kids⟩:=p
 obtain⟨Ky,hKy⟩:=nmE (vw ao y.kids)
 obtain⟨Ry,hRy⟩:=nmE (vw aJ.c y.table.rules)
 have b2:=bF h1
 obtain⟨R,hR⟩:=nmE (Cs b ⟨s,row,w,h,iw,ih,al,ac,kids⟩ rtl ns kid)
 rw [←hR]
 unfold Cs at hR
 rw [iz hy]at hR
 unfold Ct at hR
 dsimp only at hR⊢
 have cX:=jP ns hl kid y h1 hy rtl n s w h row iw ih al ac K
 change PC0 _ _ (.t (agP (kcX ⟨s,row,w,h,iw,ih,al,ac,kids⟩ y.style rtl)))at cX
 obtain⟨V,hV⟩:=nmE (vwA ak.ac ns)
 have cy:=di ns kid y b2.1 (by have:=b2.2.1;omega) hy V Ky Ry hV hKy hRy
 rw [←hV]at hbx cX⊢
 obtain⟨⟨k0,k1⟩,hKC⟩:∃q,q=kcX ⟨s,row,w,h,iw,ih,al,ac,kids⟩ y.style rtl:=⟨_,rfl⟩
 rw [←hKC]at cX hR
 obtain⟨⟨g0,g1⟩,hGA⟩:∃q,q=Eg ⟨s,row,w,h,iw,ih,al,ac,kids⟩ y.style rtl:=⟨_,rfl⟩
 rw [←hGA]at hR
 have cZ:=nt V rtl b kid hbx n s w h row iw ih al ac K g0 g1 k0 k1
 obtain⟨bb,hbb⟩:=nmE (Bg b row kid ⟨g0,g1⟩ ⟨k0,k1⟩)
 rw [←hbb]at cZ hR
 have cQ:=jQ row bb
 obtain⟨SA,hSA⟩:=nmE (alB row bb);(try rw [←hSA]at cQ);(try rw [←hSA]at hR)
 obtain⟨am,an⟩:=al
 have ck:=ef am an
 obtain⟨KN,hKN⟩:=nmE (knS ⟨am,an⟩);(try rw [←hKN]at ck);(try rw [←hKN]at hR)
 have cs:=dP y.style.basis.kind y.style.basis.n KN
 change PC0 _ _ (.i (sq y.style.basis KN))at cs
 have cf:=gp y.style row KN
 have cr:=i6 y.style row k1
 obtain⟨SZ,hSZ⟩:=nmE (sq y.style.basis KN);(try rw [←hSZ]at cs);(try rw [←hSZ]at hR)
 obtain⟨FX,hFX⟩:=nmE (qM y.style row KN);(try rw [←hFX]at cf);(try rw [←hFX]at hR)
 obtain⟨RT,hRT⟩:=nmE (rC y.style row k1);(try rw [←hRT]at cr);(try rw [←hRT]at hR)
 have e:jK.ac bb=[.J bb.wide,.J bb.high,.J bb.base,.view (vw aV.c bb.frames)]:=rfl
 rw [e]at cZ cQ
 obtain⟨FR,hFR⟩:=nmE (vw aV.c bb.frames);(try rw [←hFR]at cZ);(try rw [←hFR]at cQ)
 obtain⟨b0,hb0⟩:=nmE bb.wide
 obtain⟨b1,hb1⟩:=nmE bb.high
 obtain⟨b3,hb3⟩:=nmE bb.base
 rw [←hb0,←hb1,←hb3]at cZ cQ
 clear hb0 hb1 hb3 e hbb hSA hSZ hFX hRT hKN hKC
 have cM:=jT s rtl
 obtain⟨m1,hm1⟩:=nmE (sd1 (jq s) (kO s rtl))
 obtain⟨m2,hm2⟩:=nmE (sd2 (jq s) (kO s rtl))
 rw [←hm1,←hm2]at cM
 have cm:=fC V rtl n s y.style w h row iw ih ⟨am,an⟩ ac K m1 m2
 simp only [Eg,xy,sdB,sdM,if_true]at hGA
 rw [←hm1,←hm2]at hGA
 obtain⟨M1,hM1⟩:=nmE (oH y.style.margin m1 rtl (knS iw))
 obtain⟨M2,hM2⟩:=nmE (oH y.style.margin m2 rtl (knS iw))
 rw [←hM1,←hM2]at cm
 have hGA2:(⟨g0,g1⟩:aw)=if row=true then BG (pk ⟨am,an⟩ (wrap64 (M1+M2)))else⟨1,0⟩:=by rw [hGA,hM1,hM2]
 clear hGA hM1 hM2 hm1 hm2
 obtain⟨BB,hBB⟩:=nmE (wrap64 (M1+M2))
 rw [←hBB]at hGA2
 have cI:=gl am an BB
 obtain⟨⟨i0,i1⟩,hI⟩:∃q,q=pk ⟨am,an⟩ BB:=⟨_,rfl⟩
 rw [←hI]at cI hGA2
 have cL:=li i0 i1
 have t4:∀g:Gd,g=G0 prog 0 f75.ntmps→g .w .add .i64 M1 M2=BB:=fun g hg=>by rw [aM hg,hBB]
 clear hI hBB hFR
 have hR2:R=if¬SZ= -1 then SZ else if¬FX= -1 then FX else if k0=3∧¬RT= -1 then RT else SA:=by
  rw [hR]
  by_cases q1:SZ= -1<;>by_cases q2:FX= -1<;>by_cases q3:k0=3<;>by_cases q4:RT= -1<;>simp [q1,q2,q3,q4]
 clear hR
 refine ae (aK f75) aD func75 fun g F hg hF=> ?_
 have t0:g .q .neq (SZ) ((-1))=decide (¬(SZ)=((-1))):=by rw [bk hg];exact dx _ _
 have t1:g .q .neq (FX) ((-1))=decide (¬(FX)=((-1))):=by rw [bk hg];exact dx _ _
 have t2:g .q .eql (k0) (3)=decide ((k0)=(3)):=by rw [bv hg];exact zqn _ _
 have t3:g .q .neq (RT) ((-1))=decide (¬(RT)=((-1))):=by rw [bk hg];exact dx _ _
 have t4:=t4 g hg
 cbv
 by_cases q1:SZ= -1
 case neg=>
  (first|rw [zqu q1]at t0|rw [zqt q1]at t0|rw [zqu (Classical.not_not.2 q1)]at t0|rw [zqt (Classical.not_not.2 q1)]at t0)
  (repeat'((first|rw [t0]|refine ad hg cy ?_|refine aa hg cy ?_|refine ad hg ck ?_|refine aa hg ck ?_|refine ad hg cs ?_|refine aa hg cs ?_);cbv))
  exact ba hF (by rw [hR2,if_pos q1])
 by_cases q2:FX= -1
 case neg=>
  (first|rw [zqu q1]at t0|rw [zqt q1]at t0|rw [zqu (Classical.not_not.2 q1)]at t0|rw [zqt (Classical.not_not.2 q1)]at t0)
  (first|rw [zqu q2]at t1|rw [zqt q2]at t1|rw [zqu (Classical.not_not.2 q2)]at t1|rw [zqt (Classical.not_not.2 q2)]at t1)
  (repeat'((first|rw [t0]|rw [t1]|refine ad hg cy ?_|refine aa hg cy ?_|refine ad hg ck ?_|refine aa hg ck ?_|refine ad hg cs ?_|refine aa hg cs ?_|refine ad hg cf ?_|refine aa hg cf ?_);cbv))
  exact ba hF (by rw [hR2,if_neg (fun x=>x q1),if_pos q2])
 have hR3:R=if k0=3∧¬RT= -1 then RT else SA:=by rw [hR2,if_neg (fun x=>x q1),if_neg (fun x=>x q2)]
 (first|rw [zqu q1]at t0|rw [zqt q1]at t0|rw [zqu (Classical.not_not.2 q1)]at t0|rw [zqt (Classical.not_not.2 q1)]at t0)
 (first|rw [zqu q2]at t1|rw [zqt q2]at t1|rw [zqu (Classical.not_not.2 q2)]at t1|rw [zqt (Classical.not_not.2 q2)]at t1)
 (repeat'((first|rw [t0]|rw [t1]|refine ad hg cy ?_|refine aa hg cy ?_|refine ad hg ck ?_|refine aa hg ck ?_|refine ad hg cs ?_|refine aa hg cs ?_|refine ad hg cf ?_|refine aa hg cf ?_|refine ad hg cX ?_|refine aa hg cX ?_);cbv))
 clear hR2
 have fin:SA=R→(row=true→PC0 132 [.agg [.J i0,.J i1]] (.t (agP ⟨g0,g1⟩))):=fun _ hr=>by rw [hGA2,if_pos hr];exact cL
 by_cases q3:k0=3
 case pos=>
  by_cases q4:RT= -1
  case neg=>
   rw [if_pos ⟨q3,q4⟩]at hR3
   (first|rw [zqu q3]at t2|rw [zqt q3]at t2|rw [zqu (Classical.not_not.2 q3)]at t2|rw [zqt (Classical.not_not.2 q3)]at t2)
   (first|rw [zqu q4]at t3|rw [zqt q4]at t3|rw [zqu (Classical.not_not.2 q4)]at t3|rw [zqt (Classical.not_not.2 q4)]at t3)
   (repeat'((first|rw [t2]|rw [t3]|refine ad hg cr ?_|refine aa hg cr ?_);cbv))
   exact ba hF hR3.symm
  rw [if_neg (fun x=>x.2 q4)]at hR3
  have fin:=fin hR3.symm
  (first|rw [zqu q3]at t2|rw [zqt q3]at t2|rw [zqu (Classical.not_not.2 q3)]at t2|rw [zqt (Classical.not_not.2 q3)]at t2)
  (first|rw [zqu q4]at t3|rw [zqt q4]at t3|rw [zqu (Classical.not_not.2 q4)]at t3|rw [zqt (Classical.not_not.2 q4)]at t3)
  (repeat'((first|rw [t2]|rw [t3]|refine ad hg cr ?_|refine aa hg cr ?_);cbv))
  cases row
  ·rw [if_neg (by decide)]at hGA2
   simp only [aw.mk.injEq]at hGA2
   obtain⟨rfl,rfl⟩:=hGA2
   try cbv
   (repeat'((first|rw [t4]|refine ad hg cZ ?_|refine aa hg cZ ?_|refine ad hg cQ ?_|refine aa hg cQ ?_);cbv))
   exact ba hF hR3.symm
  ·have cL:=fin rfl
   try cbv
   (repeat'((first|rw [t4]|refine ad hg cM ?_|refine aa hg cM ?_|refine ad hg cm ?_|refine aa hg cm ?_|refine ad hg cI ?_|refine aa hg cI ?_|refine ad hg cL ?_|refine aa hg cL ?_|refine ad hg cZ ?_|refine aa hg cZ ?_|refine ad hg cQ ?_|refine aa hg cQ ?_);cbv))
   exact ba hF hR3.symm
 case neg=>
  rw [if_neg (fun x=>q3 x.1)]at hR3
  have fin:=fin hR3.symm
  (first|rw [zqu q3]at t2|rw [zqt q3]at t2|rw [zqu (Classical.not_not.2 q3)]at t2|rw [zqt (Classical.not_not.2 q3)]at t2)
  (repeat'(rw [t2];cbv))
  cases row
  ·rw [if_neg (by decide)]at hGA2
   simp only [aw.mk.injEq]at hGA2
   obtain⟨rfl,rfl⟩:=hGA2
   try cbv
   (repeat'((first|rw [t4]|refine ad hg cZ ?_|refine aa hg cZ ?_|refine ad hg cQ ?_|refine aa hg cQ ?_);cbv))
   exact ba hF hR3.symm
  ·have cL:=fin rfl
   try cbv
   (repeat'((first|rw [t4]|refine ad hg cM ?_|refine aa hg cM ?_|refine ad hg cm ?_|refine aa hg cm ?_|refine ad hg cI ?_|refine aa hg cI ?_|refine ad hg cL ?_|refine aa hg cL ?_|refine ad hg cZ ?_|refine aa hg cZ ?_|refine ad hg cQ ?_|refine aa hg cQ ?_);cbv))
   exact ba hF hR3.symm
theorem gK(ns:List ak)(hl:ns.length≤1048576)(rtl:Bool)(b:Bv)(n:Int)(p:Pl)(hkl:p.kids.length≤1048576)(hk:∀kid∈p.kids,isN ns kid=true)(hbx:∀kid∈p.kids,xc (vwA ak.ac ns) rtl b kid):cY prog 93 [.agg (mA (vwA ak.ac ns) rtl),.agg (plL n p.s p.w p.h p.row p.wide p.high p.al p.ac (.view (vw ao p.kids)))] fun res rows=>res= .o 0∧rows=[⟨121,9,vw ah.c (uh b p rtl ns p.kids)⟩]:=by
 obtain⟨R,hR⟩:=nmE (uh b p rtl ns p.kids)
 rw [←hR]
 unfold uh at hR
 obtain⟨f,hf⟩:∃f,f=fun k=>Fd p (kst ns k) rtl (Cs b p rtl ns k):=⟨_,rfl⟩
 rw [←hf]at hR
 have hRl:R.length≤1048576:=by rw [hR,zql];exact hkl
 have cB:=fun kid(h:kid∈p.kids) y hy=>qz ns hl kid y (hk kid h) hy rtl b (hbx kid h) n p (vw ao p.kids)
 have hat:∀kid∈p.kids,∃y,ns[(kid-1).toNat]? =some y:=fun kid h=>(bF (hk kid h)).2.2
 have hnd:=fun kid(h:kid∈p.kids) y hy Ky Ry=>di ns kid y (bF (hk kid h)).1 (by have:=(bF (hk kid h)).2.1;omega) hy (vwA ak.ac ns) Ky Ry rfl
 obtain⟨s0,row,w,h,iw,ih,al,ac,kids⟩:=p
 dsimp only at *
 obtain⟨V,hV⟩:=nmE (vwA ak.ac ns)
 rw [←hV]at cB hnd
 rw [←hV]
 obtain⟨K,hK⟩:=nmE (vw ao kids)
 have hKl:K.length=kids.length:=by rw [hK,af]
 have iK:bR K=true:=by rw [hK];exact aG _ _
 have kK:∀y∈K,y.length=1:=by rw [hK];exact bC (c:=ao) (k:=1) fun _=>rfl
 have dK:∀y∈K,y.all dat=true:=by rw [hK];exact az
 rw [←hK]at cB
 rw [←hK]
 obtain⟨S,hS⟩:=nmE (vw ah.c R);(try rw [←hS]at⊢)
 obtain⟨am,an⟩:=al
 have ck:=ef am an
 obtain⟨KN,hKN⟩:=nmE (knS ⟨am,an⟩)
 change PC0 _ _ (.i (knS ⟨am,an⟩))at ck
 rw [←hKN]at ck
 have cM:=jT s0 rtl
 obtain⟨m1,hm1⟩:=nmE (sd1 (jq s0) (kO s0 rtl))
 obtain⟨m2,hm2⟩:=nmE (sd2 (jq s0) (kO s0 rtl))
 rw [←hm1,←hm2]at cM
 have hfv:∀k y,ns[(k-1).toNat]? =some y→f k=⟨Cs b ⟨s0,row,w,h,iw,ih,⟨am,an⟩,ac,kids⟩ rtl ns k,z6 y.style row KN,Ba y.style row KN,y.style.grow,y.style.shrink,oH y.style.margin m1 rtl (knS iw),oH y.style.margin m2 rtl (knS iw),uS y.style.margin m1 rtl,uS y.style.margin m2 rtl⟩:=fun k y hy=>by
  rw [hf,hKN,hm1,hm2]
  dsimp only
  rw [iz hy]
  rfl
 have cm:=fun k=>fC V rtl n s0 k w h row iw ih ⟨am,an⟩ ac K m1 m2
 clear hf hKN hm1 hm2
 refine ae (aK f93) aD func93 fun g F hg hF=> ?_
 cbv
 (repeat'((first|refine ad hg ck ?_|refine aa hg ck ?_|refine ad hg cM ?_|refine aa hg cM ?_);cbv))
 refine aY hg aD (by kernel_rfl) K (fun x=>lc (ao x)) kids hK hkl (fun z(s:List ah×LLA)=>[(2,.p 0),(3,.p 1),(5,.i (KN)),(6,.i (m1)),(7,.i (m2)),(8,.o 2),(25,.v K),(26,.i (g .ln K)),(27,.i (z))]) (fun z(s:List ah×LLA)=>[.bx 95 3 (mA V rtl),.bx 98 75 (plL n s0 w h row iw ih ⟨am,an⟩ ac (.view K)),.rw ⟨121,9,s.2⟩]) (fun z(s:List ah×LLA)=>s.2=vw ah.c s.1) (fun(s:List ah×LLA) rest=>s.1++rest.map f) (R) ([],[]) (by rw [hR];rfl) rfl (Wk.weak (wkG [some _,some _,none] ⟨rfl,rfl,rfl,rfl,rfl,rfl,rfl,rfl,rfl,trivial⟩ ⟨wqE rfl rfl,wqE rfl rfl,⟨_,rfl,rfl⟩,trivial⟩ (by decide) aI)) (fun z s B hz h0 hi he=> ?_) (fun z s x rest B z0 z1 z2 hx hy h0 hi hc e1 hB=> ?_)
 ·obtain⟨out,E⟩:=s
  dsimp only at hi h0
  have pE:aj E=true:=by rw [hi];exact ag _ _
  obtain rfl:out=R:=by simpa using h0
  rw [hS,←hi]at hF
  cbv;rw [he];cbv
  exact bP hF rfl pE
 ·obtain⟨out,E⟩:=s
  dsimp only at hi h0
  have hxm:x∈kids:=zqd hx
  obtain⟨y,hyx⟩:=hat x hxm
  have hfx:=hfv x y hyx
  have cB:=cB x hxm y hyx
  have cy:=hnd x hxm y hyx _ _ rfl rfl
  obtain⟨Ky,hKy⟩:=nmE (vw ao y.kids)
  obtain⟨Ry,hRy⟩:=nmE (vw aJ.c y.table.rules)
  rw [←hKy,←hRy]at cy
  have cm:=cm y.style
  have cLe:=iU y.style row KN
  have cMo:=jC y.style row KN
  have cA1:=dF y.style.margin m1 rtl
  have cA2:=dF y.style.margin m2 rtl
  obtain⟨f0,hf0⟩:=nmE (Cs b ⟨s0,row,w,h,iw,ih,⟨am,an⟩,ac,kids⟩ rtl ns x)
  rw [←hf0]at cB hfx
  obtain⟨f1,hf1⟩:=nmE (z6 y.style row KN);(try rw [←hf1]at cLe);(try rw [←hf1]at hfx)
  obtain⟨f2,hf2⟩:=nmE (Ba y.style row KN);(try rw [←hf2]at cMo);(try rw [←hf2]at hfx)
  obtain⟨f5,hf5⟩:=nmE (oH y.style.margin m1 rtl (knS iw));(try rw [←hf5]at cm);(try rw [←hf5]at hfx)
  obtain⟨f6,hf6⟩:=nmE (oH y.style.margin m2 rtl (knS iw));(try rw [←hf6]at cm);(try rw [←hf6]at hfx)
  obtain⟨f7,hf7⟩:=nmE (uS y.style.margin m1 rtl);(try rw [←hf7]at cA1);(try rw [←hf7]at hfx)
  obtain⟨f8,hf8⟩:=nmE (uS y.style.margin m2 rtl);(try rw [←hf8]at cA2);(try rw [←hf8]at hfx)
  have hlen:=congrArg List.length h0
  rw [zqe]at hlen
  have hEl:E.length≤1048576:=by rw [hi,af];omega
  have h3:(out++[f x])++rest.map f=R:=by rw [←h0];simp
  have aE:E++[[.J f0,.J f1,.J f2,.J y.style.grow,.J y.style.shrink,.J f5,.J f6,.B f7,.B f8]]=vw ah.c (out++[f x]):=by rw [hi,bA,hfx];rfl
  obtain⟨E2,hE2⟩:∃E2,E2=E++[[.J f0,.J f1,.J f2,.J y.style.grow,.J y.style.shrink,.J f5,.J f6,.B f7,.B f8]]:=⟨_,rfl⟩
  rw [←hE2]at aE
  have pE2:aj E2=true:=by rw [aE];exact ag _ _
  clear hf0 hf1 hf2 hf5 hf6 hf7 hf8 hlen hfx
  cbv;rw [hc];cbv;refine goX hg _ z0 hy rfl ?_;cbv
  (repeat'((first|rw [e1]|refine ad hg cy ?_|refine aa hg cy ?_|refine ad hg cB ?_|refine aa hg cB ?_|refine ad hg cLe ?_|refine aa hg cLe ?_|refine ad hg cMo ?_|refine aa hg cMo ?_|refine ad hg cm ?_|refine aa hg cm ?_|refine ad hg cA1 ?_|refine aa hg cA1 ?_|refine ad hg cA2 ?_|refine aa hg cA2 ?_|refine dl hg rfl (by decide) hEl ?_;cbv;rw [gG hg,←hE2]);cbv))
  exact hB ((out++[f x],E2)) _ _ ⟨h3,aE⟩ (Wk.weak (wkG [some _,some _,some 6] ⟨rfl,rfl,rfl,rfl,rfl,rfl,rfl,rfl,rfl,trivial⟩ ⟨wqE rfl rfl,wqE rfl rfl,wqE rfl pE2,trivial⟩ (by decide) aI))
theorem wk:∀{a b:List Int},b.length=a.length→vw ao a=(a.zip b).map (fun t=>lc (ao t.1))
 | [],b,h=>rfl
 |x::a,[],h=>by simp at h
 |x::a,y::b,h=>by rw [List.zip_cons_cons,zqA,←wk (a:=a) (b:=b) (by simpa using h)];rfl
theorem za{a b:List Int}{i:Nat}{t:Int×Int}(h:(a.zip b)[i]? =some t):a[i]? =some t.1∧b[i]? =some t.2:=List.getElem?_zip_eq_some.1 h
theorem o4(ns:List ak)(hl:ns.length≤1048576)(rtl:Bool)(b:Bv)(n:Int)(p:Pl)(zs:List Int)(hkl:p.kids.length≤1048576)(hzs:zs.length=p.kids.length)(hk:∀kid∈p.kids,isN ns kid=true)(hbx:∀kid∈p.kids,xc (vwA ak.ac ns) rtl b kid):cY prog 97 [.agg (mA (vwA ak.ac ns) rtl),.agg (plL n p.s p.w p.h p.row p.wide p.high p.al p.ac (.view (vw ao p.kids))),.c (.view (vw ao zs))] fun res rows=>res= .o 0∧rows=[⟨126,7,vw av.c (CK b p rtl ns (p.kids.zip zs))⟩]:=by
 obtain⟨R,hR⟩:=nmE (CK b p rtl ns (p.kids.zip zs))
 rw [←hR]
 unfold CK at hR
 obtain⟨f,hf⟩:∃f,f=fun q:Int×Int=>FS p (kst ns q.1) rtl (Bg b p.row q.1 ⟨3,q.2⟩ (y9 p (kst ns q.1) rtl q.2)):=⟨_,rfl⟩
 rw [←hf]at hR
 have hql:(p.kids.zip zs).length≤1048576:=by rw [zqB];omega
 have hRl:R.length≤1048576:=by rw [hR,zql];exact hql
 have hqK:=wk hzs
 have hqa:=fun{i t} h=>za (a:=p.kids) (b:=zs) (i:=i) (t:=t) h
 have hat:∀kid∈p.kids,∃y,ns[(kid-1).toNat]? =some y:=fun kid h=>(bF (hk kid h)).2.2
 have hnd:=fun kid(h:kid∈p.kids) y hy Ky Ry=>di ns kid y (bF (hk kid h)).1 (by have:=(bF (hk kid h)).2.1;omega) hy (vwA ak.ac ns) Ky Ry rfl
 obtain⟨s0,row,w,h,iw,ih,al,ac,kids⟩:=p
 dsimp only at *
 have cX:=fun kid(hh:kid∈kids) y hy=>jP ns hl kid y (hk kid hh) hy rtl n s0 w h row iw ih al ac (vw ao kids)
 change∀kid(hh:kid∈kids) y,ns[(kid-1).toNat]? =some y→PC0 _ _ (.t (agP (kcX ⟨s0,row,w,h,iw,ih,al,ac,kids⟩ y.style rtl)))at cX
 obtain⟨V,hV⟩:=nmE (vwA ak.ac ns)
 rw [←hV]at hbx hnd cX
 rw [←hV]
 obtain⟨Z,hZ⟩:=nmE (vw ao zs)
 have hZl:Z.length=zs.length:=by rw [hZ,af]
 have iZ:bR Z=true:=by rw [hZ];exact aG _ _
 have kZ:∀y∈Z,y.length=1:=by rw [hZ];exact bC (c:=ao) (k:=1) fun _=>rfl
 have dZ:∀y∈Z,y.all dat=true:=by rw [hZ];exact az
 obtain⟨K,hK⟩:=nmE (vw ao kids)
 have hKl:K.length=kids.length:=by rw [hK,af]
 have iK:bR K=true:=by rw [hK];exact aG _ _
 have kK:∀y∈K,y.length=1:=by rw [hK];exact bC (c:=ao) (k:=1) fun _=>rfl
 have dK:∀y∈K,y.all dat=true:=by rw [hK];exact az
 rw [←hK]at cX hqK
 have hZx:∀{i:Nat}{v:Int},zs[i]? =some v→Z[i]? =some [.J v]:=fun h=>by rw [hZ];exact bh h
 rw [←hK,←hZ]
 obtain⟨S,hS⟩:=nmE (vw av.c R);(try rw [←hS]at⊢)
 obtain⟨am,an⟩:=ac
 have ck:=ef am an
 obtain⟨KN,hKN⟩:=nmE (knS ⟨am,an⟩)
 change PC0 _ _ (.i (knS ⟨am,an⟩))at ck
 rw [←hKN]at ck
 have cM:=jg s0 rtl
 obtain⟨m1,hm1⟩:=nmE (sd1 (!jq s0) (ll s0 rtl))
 obtain⟨m2,hm2⟩:=nmE (sd2 (!jq s0) (ll s0 rtl))
 rw [←hm1,←hm2]at cM
 have hfv:∀(q:Int×Int) y,ns[(q.1-1).toNat]? =some y→∀kc,kc=kcX ⟨s0,row,w,h,iw,ih,al,⟨am,an⟩,kids⟩ y.style rtl→∀ax,ax=(if kc.mode≠3∧qM y.style (!row) KN= -1∧rC y.style (!row) q.2≠ -1 then⟨3,oM y.style (!row) KN (rC y.style (!row) q.2)⟩else kc)→∀bb,bb=Bg b row q.1 ⟨3,q.2⟩ ax→
   f q=⟨oM y.style (!row) KN (alB (!row) bb),oH y.style.margin m1 rtl (knS iw),oH y.style.margin m2 rtl (knS iw),uS y.style.margin m1 rtl,uS y.style.margin m2 rtl,yZ s0 y.style,rF bb.base (oM y.style (!row) KN (alB (!row) bb))⟩:=fun q y hy kc hkc ax hax bb hbb=>by
  rw [hf,hbb,hax,hkc,hKN,hm1,hm2]
  dsimp only
  rw [iz hy]
  rfl
 have cm:=fun k=>fC V rtl n s0 k w h row iw ih al ⟨am,an⟩ K m1 m2
 clear hf hKN hm1 hm2
 obtain⟨wide,hwide⟩:=nmE (!row)
 obtain⟨qs,hqs⟩:=nmE (kids.zip zs);(try rw [←hqs]at hqK);(try rw [←hqs]at hqa);(try rw [←hqs]at hql);(try rw [←hqs]at hR)
 refine ae (aK f97) aD func97 fun g F hg hF=> ?_
 cbv
 (repeat'((first|refine ad hg ck ?_|refine aa hg ck ?_|refine ad hg cM ?_|refine aa hg cM ?_);cbv))
 replace hK:=hqK
 refine aY hg aD (by kernel_rfl) K (fun t=>lc (ao t.1)) qs hK hql (fun z(s:List av×LLA)=>[(2,.v Z),(3,.p 0),(4,.p 1),(7,.i (KN)),(8,.t (abl ((!row)))),(9,.i (m1)),(10,.i (m2)),(11,.o 2),(34,.v K),(35,.i (g .ln K)),(36,.i (z))]) (fun z(s:List av×LLA)=>[.bx 95 3 (mA V rtl),.bx 98 75 (plL n s0 w h row iw ih al ⟨am,an⟩ (.view K)),.rw ⟨126,7,s.2⟩]) (fun z(s:List av×LLA)=>s.2=vw av.c s.1) (fun(s:List av×LLA) rest=>s.1++rest.map f) (R) ([],[]) (by rw [hR];rfl) rfl (Wk.weak (wkG [some _,some _,none] ⟨rfl,rfl,rfl,rfl,rfl,rfl,rfl,rfl,rfl,rfl,rfl,trivial⟩ ⟨wqE rfl rfl,wqE rfl rfl,⟨_,rfl,rfl⟩,trivial⟩ (by decide) aI)) (fun z s B hz h0 hi he=> ?_) (fun z s x rest B z0 z1 z2 hx hy h0 hi hc e1 hB=> ?_)
 ·obtain⟨out,E⟩:=s
  dsimp only at hi h0
  have pE:aj E=true:=by rw [hi];exact ag _ _
  obtain rfl:out=R:=by simpa using h0
  rw [hS,←hi]at hF
  cbv;rw [he];cbv
  exact bP hF rfl pE
 ·obtain⟨out,E⟩:=s
  obtain⟨x0,x1⟩:=x
  dsimp only at hi h0 hy
  have hxa:=hqa hx
  have hxm:x0∈kids:=zqd hxa.1
  have hZz:=hZx hxa.2
  obtain⟨y,hyx⟩:=hat x0 hxm
  have hfx:=hfv (x0,x1) y hyx _ rfl _ rfl _ rfl
  dsimp only at hfx
  have cX:=cX x0 hxm y hyx
  have cy:=hnd x0 hxm y hyx _ _ rfl rfl
  have hbx:=hbx x0 hxm
  obtain⟨Ky,hKy⟩:=nmE (vw ao y.kids)
  obtain⟨Ry,hRy⟩:=nmE (vw aJ.c y.table.rules)
  rw [←hKy,←hRy]at cy
  have cm:=cm y.style
  have cA1:=dF y.style.margin m1 rtl
  have cA2:=dF y.style.margin m2 rtl
  have cAl:=mg s0 y.style
  have cf:=gp y.style (!row) KN
  have cr:=i6 y.style (!row) x1
  have cx1:=iT x1
  obtain⟨⟨k0,k1⟩,hKC⟩:∃q,q=kcX ⟨s0,row,w,h,iw,ih,al,⟨am,an⟩,kids⟩ y.style rtl:=⟨_,rfl⟩
  rw [←hKC]at cX hfx
  dsimp only at hfx
  obtain⟨FX,hFX⟩:=nmE (qM y.style (!row) KN);(try rw [←hFX]at cf);(try rw [←hFX]at hfx)
  obtain⟨RT,hRT⟩:=nmE (rC y.style (!row) x1);(try rw [←hRT]at cr);(try rw [←hRT]at hfx)
  have cb1:=gu y.style (!row) KN RT
  obtain⟨B1,hB1⟩:=nmE (oM y.style (!row) KN RT);(try rw [←hB1]at cb1);(try rw [←hB1]at hfx)
  have cx2:=iT B1
  obtain⟨⟨j0,j1⟩,hAX⟩:∃q,q=(if k0≠3∧FX= -1∧RT≠ -1 then(⟨3,B1⟩:aw)else⟨k0,k1⟩):=⟨_,rfl⟩
  rw [←hAX]at hfx
  have cZ:=nt V rtl b x0 hbx n s0 w h row iw ih al ⟨am,an⟩ K 3 x1 j0 j1
  obtain⟨bb,hbb⟩:=nmE (Bg b row x0 ⟨3,x1⟩ ⟨j0,j1⟩)
  rw [←hbb]at cZ hfx
  have cQ:=jQ (!row) bb
  obtain⟨SA,hSA⟩:=nmE (alB (!row) bb);(try rw [←hSA]at cQ);(try rw [←hSA]at hfx)
  have cb2:=gu y.style (!row) KN SA
  obtain⟨f0,hf0⟩:=nmE (oM y.style (!row) KN SA);(try rw [←hf0]at cb2);(try rw [←hf0]at hfx)
  obtain⟨f1,hf1⟩:=nmE (oH y.style.margin m1 rtl (knS iw));(try rw [←hf1]at cm);(try rw [←hf1]at hfx)
  obtain⟨f2,hf2⟩:=nmE (oH y.style.margin m2 rtl (knS iw));(try rw [←hf2]at cm);(try rw [←hf2]at hfx)
  obtain⟨f3,hf3⟩:=nmE (uS y.style.margin m1 rtl);(try rw [←hf3]at cA1);(try rw [←hf3]at hfx)
  obtain⟨f4,hf4⟩:=nmE (uS y.style.margin m2 rtl);(try rw [←hf4]at cA2);(try rw [←hf4]at hfx)
  obtain⟨f5,hf5⟩:=nmE (yZ s0 y.style);(try rw [←hf5]at cAl);(try rw [←hf5]at hfx)
  have e:jK.ac bb=[.J bb.wide,.J bb.high,.J bb.base,.view (vw aV.c bb.frames)]:=rfl
  rw [e]at cZ cQ
  obtain⟨FR,hFR⟩:=nmE (vw aV.c bb.frames);(try rw [←hFR]at cZ);(try rw [←hFR]at cQ)
  obtain⟨b0,hb0⟩:=nmE bb.wide
  obtain⟨b1,hb1⟩:=nmE bb.high
  obtain⟨b3,hb3⟩:=nmE bb.base
  rw [←hb0,←hb1,←hb3]at cZ cQ
  rw [←hb3]at hfx
  obtain⟨f6,hf6⟩:=nmE (rF b3 f0)
  rw [←hf6]at hfx
  have tm:g .mn b3 f0=f6:=by rw [F8 hg,hf6];rfl
  have t0:g .q .neq (k0) (3)=decide (¬(k0)=(3)):=by rw [bk hg];exact dx _ _
  have t1:g .q .eql (FX) ((-1))=decide ((FX)=((-1))):=by rw [bv hg];exact zqn _ _
  have t2:g .q .neq (RT) ((-1))=decide (¬(RT)=((-1))):=by rw [bk hg];exact dx _ _
  have hlen:=congrArg List.length h0
  rw [zqe]at hlen
  have hEl:E.length≤1048576:=by rw [hi,af];omega
  have h3:(out++[f (x0,x1)])++rest.map f=R:=by rw [←h0];simp
  have aE:E++[[.J f0,.J f1,.J f2,.B f3,.B f4,.J f5,.J f6]]=vw av.c (out++[f (x0,x1)]):=by rw [hi,bA,hfx];rfl
  obtain⟨E2,hE2⟩:∃E2,E2=E++[[.J f0,.J f1,.J f2,.B f3,.B f4,.J f5,.J f6]]:=⟨_,rfl⟩
  rw [←hE2]at aE
  have pE2:aj E2=true:=by rw [aE];exact ag _ _
  clear hf0 hf1 hf2 hf3 hf4 hf5 hf6 hlen hfx e hb0 hb1 hb3 hFR hSA hbb hFX hRT hB1 hKC hfv
  cbv;rw [hc];cbv;refine goX hg _ z0 hy rfl ?_;cbv
  by_cases q0:k0=3
  case' neg=>
   by_cases q1:FX= -1
   case' pos=>
    by_cases q2:RT= -1
  all_goals
   first
    |rw [if_pos ⟨by assumption,by assumption,by assumption⟩]at hAX
    |rw [if_neg (fun hh=>by first|exact hh.1 (by assumption)|exact absurd hh.2.1 (by assumption)|exact hh.2.2 (by assumption))]at hAX
   simp only [aw.mk.injEq]at hAX
   obtain⟨rfl,rfl⟩:=hAX
   ((first|rw [zqu q0]at t0|rw [zqt q0]at t0|rw [zqu (Classical.not_not.2 q0)]at t0|rw [zqt (Classical.not_not.2 q0)]at t0))
   (try((first|rw [zqu q1]at t1|rw [zqt q1]at t1|rw [zqu (Classical.not_not.2 q1)]at t1|rw [zqt (Classical.not_not.2 q1)]at t1)))
   (try((first|rw [zqu q2]at t2|rw [zqt q2]at t2|rw [zqu (Classical.not_not.2 q2)]at t2|rw [zqt (Classical.not_not.2 q2)]at t2)))
   ((repeat'((first|rw [t0]|rw [t1]|rw [t2]|rw [tm]|rw [e1]|refine ad hg cy ?_|refine aa hg cy ?_|refine ad hg cX ?_|refine aa hg cX ?_|refine ad hg cr ?_|refine aa hg cr ?_|refine ad hg cf ?_|refine aa hg cf ?_|refine ad hg cb1 ?_|refine aa hg cb1 ?_|refine ad hg cx2 ?_|refine aa hg cx2 ?_|refine ad hg cx1 ?_|refine aa hg cx1 ?_|refine ad hg cZ ?_|refine aa hg cZ ?_|refine ad hg cQ ?_|refine aa hg cQ ?_|refine ad hg cb2 ?_|refine aa hg cb2 ?_|refine ad hg cAl ?_|refine aa hg cAl ?_|refine ad hg cm ?_|refine aa hg cm ?_|refine ad hg cA1 ?_|refine aa hg cA1 ?_|refine ad hg cA2 ?_|refine aa hg cA2 ?_|refine goX hg _ z0 hZz rfl ?_|refine dl hg rfl (by decide) hEl ?_;cbv;rw [gG hg,←hE2]);cbv)))
   exact hB ((out++[f (x0,x1)],E2)) _ _ ⟨h3,aE⟩ (Wk.weak (wkG [some _,some _,some 8] ⟨rfl,rfl,rfl,rfl,rfl,rfl,rfl,rfl,rfl,rfl,rfl,trivial⟩ ⟨wqE rfl rfl,wqE rfl rfl,wqE rfl pE2,trivial⟩ (by decide) aI))
section
variable {P : Program} {n0 N : Nat} {g : Gd}
theorem ye{β:BP}(hg:g=G0 P n0 N){h:EH}{n:Nat}{f:FuncId}{args args':List AT}{K:AV→EH→Prop}{a b c:Int}{ab:AB}(hc:cY P f args' fun res rows=>res= .t (.agg [.J a,.J b,.J c,.own 0])∧rows=[ab])(hd:dwA args args')(hp:aj ab.es=true)
  (hK:K (.t (.agg [.J a,.J b,.J c,.own n])) [.rw ab]):g .PC f h n args K:=by
 subst hg
 refine⟨.t (.agg [.J a,.J b,.J c,.own n]),[ab],⟨args',_,hc,.inl ⟨hd,fun res rows hpost=> ?_⟩⟩,[.rw ab],rfl,hK⟩
 obtain⟨rfl,rfl⟩:=hpost
 exact⟨rfl,by simp only [zqA,List.map_nil,fA hp]⟩
end
def Cy(q:jK)(res:AV)(rows:List AB):Prop:=res= .t (.agg [.J q.wide,.J q.high,.J q.base,.own 0])∧rows=[⟨45,5,vw aV.c q.frames⟩]
def Di(V:LLA)(rtl:Bool)(b:Bv)(kid:Int):Prop:=∀w0 w1 h0 h1:Int,cY prog 186 [.agg (mA V rtl),ai kid,agP ⟨w0,w1⟩,agP ⟨h0,h1⟩] (Cy (b kid ⟨w0,w1⟩ ⟨h0,h1⟩))
def Ek(V:LLA)(rtl:Bool)(b:Bv)(kid:Int):Prop:=∀w0 w1 h0 h1:Int,cY prog 100 [.agg (mA V rtl),ai kid,agP ⟨w0,w1⟩,agP ⟨h0,h1⟩] (Cy (b kid ⟨w0,w1⟩ ⟨h0,h1⟩))
theorem wI(V:LLA)(rtl:Bool)(b:Bv)(kid:Int)(hla:Di V rtl b kid):Ek V rtl b kid:=by
 intro w0 w1 h0 h1
 have cL:=hla w0 w1 h0 h1
 unfold Cy at cL⊢
 obtain⟨bb,hbb⟩:=nmE (b kid ⟨w0,w1⟩ ⟨h0,h1⟩)
 rw [←hbb]at cL⊢
 have pFR:aj (vw aV.c bb.frames)=true:=ag _ _
 obtain⟨FR,hFR⟩:=nmE (vw aV.c bb.frames);(try rw [←hFR]at cL);(try rw [←hFR]at pFR);(try rw [←hFR]at⊢)
 refine gC ([(1,.hand),(3,.hand),(7,.hand),(9,.hand)]) ([]) (c:=aK f100) aD func100 (by kernel_rfl) (by kernel_rfl) (by rfl) (by kernel_rfl) fun g eff hd F heff hhd hg hF=> ?_
 cbv
 refine BS hg hhd aD 2 (by kernel_rfl) fun mk hmk=> ?_
 cbv
 rw [hmk]
 refine⟨_,_,_,_,_,Tryz.underlying93,rfl,rfl,rfl,rfl,?_⟩
 cbv
 refine uI hg cL rfl pFR ?_
 cbv
 exact uy hF rfl pFR
theorem qA(V:LLA)(rtl:Bool)(b:Bv)(kid:Int)(hla:Ek V rtl b kid):xc V rtl b kid:=fun w0 w1 h0 h1=>
 zU (hla w0 w1 h0 h1) (bC (c:=aV.c) (k:=5) fun _=>rfl) az
theorem nq(n:Int)(s:ar)(wd hgh:aw)(row:Bool)(iw ih al ac:aw)(K:LLA)(xs:List ah)(hl:xs.length≤1048576):PC0 92 [.agg (plL n s wd hgh row iw ih al ac (.view K)),.c (.view (vw ah.c xs))] (.tup [.c (.view (vwA lnA (lns xs (fP s row) (gW al) (!decide (s.wrap=1))))),ai (tak al (lng xs (fP s row) (gW al) (!decide (s.wrap=1)))),.c (.view (vw ao (lsz xs (fP s row) (gW al) (!decide (s.wrap=1)) (tak al (lng xs (fP s row) (gW al) (!decide (s.wrap=1)))))))]):=by
 obtain⟨am,an⟩:=al
 have cG:=gF s row
 have cR:=jB am an
 obtain⟨G,hG⟩:=nmE (fP s row);(try rw [←hG]at cG);(try rw [←hG]at⊢)
 obtain⟨M,hM⟩:=nmE (gW ⟨am,an⟩);(try rw [←hM]at cR);(try rw [←hM]at⊢)
 obtain⟨wr,hwr⟩:=nmE ((!decide (s.wrap=1)))
 rw [←hwr]
 have cL:=jU xs G M wr hl
 obtain⟨LG,hLG⟩:=nmE (lng xs G M wr);(try rw [←hLG]at cL);(try rw [←hLG]at⊢)
 have cT:=eI am an LG
 obtain⟨T,hT⟩:=nmE (tak ⟨am,an⟩ LG);(try rw [←hT]at cT);(try rw [←hT]at⊢)
 have cN:=gk xs G M wr hl
 have cS:=o8 xs G M wr T hl
 obtain⟨LN,hLN⟩:=nmE (vwA lnA (lns xs G M wr));(try rw [←hLN]at cN);(try rw [←hLN]at⊢)
 obtain⟨Z,hZ⟩:=nmE (vw ao (lsz xs G M wr T));(try rw [←hZ]at cS);(try rw [←hZ]at⊢)
 obtain⟨V,hV⟩:=nmE (vw ah.c xs);(try rw [←hV]at cL);(try rw [←hV]at cN);(try rw [←hV]at cS);(try rw [←hV]at⊢)
 have t0:∀g:Gd,g=G0 prog 0 f92.ntmps→g .q .neq s.wrap 1=wr:=fun g hg=>by rw [bk hg,hwr];exact(dx _ _).trans (by simp)
 clear hwr hLN hZ hV hT hLG hG hM
 refine ae (aK f92) aD func92 fun g F hg hF=> ?_
 have t0:=t0 g hg
 cbv
 (repeat'((first|rw [t0]|refine ad hg cG ?_|refine aa hg cG ?_|refine ad hg cR ?_|refine aa hg cR ?_|refine ad hg cL ?_|refine aa hg cL ?_|refine ad hg cT ?_|refine aa hg cT ?_|refine ad hg cN ?_|refine aa hg cN ?_|refine ad hg cS ?_|refine aa hg cS ?_);cbv))
 exact dY hF rfl ⟨rfl,rfl⟩
theorem km(n:Int)(s:ar)(row:Bool)(al ac:aw)(kn:Int)(K:LLA)(xs:List ah)(hl:xs.length≤1048576):PC0 171 [.agg (nwL n s row al ac kn (.view K)),.c (.view (vw ah.c xs))] (.i (tak al (lng xs (fP s row) (gW al) (!decide (s.wrap=1))))):=by
 obtain⟨am,an⟩:=al
 have cG:=gz s row
 have cR:=gZ am an
 obtain⟨G,hG⟩:=nmE (fP s row);(try rw [←hG]at cG);(try rw [←hG]at⊢)
 obtain⟨M,hM⟩:=nmE (gW ⟨am,an⟩);(try rw [←hM]at cR);(try rw [←hM]at⊢)
 obtain⟨wr,hwr⟩:=nmE ((!decide (s.wrap=1)))
 rw [←hwr]
 have cL:=oW xs G M wr hl
 obtain⟨LG,hLG⟩:=nmE (lng xs G M wr);(try rw [←hLG]at cL);(try rw [←hLG]at⊢)
 have cT:=dJ am an LG
 obtain⟨T,hT⟩:=nmE (tak ⟨am,an⟩ LG);(try rw [←hT]at cT);(try rw [←hT]at⊢)
 obtain⟨V,hV⟩:=nmE (vw ah.c xs);(try rw [←hV]at cL);(try rw [←hV]at⊢)
 have t0:∀g:Gd,g=G0 prog 0 f171.ntmps→g .q .neq s.wrap 1=wr:=fun g hg=>by rw [bk hg,hwr];exact(dx _ _).trans (by simp)
 clear hwr hV hT hLG hG hM
 refine ae (aK f171) aD func171 fun g F hg hF=> ?_
 have t0:=t0 g hg
 cbv
 (repeat'((first|rw [t0]|refine ad hg cG ?_|refine aa hg cG ?_|refine ad hg cR ?_|refine aa hg cR ?_|refine ad hg cL ?_|refine aa hg cL ?_|refine ad hg cT ?_|refine aa hg cT ?_);cbv))
 exact ba hF rfl
theorem ki(n:Int)(s:ar)(row:Bool)(al ac:aw)(kn:Int)(K:LLA)(xs:List ah)(hl:xs.length≤1048576):PC0 90 [.agg (nwL n s row al ac kn (.view K)),.c (.view (vw ah.c xs))] (.t (.c (.view (vw ao (lsz xs (fP s row) (gW al) (!decide (s.wrap=1)) (tak al (lng xs (fP s row) (gW al) (!decide (s.wrap=1))))))))):=by
 have cI:=km n s row al ac kn K xs hl
 obtain⟨T,hT⟩:=nmE (tak al (lng xs (fP s row) (gW al) (!decide (s.wrap=1))));(try rw [←hT]at cI);(try rw [←hT]at⊢)
 obtain⟨am,an⟩:=al
 have cG:=gz s row
 have cR:=gZ am an
 obtain⟨G,hG⟩:=nmE (fP s row);(try rw [←hG]at cG);(try rw [←hG]at⊢)
 obtain⟨M,hM⟩:=nmE (gW ⟨am,an⟩);(try rw [←hM]at cR);(try rw [←hM]at⊢)
 obtain⟨wr,hwr⟩:=nmE ((!decide (s.wrap=1)))
 rw [←hwr]
 have cS:=oX xs G M wr T hl
 obtain⟨Z,hZ⟩:=nmE (vw ao (lsz xs G M wr T));(try rw [←hZ]at cS);(try rw [←hZ]at⊢)
 obtain⟨V,hV⟩:=nmE (vw ah.c xs);(try rw [←hV]at cI);(try rw [←hV]at cS);(try rw [←hV]at⊢)
 have t0:∀g:Gd,g=G0 prog 0 f90.ntmps→g .q .neq s.wrap 1=wr:=fun g hg=>by rw [bk hg,hwr];exact(dx _ _).trans (by simp)
 clear hwr hV hZ hT hG hM
 refine ae (aK f90) aD func90 fun g F hg hF=> ?_
 have t0:=t0 g hg
 cbv
 (repeat'((first|rw [t0]|refine ad hg cG ?_|refine aa hg cG ?_|refine ad hg cR ?_|refine aa hg cR ?_|refine ad hg cI ?_|refine aa hg cI ?_|refine ad hg cS ?_|refine aa hg cS ?_);cbv))
 exact dY hF rfl ⟨rfl,rfl⟩
theorem ny{l r:List Int}{m:Int}{n:Nat}(h:l++r=ixs m n):l.length≤n∧l=ixs m l.length∧r=ixs (m+l.length) (n-l.length):=by
 have hlen:=congrArg List.length h
 rw [zqe,bW]at hlen
 have hle:l.length≤n:=by omega
 have e:ixs m n=ixs m l.length++ixs (m+l.length) (n-l.length):=by rw [←jx,show l.length+(n-l.length)=n by omega]
 rw [e]at h
 have:=List.append_inj h (by rw [bW])
 exact⟨hle,this.1,this.2⟩
theorem lD{l:List Int}{ls:List (List Int)}{m:Int}{n:Nat}(h:(l::ls).flatten=ixs m n):l.length≤n∧l=ixs m l.length∧ls.flatten=ixs (m+l.length) (n-l.length):=by
 rw [List.flatten_cons]at h
 exact ny h
theorem xV(p:Pl)(ns:List ak)(sides:List av)(sizes:List Int):∀(ls:List (List Int×Int)),(AA p ns sides sizes ls).length=(ls.map (·.1)).flatten.length
 | []=>rfl
 |q::r=>by
  have:=xV p ns sides sizes r
  simp only [AA,List.flatMap_cons,zqe,zql,zqA,List.flatten_cons]at this⊢
  omega
theorem lK(p:Pl)(rtl:Bool)(inner across:Int)(sizes:List Int)(sides:List av)(st c lb:Int)(ps:List Int):∀(ln:List Int)(j:Int),(qY p rtl inner across sizes sides st c lb ps j ln).length=ln.length
 | [],_=>rfl
 |i::r,j=>by simp only [qY,zqx,lK p rtl inner across sizes sides st c lb ps r]
theorem uw(p:Pl)(rtl:Bool)(items:List ah)(inner across:Int)(sizes:List Int)(sides:List av)(sts:List Int):∀(ls:List (List Int×Int))(k:Int),(wh p rtl items inner across sizes sides sts k ls).length=(ls.map (·.1)).flatten.length
 | [],_=>rfl
 |(l,c)::r,k=>by simp only [wh,zqe,lK,zqA,List.flatten_cons,uw p rtl items inner across sizes sides sts r]
theorem Bm(cs:List Int)(gap inner ct:Int)(hl:cs.length≤64):(we cs gap inner ct).length=cs.length:=by
 unfold we
 split
 ·have hevl:(evn (wrap64 (inner-crt cs gap)) (cs.length:Int)).length=cs.length:=by rw [gQ];have:=nN (many:=(cs.length:Int)) (by omega) (by omega);omega
  rw [zql,zqB,hevl];omega
 ·rfl
theorem uG(p:Pl)(ls:List (List Int))(sides:List av)(hl:ls.length≤64):(wS p ls sides).length=ls.length:=by
 unfold wS
 split
 ·rw [Bm _ _ _ _ (by rw [zql];exact hl),zql]
 ·rw [zql]
theorem lI(b:Bv)(p:Pl)(rtl:Bool)(ns:List ak)(ks:List Int):(uh b p rtl ns ks).length=ks.length:=zql ..
theorem mK(p:Pl)(xs:List ah):(pb p xs).length=xs.length:=wF ..
theorem Br(b:Bv)(p:Pl)(rtl:Bool)(ns:List ak)(ks:List (Int×Int)):(CK b p rtl ns ks).length=ks.length:=zql ..
theorem o9{α:Type}{c:α→List AC}:∀{a:List α}{b:List Int},b.length=a.length→vwA c a=(a.zip b).map (fun t=>c t.1)
 | [],b,h=>rfl
 |x::a,[],h=>by simp at h
 |x::a,y::b,h=>by
  have:=o9 (c:=c) (a:=a) (b:=b) (by simpa using h)
  simp only [vwA]at this⊢
  rw [List.zip_cons_cons,zqA,zqA,←this]
theorem fd{α:Type}:∀{a:List α}{b:List Int},b.length=a.length→(a.zip b).map (·.1)=a
 | [],b,h=>rfl
 |x::a,[],h=>by simp at h
 |x::a,y::b,h=>by rw [List.zip_cons_cons,zqA,fd (by simpa using h)]
theorem wj{α β:Type}{a:List α}{b:List β}{i:Nat}{t:α×β}(h:(a.zip b)[i]? =some t):a[i]? =some t.1∧b[i]? =some t.2:=List.getElem?_zip_eq_some.1 h
theorem vk{sides:List av}{i:Int}{y:av}(h0:0≤i)(h:sides[i.toNat]? =some y):sdZ sides i=y:=by
 unfold sdZ;rw [if_pos h0,h];rfl
end Go.Proofs.YtdnnffbbhijmkaaGreat
