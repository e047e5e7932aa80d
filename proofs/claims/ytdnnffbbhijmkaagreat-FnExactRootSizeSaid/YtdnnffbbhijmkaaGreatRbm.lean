/- Lines zipped with their crosses; a side that is looked up. -/
import Derived.Test.YtdnnffbbhijmkaaGreatRbl
set_option linter.unusedVariables false
set_option linter.unusedSimpArgs false
set_option maxHeartbeats 16000000
namespace Go.Proofs.YtdnnffbbhijmkaaGreat
open Go.ChangeShapes Go.WideShapes Go.ChangeAt Go.RowKit Am Go.Proofs.Tryz
set_option maxRecDepth 100000
theorem qg(ns:List ak)(hl:ns.length≤1048576)(kid:Int)(y:ak)(h1:isN ns kid=true)(hy:ns[(kid-1).toNat]? =some y)(rtl:Bool)(b:Bv)(hbx:vt (vwA ak.ac ns) rtl b kid)(n:Int)(p:Pl)(K:List (List AC)):PC0 75 [.agg (mc (vwA ak.ac ns) rtl),.agg (plL n p.s p.w p.h p.row p.wide p.high p.al p.ac (.view K)),ai kid] (.t (ai (BR b p rtl ns kid))):=by
 obtain⟨s,row,w,h,iw,ih,al,ac,kids⟩:=p
 obtain⟨Ky,hKy⟩:=nmE (vw ao y.kids)
 obtain⟨Ry,hRy⟩:=nmE (vw aJ.c y.table.rules)
 have b2:=bA h1
 obtain⟨R,hR⟩:=nmE (BR b ⟨s,row,w,h,iw,ih,al,ac,kids⟩ rtl ns kid)
 rw [←hR]
 unfold BR at hR
 rw [il hy]at hR
 unfold BS at hR
 dsimp only at hR⊢
 have cX:=jH ns hl kid y h1 hy rtl n s w h row iw ih al ac K
 change PC0 _ _ (.t (agP (kcX ⟨s,row,w,h,iw,ih,al,ac,kids⟩ y.style rtl)))at cX
 obtain⟨V,hV⟩:=nmE (vwA ak.ac ns)
 have cy:=cV ns kid y b2.1 (by have:=b2.2.1;omega) hy V Ky Ry hV hKy hRy
 rw [←hV]at hbx cX⊢
 obtain⟨⟨k0,k1⟩,hKC⟩:∃q,q=kcX ⟨s,row,w,h,iw,ih,al,ac,kids⟩ y.style rtl:=⟨_,rfl⟩
 rw [←hKC]at cX hR
 obtain⟨⟨g0,g1⟩,hGA⟩:∃q,q=DG ⟨s,row,w,h,iw,ih,al,ac,kids⟩ y.style rtl:=⟨_,rfl⟩
 rw [←hGA]at hR
 have cZ:=mY V rtl b kid hbx n s w h row iw ih al ac K g0 g1 k0 k1
 obtain⟨bb,hbb⟩:=nmE (Az b row kid ⟨g0,g1⟩ ⟨k0,k1⟩)
 rw [←hbb]at cZ hR
 have cQ:=jI row bb
 obtain⟨SA,hSA⟩:=nmE (alB row bb);(try rw [←hSA]at cQ);(try rw [←hSA]at hR)
 obtain⟨am,an⟩:=al
 have ck:=ei am an
 obtain⟨KN,hKN⟩:=nmE (knS ⟨am,an⟩);(try rw [←hKN]at ck);(try rw [←hKN]at hR)
 have cs:=dQ y.style.basis.kind y.style.basis.n KN
 change PC0 _ _ (.t (ai (rK y.style.basis KN)))at cs
 have cf:=ej y.style row KN
 have cr:=iJ y.style row k1
 obtain⟨SZ,hSZ⟩:=nmE (rK y.style.basis KN);(try rw [←hSZ]at cs);(try rw [←hSZ]at hR)
 obtain⟨FX,hFX⟩:=nmE (oQ y.style row KN);(try rw [←hFX]at cf);(try rw [←hFX]at hR)
 obtain⟨RT,hRT⟩:=nmE (qX y.style row k1);(try rw [←hRT]at cr);(try rw [←hRT]at hR)
 have e:jC.ac bb=[.J bb.wide,.J bb.high,.J bb.base,.view (vw aV.c bb.frames)]:=rfl
 rw [e]at cZ cQ
 obtain⟨FR,hFR⟩:=nmE (vw aV.c bb.frames);(try rw [←hFR]at cZ);(try rw [←hFR]at cQ)
 obtain⟨b0,hb0⟩:=nmE bb.wide
 obtain⟨b1,hb1⟩:=nmE bb.high
 obtain⟨b3,hb3⟩:=nmE bb.base
 rw [←hb0,←hb1,←hb3]at cZ cQ
 clear hb0 hb1 hb3 e hbb hSA hSZ hFX hRT hKN hKC
 have cM:=jM s rtl
 obtain⟨m1,hm1⟩:=nmE (sd1 (jk s) (kz s rtl))
 obtain⟨m2,hm2⟩:=nmE (sd2 (jk s) (kz s rtl))
 rw [←hm1,←hm2]at cM
 have cm:=fD V rtl n s y.style w h row iw ih ⟨am,an⟩ ac K m1 m2
 simp only [DG,wY,sdB,sdM,if_true]at hGA
 rw [←hm1,←hm2]at hGA
 obtain⟨M1,hM1⟩:=nmE (og y.style.margin m1 rtl (knS iw))
 obtain⟨M2,hM2⟩:=nmE (og y.style.margin m2 rtl (knS iw))
 rw [←hM1,←hM2]at cm
 have hGA2:(⟨g0,g1⟩:aF)=if row=true then A6 (oY ⟨am,an⟩ (wrap64 (M1+M2)))else⟨1,0⟩:=by rw [hGA,hM1,hM2]
 clear hGA hM1 hM2 hm1 hm2
 obtain⟨BB,hBB⟩:=nmE (wrap64 (M1+M2))
 rw [←hBB]at hGA2
 have cI:=gj am an BB
 obtain⟨⟨i0,i1⟩,hI⟩:∃q,q=oY ⟨am,an⟩ BB:=⟨_,rfl⟩
 rw [←hI]at cI hGA2
 have cL:=kP i0 i1
 have t4:∀g:Gd,g=G0 prog 0 f75.ntmps→g .w .add .i64 M1 M2=BB:=fun g hg=>by rw [aK hg,hBB]
 clear hI hBB hFR
 have hR2:R=if¬SZ= -1 then SZ else if¬FX= -1 then FX else if k0=3∧¬RT= -1 then RT else SA:=by
  rw [hR]
  by_cases q1:SZ= -1<;>by_cases q2:FX= -1<;>by_cases q3:k0=3<;>by_cases q4:RT= -1<;>simp [q1,q2,q3,q4]
 clear hR
 refine ae (aN f75) aB func75 fun g F hg hF=> ?_
 have t0:g .q .neq (SZ) ((-1))=decide (¬(SZ)=((-1))):=by rw [bj hg];exact dF _ _
 have t1:g .q .neq (FX) ((-1))=decide (¬(FX)=((-1))):=by rw [bj hg];exact dF _ _
 have t2:g .q .eql (k0) (3)=decide ((k0)=(3)):=by rw [bv hg];exact zqn _ _
 have t3:g .q .neq (RT) ((-1))=decide (¬(RT)=((-1))):=by rw [bj hg];exact dF _ _
 have t4:=t4 g hg
 cbv
 by_cases q1:SZ= -1
 case neg=>
  (first|rw [zqu q1]at t0|rw [zqt q1]at t0|rw [zqu (Classical.not_not.2 q1)]at t0|rw [zqt (Classical.not_not.2 q1)]at t0)
  (repeat'((first|rw [t0]|refine ad hg cy ?_|refine aa hg cy ?_|refine ad hg ck ?_|refine aa hg ck ?_|refine ad hg cs ?_|refine aa hg cs ?_);cbv))
  exact aY hF (by rw [hR2,if_pos q1])
 by_cases q2:FX= -1
 case neg=>
  (first|rw [zqu q1]at t0|rw [zqt q1]at t0|rw [zqu (Classical.not_not.2 q1)]at t0|rw [zqt (Classical.not_not.2 q1)]at t0)
  (first|rw [zqu q2]at t1|rw [zqt q2]at t1|rw [zqu (Classical.not_not.2 q2)]at t1|rw [zqt (Classical.not_not.2 q2)]at t1)
  (repeat'((first|rw [t0]|rw [t1]|refine ad hg cy ?_|refine aa hg cy ?_|refine ad hg ck ?_|refine aa hg ck ?_|refine ad hg cs ?_|refine aa hg cs ?_|refine ad hg cf ?_|refine aa hg cf ?_);cbv))
  exact aY hF (by rw [hR2,if_neg (fun x=>x q1),if_pos q2])
 have hR3:R=if k0=3∧¬RT= -1 then RT else SA:=by rw [hR2,if_neg (fun x=>x q1),if_neg (fun x=>x q2)]
 (first|rw [zqu q1]at t0|rw [zqt q1]at t0|rw [zqu (Classical.not_not.2 q1)]at t0|rw [zqt (Classical.not_not.2 q1)]at t0)
 (first|rw [zqu q2]at t1|rw [zqt q2]at t1|rw [zqu (Classical.not_not.2 q2)]at t1|rw [zqt (Classical.not_not.2 q2)]at t1)
 (repeat'((first|rw [t0]|rw [t1]|refine ad hg cy ?_|refine aa hg cy ?_|refine ad hg ck ?_|refine aa hg ck ?_|refine ad hg cs ?_|refine aa hg cs ?_|refine ad hg cf ?_|refine aa hg cf ?_|refine ad hg cX ?_|refine aa hg cX ?_);cbv))
 clear hR2
 have fin:SA=R→(row=true→PC0 132 [.agg [.J i0,.J i1]] (.t (agP ⟨g0,g1⟩))):=fun _ hr=>by rw [hGA2,if_pos hr];exact cL
 by_cases q3:k0=3
 case pos=>
  by_cases q4:RT= -1
  case neg=>
   rw [if_pos ⟨q3,q4⟩]at hR3
   (first|rw [zqu q3]at t2|rw [zqt q3]at t2|rw [zqu (Classical.not_not.2 q3)]at t2|rw [zqt (Classical.not_not.2 q3)]at t2)
   (first|rw [zqu q4]at t3|rw [zqt q4]at t3|rw [zqu (Classical.not_not.2 q4)]at t3|rw [zqt (Classical.not_not.2 q4)]at t3)
   (repeat'((first|rw [t2]|rw [t3]|refine ad hg cr ?_|refine aa hg cr ?_);cbv))
   exact aY hF hR3.symm
  rw [if_neg (fun x=>x.2 q4)]at hR3
  have fin:=fin hR3.symm
  (first|rw [zqu q3]at t2|rw [zqt q3]at t2|rw [zqu (Classical.not_not.2 q3)]at t2|rw [zqt (Classical.not_not.2 q3)]at t2)
  (first|rw [zqu q4]at t3|rw [zqt q4]at t3|rw [zqu (Classical.not_not.2 q4)]at t3|rw [zqt (Classical.not_not.2 q4)]at t3)
  (repeat'((first|rw [t2]|rw [t3]|refine ad hg cr ?_|refine aa hg cr ?_);cbv))
  cases row
  ·rw [if_neg (by decide)]at hGA2
   simp only [aF.mk.injEq]at hGA2
   obtain⟨rfl,rfl⟩:=hGA2
   try cbv
   (repeat'((first|rw [t4]|refine ad hg cZ ?_|refine aa hg cZ ?_|refine ad hg cQ ?_|refine aa hg cQ ?_);cbv))
   exact aY hF hR3.symm
  ·have cL:=fin rfl
   try cbv
   (repeat'((first|rw [t4]|refine ad hg cM ?_|refine aa hg cM ?_|refine ad hg cm ?_|refine aa hg cm ?_|refine ad hg cI ?_|refine aa hg cI ?_|refine ad hg cL ?_|refine aa hg cL ?_|refine ad hg cZ ?_|refine aa hg cZ ?_|refine ad hg cQ ?_|refine aa hg cQ ?_);cbv))
   exact aY hF hR3.symm
 case neg=>
  rw [if_neg (fun x=>q3 x.1)]at hR3
  have fin:=fin hR3.symm
  (first|rw [zqu q3]at t2|rw [zqt q3]at t2|rw [zqu (Classical.not_not.2 q3)]at t2|rw [zqt (Classical.not_not.2 q3)]at t2)
  (repeat'(rw [t2];cbv))
  cases row
  ·rw [if_neg (by decide)]at hGA2
   simp only [aF.mk.injEq]at hGA2
   obtain⟨rfl,rfl⟩:=hGA2
   try cbv
   (repeat'((first|rw [t4]|refine ad hg cZ ?_|refine aa hg cZ ?_|refine ad hg cQ ?_|refine aa hg cQ ?_);cbv))
   exact aY hF hR3.symm
  ·have cL:=fin rfl
   try cbv
   (repeat'((first|rw [t4]|refine ad hg cM ?_|refine aa hg cM ?_|refine ad hg cm ?_|refine aa hg cm ?_|refine ad hg cI ?_|refine aa hg cI ?_|refine ad hg cL ?_|refine aa hg cL ?_|refine ad hg cZ ?_|refine aa hg cZ ?_|refine ad hg cQ ?_|refine aa hg cQ ?_);cbv))
   exact aY hF hR3.symm
theorem oI(ns:List ak)(hl:ns.length≤1048576)(rtl:Bool)(b:Bv)(n:Int)(p:Pl)(hkl:p.kids.length≤1048576)(hk:∀kid∈p.kids,isN ns kid=true)(hbx:∀kid∈p.kids,vt (vwA ak.ac ns) rtl b kid):dg prog 93 [.agg (mc (vwA ak.ac ns) rtl),.agg (plL n p.s p.w p.h p.row p.wide p.high p.al p.ac (.view (vw ao p.kids)))] fun res rows=>res= .o 0∧rows=[⟨121,9,vw aj.c (Bg b p rtl ns p.kids)⟩]:=by
 obtain⟨R,hR⟩:=nmE (Bg b p rtl ns p.kids)
 rw [←hR]
 unfold Bg at hR
 obtain⟨f,hf⟩:∃f,f=fun k=>Es p (kst ns k) rtl (BR b p rtl ns k):=⟨_,rfl⟩
 rw [←hf]at hR
 have hRl:R.length≤1048576:=by rw [hR,zql];exact hkl
 have cB:=fun kid(h:kid∈p.kids) y hy=>qg ns hl kid y (hk kid h) hy rtl b (hbx kid h) n p (vw ao p.kids)
 have hat:∀kid∈p.kids,∃y,ns[(kid-1).toNat]? =some y:=fun kid h=>(bA (hk kid h)).2.2
 have hnd:=fun kid(h:kid∈p.kids) y hy Ky Ry=>cV ns kid y (bA (hk kid h)).1 (by have:=(bA (hk kid h)).2.1;omega) hy (vwA ak.ac ns) Ky Ry rfl
 obtain⟨s0,row,w,h,iw,ih,al,ac,kids⟩:=p
 dsimp only at *
 obtain⟨V,hV⟩:=nmE (vwA ak.ac ns)
 rw [←hV]at cB hnd
 rw [←hV]
 obtain⟨K,hK⟩:=nmE (vw ao kids)
 have hKl:K.length=kids.length:=by rw [hK,af]
 have iK:bQ K=true:=by rw [hK];exact aI _ _
 have kK:∀y∈K,y.length=1:=by rw [hK];exact bL (c:=ao) (k:=1) fun _=>rfl
 have dK:∀y∈K,y.all dat=true:=by rw [hK];exact az
 rw [←hK]at cB
 rw [←hK]
 obtain⟨S,hS⟩:=nmE (vw aj.c R);(try rw [←hS]at⊢)
 obtain⟨am,an⟩:=al
 have ck:=ei am an
 obtain⟨KN,hKN⟩:=nmE (knS ⟨am,an⟩)
 change PC0 _ _ (.t (ai (knS ⟨am,an⟩)))at ck
 rw [←hKN]at ck
 have cM:=jM s0 rtl
 obtain⟨m1,hm1⟩:=nmE (sd1 (jk s0) (kz s0 rtl))
 obtain⟨m2,hm2⟩:=nmE (sd2 (jk s0) (kz s0 rtl))
 rw [←hm1,←hm2]at cM
 have hfv:∀k y,ns[(k-1).toNat]? =some y→f k=⟨BR b ⟨s0,row,w,h,iw,ih,⟨am,an⟩,ac,kids⟩ rtl ns k,zA y.style row KN,Au y.style row KN,y.style.grow,y.style.shrink,og y.style.margin m1 rtl (knS iw),og y.style.margin m2 rtl (knS iw),um y.style.margin m1 rtl,um y.style.margin m2 rtl⟩:=fun k y hy=>by
  rw [hf,hKN,hm1,hm2]
  dsimp only
  rw [il hy]
  rfl
 have cm:=fun k=>fD V rtl n s0 k w h row iw ih ⟨am,an⟩ ac K m1 m2
 clear hf hKN hm1 hm2
 refine ae (aN f93) aB func93 fun g F hg hF=> ?_
 cbv
 (repeat'((first|refine ad hg ck ?_|refine aa hg ck ?_|refine ad hg cM ?_|refine aa hg cM ?_);cbv))
 refine ba hg aB (by kernel_rfl) K (fun x=>lc (ao x)) kids hK hkl (fun z(s:List aj×List (List AC))=>[(2,.p 0),(3,.p 1),(5,.t (ai (KN))),(6,.t (ai (m1))),(7,.t (ai (m2))),(8,.o 2),(25,.v K),(26,.t (ai (g .ln K))),(27,.t (ai (z)))]) (fun z(s:List aj×List (List AC))=>[.bx 95 3 (mc V rtl),.bx 98 75 (plL n s0 w h row iw ih ⟨am,an⟩ ac (.view K)),.rw ⟨121,9,s.2⟩]) (fun z(s:List aj×List (List AC))=>s.2=vw aj.c s.1) (fun(s:List aj×List (List AC)) rest=>s.1++rest.map f) (R) ([],[]) (by rw [hR];rfl) rfl (Wk.weak (wkG [some _,some _,none] ⟨rfl,rfl,rfl,rfl,rfl,rfl,rfl,rfl,rfl,trivial⟩ ⟨wqE rfl rfl,wqE rfl rfl,⟨_,rfl,rfl⟩,trivial⟩ (by decide) aG)) (fun z s B hz h0 hi he=> ?_) (fun z s x rest B z0 z1 z2 hx hy h0 hi hc e1 hB=> ?_)
 ·obtain⟨out,E⟩:=s
  dsimp only at hi h0
  have pE:ah E=true:=by rw [hi];exact ag _ _
  obtain rfl:out=R:=by simpa using h0
  rw [hS,←hi]at hF
  cbv;rw [he];cbv
  exact bR hF rfl pE
 ·obtain⟨out,E⟩:=s
  dsimp only at hi h0
  have hxm:x∈kids:=zqd hx
  obtain⟨y,hyx⟩:=hat x hxm
  have hfx:=hfv x y hyx
  have cB:=cB x hxm y hyx
  have cy:=hnd x hxm y hyx _ _ rfl rfl
  obtain⟨Ky,hKy⟩:=nmE (vw ao y.kids)
  obtain⟨Ry,hRy⟩:=nmE (vw aJ.c y.table.rules)
  rw [←hKy,←hRy]at cy
  have cm:=cm y.style
  have cLe:=iE y.style row KN
  have cMo:=jt y.style row KN
  have cA1:=dB y.style.margin m1 rtl
  have cA2:=dB y.style.margin m2 rtl
  obtain⟨f0,hf0⟩:=nmE (BR b ⟨s0,row,w,h,iw,ih,⟨am,an⟩,ac,kids⟩ rtl ns x)
  rw [←hf0]at cB hfx
  obtain⟨f1,hf1⟩:=nmE (zA y.style row KN);(try rw [←hf1]at cLe);(try rw [←hf1]at hfx)
  obtain⟨f2,hf2⟩:=nmE (Au y.style row KN);(try rw [←hf2]at cMo);(try rw [←hf2]at hfx)
  obtain⟨f5,hf5⟩:=nmE (og y.style.margin m1 rtl (knS iw));(try rw [←hf5]at cm);(try rw [←hf5]at hfx)
  obtain⟨f6,hf6⟩:=nmE (og y.style.margin m2 rtl (knS iw));(try rw [←hf6]at cm);(try rw [←hf6]at hfx)
  obtain⟨f7,hf7⟩:=nmE (um y.style.margin m1 rtl);(try rw [←hf7]at cA1);(try rw [←hf7]at hfx)
  obtain⟨f8,hf8⟩:=nmE (um y.style.margin m2 rtl);(try rw [←hf8]at cA2);(try rw [←hf8]at hfx)
  have hlen:=congrArg List.length h0
  rw [zqe]at hlen
  have hEl:E.length≤1048576:=by rw [hi,af];omega
  have h3:(out++[f x])++rest.map f=R:=by rw [←h0];simp
  have aE:E++[[.J f0,.J f1,.J f2,.J y.style.grow,.J y.style.shrink,.J f5,.J f6,.B f7,.B f8]]=vw aj.c (out++[f x]):=by rw [hi,bz,hfx];rfl
  obtain⟨E2,hE2⟩:∃E2,E2=E++[[.J f0,.J f1,.J f2,.J y.style.grow,.J y.style.shrink,.J f5,.J f6,.B f7,.B f8]]:=⟨_,rfl⟩
  rw [←hE2]at aE
  have pE2:ah E2=true:=by rw [aE];exact ag _ _
  clear hf0 hf1 hf2 hf5 hf6 hf7 hf8 hlen hfx
  cbv;rw [hc];cbv;refine goX hg _ z0 hy rfl ?_;cbv
  (repeat'((first|rw [e1]|refine ad hg cy ?_|refine aa hg cy ?_|refine ad hg cB ?_|refine aa hg cB ?_|refine ad hg cLe ?_|refine aa hg cLe ?_|refine ad hg cMo ?_|refine aa hg cMo ?_|refine ad hg cm ?_|refine aa hg cm ?_|refine ad hg cA1 ?_|refine aa hg cA1 ?_|refine ad hg cA2 ?_|refine aa hg cA2 ?_|refine dp hg rfl (by decide) hEl ?_;cbv;rw [gy hg,←hE2]);cbv))
  exact hB ((out++[f x],E2)) _ _ ⟨h3,aE⟩ (Wk.weak (wkG [some _,some _,some 6] ⟨rfl,rfl,rfl,rfl,rfl,rfl,rfl,rfl,rfl,trivial⟩ ⟨wqE rfl rfl,wqE rfl rfl,wqE rfl pE2,trivial⟩ (by decide) aG))
theorem vA:∀{a b:List Int},b.length=a.length→vw ao a=(a.zip b).map (fun t=>lc (ao t.1))
 | [],b,h=>rfl
 |x::a,[],h=>by simp at h
 |x::a,y::b,h=>by rw [List.zip_cons_cons,zqA,←vA (a:=a) (b:=b) (by simpa using h)];rfl
theorem yE{a b:List Int}{i:Nat}{t:Int×Int}(h:(a.zip b)[i]? =some t):a[i]? =some t.1∧b[i]? =some t.2:=List.getElem?_zip_eq_some.1 h
theorem oH(ns:List ak)(hl:ns.length≤1048576)(rtl:Bool)(b:Bv)(n:Int)(p:Pl)(zs:List Int)(hkl:p.kids.length≤1048576)(hzs:zs.length=p.kids.length)(hk:∀kid∈p.kids,isN ns kid=true)(hbx:∀kid∈p.kids,vt (vwA ak.ac ns) rtl b kid):dg prog 97 [.agg (mc (vwA ak.ac ns) rtl),.agg (plL n p.s p.w p.h p.row p.wide p.high p.al p.ac (.view (vw ao p.kids))),.c (.view (vw ao zs))] fun res rows=>res= .o 0∧rows=[⟨126,7,vw av.c (Cd b p rtl ns (p.kids.zip zs))⟩]:=by
 obtain⟨R,hR⟩:=nmE (Cd b p rtl ns (p.kids.zip zs))
 rw [←hR]
 unfold Cd at hR
 obtain⟨f,hf⟩:∃f,f=fun q:Int×Int=>Fd p (kst ns q.1) rtl (Az b p.row q.1 ⟨3,q.2⟩ (yD p (kst ns q.1) rtl q.2)):=⟨_,rfl⟩
 rw [←hf]at hR
 have hql:(p.kids.zip zs).length≤1048576:=by rw [zqB];omega
 have hRl:R.length≤1048576:=by rw [hR,zql];exact hql
 have hqK:=vA hzs
 have hqa:=fun{i t} h=>yE (a:=p.kids) (b:=zs) (i:=i) (t:=t) h
 have hat:∀kid∈p.kids,∃y,ns[(kid-1).toNat]? =some y:=fun kid h=>(bA (hk kid h)).2.2
 have hnd:=fun kid(h:kid∈p.kids) y hy Ky Ry=>cV ns kid y (bA (hk kid h)).1 (by have:=(bA (hk kid h)).2.1;omega) hy (vwA ak.ac ns) Ky Ry rfl
 obtain⟨s0,row,w,h,iw,ih,al,ac,kids⟩:=p
 dsimp only at *
 have cX:=fun kid(hh:kid∈kids) y hy=>jH ns hl kid y (hk kid hh) hy rtl n s0 w h row iw ih al ac (vw ao kids)
 change∀kid(hh:kid∈kids) y,ns[(kid-1).toNat]? =some y→PC0 _ _ (.t (agP (kcX ⟨s0,row,w,h,iw,ih,al,ac,kids⟩ y.style rtl)))at cX
 obtain⟨V,hV⟩:=nmE (vwA ak.ac ns)
 rw [←hV]at hbx hnd cX
 rw [←hV]
 obtain⟨Z,hZ⟩:=nmE (vw ao zs)
 have hZl:Z.length=zs.length:=by rw [hZ,af]
 have iZ:bQ Z=true:=by rw [hZ];exact aI _ _
 have kZ:∀y∈Z,y.length=1:=by rw [hZ];exact bL (c:=ao) (k:=1) fun _=>rfl
 have dZ:∀y∈Z,y.all dat=true:=by rw [hZ];exact az
 obtain⟨K,hK⟩:=nmE (vw ao kids)
 have hKl:K.length=kids.length:=by rw [hK,af]
 have iK:bQ K=true:=by rw [hK];exact aI _ _
 have kK:∀y∈K,y.length=1:=by rw [hK];exact bL (c:=ao) (k:=1) fun _=>rfl
 have dK:∀y∈K,y.all dat=true:=by rw [hK];exact az
 rw [←hK]at cX hqK
 have hZx:∀{i:Nat}{v:Int},zs[i]? =some v→Z[i]? =some [.J v]:=fun h=>by rw [hZ];exact bh h
 rw [←hK,←hZ]
 obtain⟨S,hS⟩:=nmE (vw av.c R);(try rw [←hS]at⊢)
 obtain⟨am,an⟩:=ac
 have ck:=ei am an
 obtain⟨KN,hKN⟩:=nmE (knS ⟨am,an⟩)
 change PC0 _ _ (.t (ai (knS ⟨am,an⟩)))at ck
 rw [←hKN]at ck
 have cM:=i8 s0 rtl
 obtain⟨m1,hm1⟩:=nmE (sd1 (!jk s0) (k6 s0 rtl))
 obtain⟨m2,hm2⟩:=nmE (sd2 (!jk s0) (k6 s0 rtl))
 rw [←hm1,←hm2]at cM
 have hfv:∀(q:Int×Int) y,ns[(q.1-1).toNat]? =some y→∀kc,kc=kcX ⟨s0,row,w,h,iw,ih,al,⟨am,an⟩,kids⟩ y.style rtl→∀ax,ax=(if kc.mode≠3∧oQ y.style (!row) KN= -1∧qX y.style (!row) q.2≠ -1 then⟨3,jR y.style (!row) KN (qX y.style (!row) q.2)⟩else kc)→∀bb,bb=Az b row q.1 ⟨3,q.2⟩ ax→
   f q=⟨jR y.style (!row) KN (alB (!row) bb),og y.style.margin m1 rtl (knS iw),og y.style.margin m2 rtl (knS iw),um y.style.margin m1 rtl,um y.style.margin m2 rtl,yC s0 y.style,q8 bb.base (jR y.style (!row) KN (alB (!row) bb))⟩:=fun q y hy kc hkc ax hax bb hbb=>by
  rw [hf,hbb,hax,hkc,hKN,hm1,hm2]
  dsimp only
  rw [il hy]
  rfl
 have cm:=fun k=>fD V rtl n s0 k w h row iw ih al ⟨am,an⟩ K m1 m2
 clear hf hKN hm1 hm2
 obtain⟨wide,hwide⟩:=nmE (!row)
 obtain⟨qs,hqs⟩:=nmE (kids.zip zs);(try rw [←hqs]at hqK);(try rw [←hqs]at hqa);(try rw [←hqs]at hql);(try rw [←hqs]at hR)
 refine ae (aN f97) aB func97 fun g F hg hF=> ?_
 cbv
 (repeat'((first|refine ad hg ck ?_|refine aa hg ck ?_|refine ad hg cM ?_|refine aa hg cM ?_);cbv))
 replace hK:=hqK
 refine ba hg aB (by kernel_rfl) K (fun t=>lc (ao t.1)) qs hK hql (fun z(s:List av×List (List AC))=>[(2,.v Z),(3,.p 0),(4,.p 1),(7,.t (ai (KN))),(8,.t (abl ((!row)))),(9,.t (ai (m1))),(10,.t (ai (m2))),(11,.o 2),(34,.v K),(35,.t (ai (g .ln K))),(36,.t (ai (z)))]) (fun z(s:List av×List (List AC))=>[.bx 95 3 (mc V rtl),.bx 98 75 (plL n s0 w h row iw ih al ⟨am,an⟩ (.view K)),.rw ⟨126,7,s.2⟩]) (fun z(s:List av×List (List AC))=>s.2=vw av.c s.1) (fun(s:List av×List (List AC)) rest=>s.1++rest.map f) (R) ([],[]) (by rw [hR];rfl) rfl (Wk.weak (wkG [some _,some _,none] ⟨rfl,rfl,rfl,rfl,rfl,rfl,rfl,rfl,rfl,rfl,rfl,trivial⟩ ⟨wqE rfl rfl,wqE rfl rfl,⟨_,rfl,rfl⟩,trivial⟩ (by decide) aG)) (fun z s B hz h0 hi he=> ?_) (fun z s x rest B z0 z1 z2 hx hy h0 hi hc e1 hB=> ?_)
 ·obtain⟨out,E⟩:=s
  dsimp only at hi h0
  have pE:ah E=true:=by rw [hi];exact ag _ _
  obtain rfl:out=R:=by simpa using h0
  rw [hS,←hi]at hF
  cbv;rw [he];cbv
  exact bR hF rfl pE
 ·obtain⟨out,E⟩:=s
  obtain⟨x0,x1⟩:=x
  dsimp only at hi h0 hy
  have hxa:=hqa hx
  have hxm:x0∈kids:=zqd hxa.1
  have hZz:=hZx hxa.2
  obtain⟨y,hyx⟩:=hat x0 hxm
  have hfx:=hfv (x0,x1) y hyx _ rfl _ rfl _ rfl
  dsimp only at hfx
  have cX:=cX x0 hxm y hyx
  have cy:=hnd x0 hxm y hyx _ _ rfl rfl
  have hbx:=hbx x0 hxm
  obtain⟨Ky,hKy⟩:=nmE (vw ao y.kids)
  obtain⟨Ry,hRy⟩:=nmE (vw aJ.c y.table.rules)
  rw [←hKy,←hRy]at cy
  have cm:=cm y.style
  have cA1:=dB y.style.margin m1 rtl
  have cA2:=dB y.style.margin m2 rtl
  have cAl:=lV s0 y.style
  have cf:=ej y.style (!row) KN
  have cr:=iJ y.style (!row) x1
  have cx1:=eU x1
  obtain⟨⟨k0,k1⟩,hKC⟩:∃q,q=kcX ⟨s0,row,w,h,iw,ih,al,⟨am,an⟩,kids⟩ y.style rtl:=⟨_,rfl⟩
  rw [←hKC]at cX hfx
  dsimp only at hfx
  obtain⟨FX,hFX⟩:=nmE (oQ y.style (!row) KN);(try rw [←hFX]at cf);(try rw [←hFX]at hfx)
  obtain⟨RT,hRT⟩:=nmE (qX y.style (!row) x1);(try rw [←hRT]at cr);(try rw [←hRT]at hfx)
  have cb1:=dd y.style (!row) KN RT
  obtain⟨B1,hB1⟩:=nmE (jR y.style (!row) KN RT);(try rw [←hB1]at cb1);(try rw [←hB1]at hfx)
  have cx2:=eU B1
  obtain⟨⟨j0,j1⟩,hAX⟩:∃q,q=(if k0≠3∧FX= -1∧RT≠ -1 then(⟨3,B1⟩:aF)else⟨k0,k1⟩):=⟨_,rfl⟩
  rw [←hAX]at hfx
  have cZ:=mY V rtl b x0 hbx n s0 w h row iw ih al ⟨am,an⟩ K 3 x1 j0 j1
  obtain⟨bb,hbb⟩:=nmE (Az b row x0 ⟨3,x1⟩ ⟨j0,j1⟩)
  rw [←hbb]at cZ hfx
  have cQ:=jI (!row) bb
  obtain⟨SA,hSA⟩:=nmE (alB (!row) bb);(try rw [←hSA]at cQ);(try rw [←hSA]at hfx)
  have cb2:=dd y.style (!row) KN SA
  obtain⟨f0,hf0⟩:=nmE (jR y.style (!row) KN SA);(try rw [←hf0]at cb2);(try rw [←hf0]at hfx)
  obtain⟨f1,hf1⟩:=nmE (og y.style.margin m1 rtl (knS iw));(try rw [←hf1]at cm);(try rw [←hf1]at hfx)
  obtain⟨f2,hf2⟩:=nmE (og y.style.margin m2 rtl (knS iw));(try rw [←hf2]at cm);(try rw [←hf2]at hfx)
  obtain⟨f3,hf3⟩:=nmE (um y.style.margin m1 rtl);(try rw [←hf3]at cA1);(try rw [←hf3]at hfx)
  obtain⟨f4,hf4⟩:=nmE (um y.style.margin m2 rtl);(try rw [←hf4]at cA2);(try rw [←hf4]at hfx)
  obtain⟨f5,hf5⟩:=nmE (yC s0 y.style);(try rw [←hf5]at cAl);(try rw [←hf5]at hfx)
  have e:jC.ac bb=[.J bb.wide,.J bb.high,.J bb.base,.view (vw aV.c bb.frames)]:=rfl
  rw [e]at cZ cQ
  obtain⟨FR,hFR⟩:=nmE (vw aV.c bb.frames);(try rw [←hFR]at cZ);(try rw [←hFR]at cQ)
  obtain⟨b0,hb0⟩:=nmE bb.wide
  obtain⟨b1,hb1⟩:=nmE bb.high
  obtain⟨b3,hb3⟩:=nmE bb.base
  rw [←hb0,←hb1,←hb3]at cZ cQ
  rw [←hb3]at hfx
  obtain⟨f6,hf6⟩:=nmE (q8 b3 f0)
  rw [←hf6]at hfx
  have tm:g .mn b3 f0=f6:=by rw [Fm hg,hf6];rfl
  have t0:g .q .neq (k0) (3)=decide (¬(k0)=(3)):=by rw [bj hg];exact dF _ _
  have t1:g .q .eql (FX) ((-1))=decide ((FX)=((-1))):=by rw [bv hg];exact zqn _ _
  have t2:g .q .neq (RT) ((-1))=decide (¬(RT)=((-1))):=by rw [bj hg];exact dF _ _
  have hlen:=congrArg List.length h0
  rw [zqe]at hlen
  have hEl:E.length≤1048576:=by rw [hi,af];omega
  have h3:(out++[f (x0,x1)])++rest.map f=R:=by rw [←h0];simp
  have aE:E++[[.J f0,.J f1,.J f2,.B f3,.B f4,.J f5,.J f6]]=vw av.c (out++[f (x0,x1)]):=by rw [hi,bz,hfx];rfl
  obtain⟨E2,hE2⟩:∃E2,E2=E++[[.J f0,.J f1,.J f2,.B f3,.B f4,.J f5,.J f6]]:=⟨_,rfl⟩
  rw [←hE2]at aE
  have pE2:ah E2=true:=by rw [aE];exact ag _ _
  clear hf0 hf1 hf2 hf3 hf4 hf5 hf6 hlen hfx e hb0 hb1 hb3 hFR hSA hbb hFX hRT hB1 hKC hfv
  cbv;rw [hc];cbv;refine goX hg _ z0 hy rfl ?_;cbv
  by_cases q0:k0=3
  case' neg=>
   by_cases q1:FX= -1
   case' pos=>
    by_cases q2:RT= -1
  all_goals
   first
    |rw [if_pos ⟨by assumption,by assumption,by assumption⟩]at hAX
    |rw [if_neg (fun hh=>by first|exact hh.1 (by assumption)|exact absurd hh.2.1 (by assumption)|exact hh.2.2 (by assumption))]at hAX
   simp only [aF.mk.injEq]at hAX
   obtain⟨rfl,rfl⟩:=hAX
   ((first|rw [zqu q0]at t0|rw [zqt q0]at t0|rw [zqu (Classical.not_not.2 q0)]at t0|rw [zqt (Classical.not_not.2 q0)]at t0))
   (try((first|rw [zqu q1]at t1|rw [zqt q1]at t1|rw [zqu (Classical.not_not.2 q1)]at t1|rw [zqt (Classical.not_not.2 q1)]at t1)))
   (try((first|rw [zqu q2]at t2|rw [zqt q2]at t2|rw [zqu (Classical.not_not.2 q2)]at t2|rw [zqt (Classical.not_not.2 q2)]at t2)))
   ((repeat'((first|rw [t0]|rw [t1]|rw [t2]|rw [tm]|rw [e1]|refine ad hg cy ?_|refine aa hg cy ?_|refine ad hg cX ?_|refine aa hg cX ?_|refine ad hg cr ?_|refine aa hg cr ?_|refine ad hg cf ?_|refine aa hg cf ?_|refine ad hg cb1 ?_|refine aa hg cb1 ?_|refine ad hg cx2 ?_|refine aa hg cx2 ?_|refine ad hg cx1 ?_|refine aa hg cx1 ?_|refine ad hg cZ ?_|refine aa hg cZ ?_|refine ad hg cQ ?_|refine aa hg cQ ?_|refine ad hg cb2 ?_|refine aa hg cb2 ?_|refine ad hg cAl ?_|refine aa hg cAl ?_|refine ad hg cm ?_|refine aa hg cm ?_|refine ad hg cA1 ?_|refine aa hg cA1 ?_|refine ad hg cA2 ?_|refine aa hg cA2 ?_|refine goX hg _ z0 hZz rfl ?_|refine dp hg rfl (by decide) hEl ?_;cbv;rw [gy hg,←hE2]);cbv)))
   exact hB ((out++[f (x0,x1)],E2)) _ _ ⟨h3,aE⟩ (Wk.weak (wkG [some _,some _,some 8] ⟨rfl,rfl,rfl,rfl,rfl,rfl,rfl,rfl,rfl,rfl,rfl,trivial⟩ ⟨wqE rfl rfl,wqE rfl rfl,wqE rfl pE2,trivial⟩ (by decide) aG))
section
variable {P : Program} {n0 N : Nat} {g : Gd}
theorem xH{β:BP}(hg:g=G0 P n0 N){h:EH}{n:Nat}{f:FuncId}{args args':List AT}{K:AV→EH→Prop}{a b c:Int}{ab:AB}(hc:dg P f args' fun res rows=>res= .t (.agg [.J a,.J b,.J c,.own 0])∧rows=[ab])(hd:dwA args args')(hp:ah ab.es=true)
  (hK:K (.t (.agg [.J a,.J b,.J c,.own n])) [.rw ab]):g .PC f h n args K:=by
 subst hg
 refine⟨.t (.agg [.J a,.J b,.J c,.own n]),[ab],⟨args',_,hc,.inl ⟨hd,fun res rows hpost=> ?_⟩⟩,[.rw ab],rfl,hK⟩
 obtain⟨rfl,rfl⟩:=hpost
 exact⟨rfl,by simp only [zqA,List.map_nil,gY hp]⟩
end
def BZ(q:jC)(res:AV)(rows:List AB):Prop:=res= .t (.agg [.J q.wide,.J q.high,.J q.base,.own 0])∧rows=[⟨45,5,vw aV.c q.frames⟩]
def CL(V:List (List AC))(rtl:Bool)(b:Bv)(kid:Int):Prop:=∀w0 w1 h0 h1:Int,dg prog 186 [.agg (mc V rtl),ai kid,agP ⟨w0,w1⟩,agP ⟨h0,h1⟩] (BZ (b kid ⟨w0,w1⟩ ⟨h0,h1⟩))
def DK(V:List (List AC))(rtl:Bool)(b:Bv)(kid:Int):Prop:=∀w0 w1 h0 h1:Int,dg prog 100 [.agg (mc V rtl),ai kid,agP ⟨w0,w1⟩,agP ⟨h0,h1⟩] (BZ (b kid ⟨w0,w1⟩ ⟨h0,h1⟩))
theorem wc(V:List (List AC))(rtl:Bool)(b:Bv)(kid:Int)(hla:CL V rtl b kid):DK V rtl b kid:=by
 intro w0 w1 h0 h1
 have cL:=hla w0 w1 h0 h1
 unfold BZ at cL⊢
 obtain⟨bb,hbb⟩:=nmE (b kid ⟨w0,w1⟩ ⟨h0,h1⟩)
 rw [←hbb]at cL⊢
 have pFR:ah (vw aV.c bb.frames)=true:=ag _ _
 obtain⟨FR,hFR⟩:=nmE (vw aV.c bb.frames);(try rw [←hFR]at cL);(try rw [←hFR]at pFR);(try rw [←hFR]at⊢)
 refine mW ([(1,.hand),(3,.hand),(7,.hand),(9,.hand)]) ([]) (c:=aN f100) aB func100 (by kernel_rfl) (by kernel_rfl) (by rfl) (by kernel_rfl) fun g eff hd F heff hhd hg hF=> ?_
 cbv
 refine Bi hg hhd aB 2 (by kernel_rfl) fun mk hmk=> ?_
 cbv
 rw [hmk]
 refine⟨_,_,_,_,_,Tryz.underlying93,rfl,rfl,rfl,rfl,?_⟩
 cbv
 refine ue hg cL rfl pFR ?_
 cbv
 exact tS hF rfl pFR
theorem qh(V:List (List AC))(rtl:Bool)(b:Bv)(kid:Int)(hla:DK V rtl b kid):vt V rtl b kid:=fun w0 w1 h0 h1=>
 zp (hla w0 w1 h0 h1) (bL (c:=aV.c) (k:=5) fun _=>rfl) az
theorem mV(n:Int)(s:aq)(wd hgh:aF)(row:Bool)(iw ih al ac:aF)(K:List (List AC))(xs:List aj)(hl:xs.length≤1048576):PC0 92 [.agg (plL n s wd hgh row iw ih al ac (.view K)),.c (.view (vw aj.c xs))] (.tup [.c (.view (vwA lnA (lns xs (iP s row) (jU al) (!decide (s.wrap=1))))),ai (tak al (lng xs (iP s row) (jU al) (!decide (s.wrap=1)))),.c (.view (vw ao (lsz xs (iP s row) (jU al) (!decide (s.wrap=1)) (tak al (lng xs (iP s row) (jU al) (!decide (s.wrap=1)))))))]):=by
 obtain⟨am,an⟩:=al
 have cG:=ip s row
 have cR:=na am an
 obtain⟨G,hG⟩:=nmE (iP s row);(try rw [←hG]at cG);(try rw [←hG]at⊢)
 obtain⟨M,hM⟩:=nmE (jU ⟨am,an⟩);(try rw [←hM]at cR);(try rw [←hM]at⊢)
 obtain⟨wr,hwr⟩:=nmE ((!decide (s.wrap=1)))
 rw [←hwr]
 have cL:=oM xs G M wr hl
 obtain⟨LG,hLG⟩:=nmE (lng xs G M wr);(try rw [←hLG]at cL);(try rw [←hLG]at⊢)
 have cT:=fj am an LG
 obtain⟨T,hT⟩:=nmE (tak ⟨am,an⟩ LG);(try rw [←hT]at cT);(try rw [←hT]at⊢)
 have cN:=iC xs G M wr hl
 have cS:=oO xs G M wr T hl
 obtain⟨LN,hLN⟩:=nmE (vwA lnA (lns xs G M wr));(try rw [←hLN]at cN);(try rw [←hLN]at⊢)
 obtain⟨Z,hZ⟩:=nmE (vw ao (lsz xs G M wr T));(try rw [←hZ]at cS);(try rw [←hZ]at⊢)
 obtain⟨V,hV⟩:=nmE (vw aj.c xs);(try rw [←hV]at cL);(try rw [←hV]at cN);(try rw [←hV]at cS);(try rw [←hV]at⊢)
 have t0:∀g:Gd,g=G0 prog 0 f92.ntmps→g .q .neq s.wrap 1=wr:=fun g hg=>by rw [bj hg,hwr];exact(dF _ _).trans (by simp)
 clear hwr hLN hZ hV hT hLG hG hM
 refine ae (aN f92) aB func92 fun g F hg hF=> ?_
 have t0:=t0 g hg
 cbv
 (repeat'((first|rw [t0]|refine ad hg cG ?_|refine aa hg cG ?_|refine ad hg cR ?_|refine aa hg cR ?_|refine ad hg cL ?_|refine aa hg cL ?_|refine ad hg cT ?_|refine aa hg cT ?_|refine ad hg cN ?_|refine aa hg cN ?_|refine ad hg cS ?_|refine aa hg cS ?_);cbv))
 exact dI hF rfl ⟨rfl,rfl⟩
theorem kf(n:Int)(s:aq)(row:Bool)(al ac:aF)(kn:Int)(K:List (List AC))(xs:List aj)(hl:xs.length≤1048576):PC0 171 [.agg (nwL n s row al ac kn (.view K)),.c (.view (vw aj.c xs))] (.t (ai (tak al (lng xs (iP s row) (jU al) (!decide (s.wrap=1)))))):=by
 obtain⟨am,an⟩:=al
 have cG:=gq s row
 have cR:=gO am an
 obtain⟨G,hG⟩:=nmE (iP s row);(try rw [←hG]at cG);(try rw [←hG]at⊢)
 obtain⟨M,hM⟩:=nmE (jU ⟨am,an⟩);(try rw [←hM]at cR);(try rw [←hM]at⊢)
 obtain⟨wr,hwr⟩:=nmE ((!decide (s.wrap=1)))
 rw [←hwr]
 have cL:=oz xs G M wr hl
 obtain⟨LG,hLG⟩:=nmE (lng xs G M wr);(try rw [←hLG]at cL);(try rw [←hLG]at⊢)
 have cT:=dJ am an LG
 obtain⟨T,hT⟩:=nmE (tak ⟨am,an⟩ LG);(try rw [←hT]at cT);(try rw [←hT]at⊢)
 obtain⟨V,hV⟩:=nmE (vw aj.c xs);(try rw [←hV]at cL);(try rw [←hV]at⊢)
 have t0:∀g:Gd,g=G0 prog 0 f171.ntmps→g .q .neq s.wrap 1=wr:=fun g hg=>by rw [bj hg,hwr];exact(dF _ _).trans (by simp)
 clear hwr hV hT hLG hG hM
 refine ae (aN f171) aB func171 fun g F hg hF=> ?_
 have t0:=t0 g hg
 cbv
 (repeat'((first|rw [t0]|refine ad hg cG ?_|refine aa hg cG ?_|refine ad hg cR ?_|refine aa hg cR ?_|refine ad hg cL ?_|refine aa hg cL ?_|refine ad hg cT ?_|refine aa hg cT ?_);cbv))
 exact aY hF rfl
theorem o9(n:Int)(s:aq)(row:Bool)(al ac:aF)(kn:Int)(K:List (List AC))(xs:List aj)(hl:xs.length≤1048576):PC0 90 [.agg (nwL n s row al ac kn (.view K)),.c (.view (vw aj.c xs))] (.t (.c (.view (vw ao (lsz xs (iP s row) (jU al) (!decide (s.wrap=1)) (tak al (lng xs (iP s row) (jU al) (!decide (s.wrap=1))))))))):=by
 have cI:=kf n s row al ac kn K xs hl
 obtain⟨T,hT⟩:=nmE (tak al (lng xs (iP s row) (jU al) (!decide (s.wrap=1))));(try rw [←hT]at cI);(try rw [←hT]at⊢)
 obtain⟨am,an⟩:=al
 have cG:=gq s row
 have cR:=gO am an
 obtain⟨G,hG⟩:=nmE (iP s row);(try rw [←hG]at cG);(try rw [←hG]at⊢)
 obtain⟨M,hM⟩:=nmE (jU ⟨am,an⟩);(try rw [←hM]at cR);(try rw [←hM]at⊢)
 obtain⟨wr,hwr⟩:=nmE ((!decide (s.wrap=1)))
 rw [←hwr]
 have cS:=oA xs G M wr T hl
 obtain⟨Z,hZ⟩:=nmE (vw ao (lsz xs G M wr T));(try rw [←hZ]at cS);(try rw [←hZ]at⊢)
 obtain⟨V,hV⟩:=nmE (vw aj.c xs);(try rw [←hV]at cI);(try rw [←hV]at cS);(try rw [←hV]at⊢)
 have t0:∀g:Gd,g=G0 prog 0 f90.ntmps→g .q .neq s.wrap 1=wr:=fun g hg=>by rw [bj hg,hwr];exact(dF _ _).trans (by simp)
 clear hwr hV hZ hT hG hM
 refine ae (aN f90) aB func90 fun g F hg hF=> ?_
 have t0:=t0 g hg
 cbv
 (repeat'((first|rw [t0]|refine ad hg cG ?_|refine aa hg cG ?_|refine ad hg cR ?_|refine aa hg cR ?_|refine ad hg cI ?_|refine aa hg cI ?_|refine ad hg cS ?_|refine aa hg cS ?_);cbv))
 exact dI hF rfl ⟨rfl,rfl⟩
theorem m5{l r:List Int}{m:Int}{n:Nat}(h:l++r=ixs m n):l.length≤n∧l=ixs m l.length∧r=ixs (m+l.length) (n-l.length):=by
 have hlen:=congrArg List.length h
 rw [zqe,bW]at hlen
 have hle:l.length≤n:=by omega
 have e:ixs m n=ixs m l.length++ixs (m+l.length) (n-l.length):=by rw [←jp,show l.length+(n-l.length)=n by omega]
 rw [e]at h
 have:=List.append_inj h (by rw [bW])
 exact⟨hle,this.1,this.2⟩
theorem lp{l:List Int}{ls:List (List Int)}{m:Int}{n:Nat}(h:(l::ls).flatten=ixs m n):l.length≤n∧l=ixs m l.length∧ls.flatten=ixs (m+l.length) (n-l.length):=by
 rw [List.flatten_cons]at h
 exact m5 h
theorem xz(p:Pl)(ns:List ak)(sides:List av)(sizes:List Int):∀(ls:List (List Int×Int)),(z5 p ns sides sizes ls).length=(ls.map (·.1)).flatten.length
 | []=>rfl
 |q::r=>by
  have:=xz p ns sides sizes r
  simp only [z5,List.flatMap_cons,zqe,zql,zqA,List.flatten_cons]at this⊢
  omega
theorem lr(p:Pl)(rtl:Bool)(inner across:Int)(sizes:List Int)(sides:List av)(st c lb:Int)(ps:List Int):∀(ln:List Int)(j:Int),(qA p rtl inner across sizes sides st c lb ps j ln).length=ln.length
 | [],_=>rfl
 |i::r,j=>by simp only [qA,zqx,lr p rtl inner across sizes sides st c lb ps r]
theorem tP(p:Pl)(rtl:Bool)(items:List aj)(inner across:Int)(sizes:List Int)(sides:List av)(sts:List Int):∀(ls:List (List Int×Int))(k:Int),(vx p rtl items inner across sizes sides sts k ls).length=(ls.map (·.1)).flatten.length
 | [],_=>rfl
 |(l,c)::r,k=>by simp only [vx,zqe,lr,zqA,List.flatten_cons,tP p rtl items inner across sizes sides sts r]
theorem AI(cs:List Int)(gap inner ct:Int)(hl:cs.length≤64):(vu cs gap inner ct).length=cs.length:=by
 unfold vu
 split
 ·have hevl:(evn (wrap64 (inner-crt cs gap)) (cs.length:Int)).length=cs.length:=by rw [gH];have:=nq (many:=(cs.length:Int)) (by omega) (by omega);omega
  rw [zql,zqB,hevl];omega
 ·rfl
theorem ub(p:Pl)(ls:List (List Int))(sides:List av)(hl:ls.length≤64):(wt p ls sides).length=ls.length:=by
 unfold wt
 split
 ·rw [AI _ _ _ _ (by rw [zql];exact hl),zql]
 ·rw [zql]
theorem Bf(b:Bv)(p:Pl)(rtl:Bool)(ns:List ak)(ks:List Int):(Bg b p rtl ns ks).length=ks.length:=zql ..
theorem sv(p:Pl)(xs:List aj):(qD p xs).length=xs.length:=v9 ..
theorem AP(b:Bv)(p:Pl)(rtl:Bool)(ns:List ak)(ks:List (Int×Int)):(Cd b p rtl ns ks).length=ks.length:=zql ..
theorem oS{α:Type}{c:α→List AC}:∀{a:List α}{b:List Int},b.length=a.length→vwA c a=(a.zip b).map (fun t=>c t.1)
 | [],b,h=>rfl
 |x::a,[],h=>by simp at h
 |x::a,y::b,h=>by
  have:=oS (c:=c) (a:=a) (b:=b) (by simpa using h)
  simp only [vwA]at this⊢
  rw [List.zip_cons_cons,zqA,zqA,←this]
theorem eY{α:Type}:∀{a:List α}{b:List Int},b.length=a.length→(a.zip b).map (·.1)=a
 | [],b,h=>rfl
 |x::a,[],h=>by simp at h
 |x::a,y::b,h=>by rw [List.zip_cons_cons,zqA,eY (by simpa using h)]
theorem vz{α β:Type}{a:List α}{b:List β}{i:Nat}{t:α×β}(h:(a.zip b)[i]? =some t):a[i]? =some t.1∧b[i]? =some t.2:=List.getElem?_zip_eq_some.1 h
theorem uM{sides:List av}{i:Int}{y:av}(h0:0≤i)(h:sides[i.toNat]? =some y):sdZ sides i=y:=by
 unfold sdZ;rw [if_pos h0,h];rfl
end Go.Proofs.YtdnnffbbhijmkaaGreat
