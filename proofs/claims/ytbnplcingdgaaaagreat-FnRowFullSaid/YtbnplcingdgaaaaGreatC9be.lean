/- Lines zipped with their crosses; a side that is looked up. -/
import Derived.Test.YtbnplcingdgaaaaGreatC9bd
set_option linter.unusedVariables false
set_option linter.unusedSimpArgs false
set_option maxHeartbeats 16000000
namespace Go.Proofs.YtbnplcingdgaaaaGreat
open Go.ChangeShapes Go.WideShapes Go.ChangeAt Go.RowKit Am Go.Proofs.Tryz
set_option maxRecDepth 100000
theorem mV(ns:List af)(hl:ns.length<=1048576)(kid:Int)(y:af)(h1:isN ns kid=true)(hy:ns[(kid-1).toNat]? =some y)(rtl:Bool)(b:Bv)(hbx:uP (vwA af.ac ns) rtl b kid)(n:Int)(p:Pl)(K:LLA):PC0 85 [.agg (jM (vwA af.ac ns) rtl),.agg (plL n p.s p.w p.h p.row p.wide p.high p.al p.ac (.view K)),ai kid] (.i (w9 b p rtl ns kid)):=by
 obtain⟨s,row,w,h,iw,ih,al,ac,kids⟩:=p
 obtain⟨Ky,hx⟩:=nmE (vw aj y.kids)
 obtain⟨Ry,hz⟩:=nmE (vw aQ.c y.table.rules)
 have b2:=aZ h1
 obtain⟨R,hR⟩:=nmE (w9 b ⟨s,row,w,h,iw,ih,al,ac,kids⟩ rtl ns kid)
 rw [<-hR]
 unfold w9 at hR
 rw [mX hy]at hR
 unfold C0 at hR
 dsimp only at hR⊢
 have cX:=gU ns hl kid y h1 hy rtl n s w h row iw ih al ac K
 change PC0 _ _ (.t (agP (kcX ⟨s,row,w,h,iw,ih,al,ac,kids⟩ y.style rtl)))at cX
 obtain⟨V,hV⟩:=nmE (vwA af.ac ns)
 have cy:=bJ ns kid y b2.1 (by have:=b2.2.1;omega) hy V Ky Ry hV hx hz
 rw [<-hV]at hbx cX⊢
 obtain⟨⟨k0,k1⟩,hs⟩:∃q,q=kcX ⟨s,row,w,h,iw,ih,al,ac,kids⟩ y.style rtl:=⟨_,rfl⟩
 rw [<-hs]at cX hR
 obtain⟨⟨g0,g1⟩,hc⟩:∃q,q=DF ⟨s,row,w,h,iw,ih,al,ac,kids⟩ y.style rtl:=⟨_,rfl⟩
 rw [<-hc]at hR
 have cZ:=j9 V rtl b kid hbx n s w h row iw ih al ac K g0 g1 k0 k1
 obtain⟨bb,hw⟩:=nmE (uY b row kid ⟨g0,g1⟩ ⟨k0,k1⟩)
 rw [<-hw]at cZ hR
 have cQ:=gV row bb
 obtain⟨SA,hn⟩:=nmE (alB row bb);(try rw [<-hn]at cQ);(try rw [<-hn]at hR)
 obtain⟨am,an⟩:=al
 have ck:=db am an
 obtain⟨KN,hi⟩:=nmE (knS ⟨am,an⟩);(try rw [<-hi]at ck);(try rw [<-hi]at hR)
 have cs:=cY y.style.basis.kind y.style.basis.n KN
 change PC0 _ _ (.i (vx y.style.basis KN))at cs
 have cf:=eO y.style row KN
 have cr:=fY y.style row k1
 obtain⟨SZ,ho⟩:=nmE (vx y.style.basis KN);(try rw [<-ho]at cs);(try rw [<-ho]at hR)
 obtain⟨FX,hh⟩:=nmE (q8 y.style row KN);(try rw [<-hh]at cf);(try rw [<-hh]at hR)
 obtain⟨RT,hm⟩:=nmE (uR y.style row k1);(try rw [<-hm]at cr);(try rw [<-hm]at hR)
 have e:lQ.ac bb=[.J bb.wide,.J bb.high,.J bb.base,.view (vw aG.c bb.frames)]:=rfl
 rw [e]at cZ cQ
 obtain⟨FR,hf⟩:=nmE (vw aG.c bb.frames);(try rw [<-hf]at cZ);(try rw [<-hf]at cQ)
 obtain⟨b0,ht⟩:=nmE bb.wide
 obtain⟨b1,hu⟩:=nmE bb.high
 obtain⟨b3,hv⟩:=nmE bb.base
 rw [<-ht,<-hu,<-hv]at cZ cQ
 clear ht hu hv e hw hn ho hh hm hi hs
 have cM:=gY s rtl
 obtain⟨m1,hp⟩:=nmE (sd1 (kO s) (j8 s rtl))
 obtain⟨m2,hq⟩:=nmE (sd2 (kO s) (j8 s rtl))
 rw [<-hp,<-hq]at cM
 have cm:=dS V rtl n s y.style w h row iw ih ⟨am,an⟩ ac K m1 m2
 simp only [DF,t9,sdB,sdM,if_true]at hc
 rw [<-hp,<-hq]at hc
 obtain⟨M1,hj⟩:=nmE (ow y.style.margin m1 rtl (knS iw))
 obtain⟨M2,hk⟩:=nmE (ow y.style.margin m2 rtl (knS iw))
 rw [<-hj,<-hk]at cm
 have ha:(⟨g0,g1⟩:aI)=if row=true then Bw (uT ⟨am,an⟩ (wrap64 (M1+M2)))else⟨1,0⟩:=by rw [hc,hj,hk]
 clear hc hj hk hp hq
 obtain⟨BB,he⟩:=nmE (wrap64 (M1+M2))
 rw [<-he]at ha
 have cI:=eN am an BB
 obtain⟨⟨i0,i1⟩,hI⟩:∃q,q=uT ⟨am,an⟩ BB:=⟨_,rfl⟩
 rw [<-hI]at cI ha
 have cL:=iI i0 i1
 have t4:∀g:Gd,g=G0 prog 0 f85.ntmps->g .w .add .i64 M1 M2=BB:=fun g hg=>by rw [aJ hg,he]
 clear hI he hf
 have hd:R=if¬SZ= -1 then SZ else if¬FX= -1 then FX else if k0=3/\¬RT= -1 then RT else SA:=by
  rw [hR]
  by_cases q1:SZ= -1<;>by_cases q2:FX= -1<;>by_cases q3:k0=3<;>by_cases q4:RT= -1<;>simp [q1,q2,q3,q4]
 clear hR
 refine ae (aP f85) aC func85 fun g F hg hF=> ?_
 have t0:g .q .neq (SZ) ((-1))=decide (¬(SZ)=((-1))):=by rw [dF hg];exact iQ _ _
 have t1:g .q .neq (FX) ((-1))=decide (¬(FX)=((-1))):=by rw [dF hg];exact iQ _ _
 have t2:g .q .eql (k0) (3)=decide ((k0)=(3)):=by rw [bB hg];exact zqn _ _
 have t3:g .q .neq (RT) ((-1))=decide (¬(RT)=((-1))):=by rw [dF hg];exact iQ _ _
 have t4:=t4 g hg
 cbv
 by_cases q1:SZ= -1
 case neg=>
  (first|rw [zqu q1]at t0|rw [zqt q1]at t0|rw [zqu (Classical.not_not.2 q1)]at t0|rw [zqt (Classical.not_not.2 q1)]at t0)
  (repeat'((first|rw [t0]|refine ad hg cy ?_|refine aa hg cy ?_|refine ad hg ck ?_|refine aa hg ck ?_|refine ad hg cs ?_|refine aa hg cs ?_);cbv))
  exact bk hF (by rw [hd,if_pos q1])
 by_cases q2:FX= -1
 case neg=>
  (first|rw [zqu q1]at t0|rw [zqt q1]at t0|rw [zqu (Classical.not_not.2 q1)]at t0|rw [zqt (Classical.not_not.2 q1)]at t0)
  (first|rw [zqu q2]at t1|rw [zqt q2]at t1|rw [zqu (Classical.not_not.2 q2)]at t1|rw [zqt (Classical.not_not.2 q2)]at t1)
  (repeat'((first|rw [t0]|rw [t1]|refine ad hg cy ?_|refine aa hg cy ?_|refine ad hg ck ?_|refine aa hg ck ?_|refine ad hg cs ?_|refine aa hg cs ?_|refine ad hg cf ?_|refine aa hg cf ?_);cbv))
  exact bk hF (by rw [hd,if_neg (fun x=>x q1),if_pos q2])
 have hb:R=if k0=3/\¬RT= -1 then RT else SA:=by rw [hd,if_neg (fun x=>x q1),if_neg (fun x=>x q2)]
 (first|rw [zqu q1]at t0|rw [zqt q1]at t0|rw [zqu (Classical.not_not.2 q1)]at t0|rw [zqt (Classical.not_not.2 q1)]at t0)
 (first|rw [zqu q2]at t1|rw [zqt q2]at t1|rw [zqu (Classical.not_not.2 q2)]at t1|rw [zqt (Classical.not_not.2 q2)]at t1)
 (repeat'((first|rw [t0]|rw [t1]|refine ad hg cy ?_|refine aa hg cy ?_|refine ad hg ck ?_|refine aa hg ck ?_|refine ad hg cs ?_|refine aa hg cs ?_|refine ad hg cf ?_|refine aa hg cf ?_|refine ad hg cX ?_|refine aa hg cX ?_);cbv))
 clear hd
 have fin:SA=R->(row=true->PC0 121 [.agg [.J i0,.J i1]] (.t (agP ⟨g0,g1⟩))):=fun _ hr=>by rw [ha,if_pos hr];exact cL
 by_cases q3:k0=3
 case pos=>
  by_cases q4:RT= -1
  case neg=>
   rw [if_pos ⟨q3,q4⟩]at hb
   (first|rw [zqu q3]at t2|rw [zqt q3]at t2|rw [zqu (Classical.not_not.2 q3)]at t2|rw [zqt (Classical.not_not.2 q3)]at t2)
   (first|rw [zqu q4]at t3|rw [zqt q4]at t3|rw [zqu (Classical.not_not.2 q4)]at t3|rw [zqt (Classical.not_not.2 q4)]at t3)
   (repeat'((first|rw [t2]|rw [t3]|refine ad hg cr ?_|refine aa hg cr ?_);cbv))
   exact bk hF hb.symm
  rw [if_neg (fun x=>x.2 q4)]at hb
  have fin:=fin hb.symm
  (first|rw [zqu q3]at t2|rw [zqt q3]at t2|rw [zqu (Classical.not_not.2 q3)]at t2|rw [zqt (Classical.not_not.2 q3)]at t2)
  (first|rw [zqu q4]at t3|rw [zqt q4]at t3|rw [zqu (Classical.not_not.2 q4)]at t3|rw [zqt (Classical.not_not.2 q4)]at t3)
  (repeat'((first|rw [t2]|rw [t3]|refine ad hg cr ?_|refine aa hg cr ?_);cbv))
  cases row
  ·rw [if_neg (by decide)]at ha
   simp only [aI.mk.injEq]at ha
   obtain⟨rfl,rfl⟩:=ha
   try cbv
   (repeat'((first|rw [t4]|refine ad hg cZ ?_|refine aa hg cZ ?_|refine ad hg cQ ?_|refine aa hg cQ ?_);cbv))
   exact bk hF hb.symm
  ·have cL:=fin rfl
   try cbv
   (repeat'((first|rw [t4]|refine ad hg cM ?_|refine aa hg cM ?_|refine ad hg cm ?_|refine aa hg cm ?_|refine ad hg cI ?_|refine aa hg cI ?_|refine ad hg cL ?_|refine aa hg cL ?_|refine ad hg cZ ?_|refine aa hg cZ ?_|refine ad hg cQ ?_|refine aa hg cQ ?_);cbv))
   exact bk hF hb.symm
 case neg=>
  rw [if_neg (fun x=>q3 x.1)]at hb
  have fin:=fin hb.symm
  (first|rw [zqu q3]at t2|rw [zqt q3]at t2|rw [zqu (Classical.not_not.2 q3)]at t2|rw [zqt (Classical.not_not.2 q3)]at t2)
  (repeat'(rw [t2];cbv))
  cases row
  ·rw [if_neg (by decide)]at ha
   simp only [aI.mk.injEq]at ha
   obtain⟨rfl,rfl⟩:=ha
   try cbv
   (repeat'((first|rw [t4]|refine ad hg cZ ?_|refine aa hg cZ ?_|refine ad hg cQ ?_|refine aa hg cQ ?_);cbv))
   exact bk hF hb.symm
  ·have cL:=fin rfl
   try cbv
   (repeat'((first|rw [t4]|refine ad hg cM ?_|refine aa hg cM ?_|refine ad hg cm ?_|refine aa hg cm ?_|refine ad hg cI ?_|refine aa hg cI ?_|refine ad hg cL ?_|refine aa hg cL ?_|refine ad hg cZ ?_|refine aa hg cZ ?_|refine ad hg cQ ?_|refine aa hg cQ ?_);cbv))
   exact bk hF hb.symm
theorem lI(ns:List af)(hl:ns.length<=1048576)(rtl:Bool)(b:Bv)(n:Int)(p:Pl)(hkl:p.kids.length<=1048576)(hk:∀kid∈p.kids,isN ns kid=true)(hbx:∀kid∈p.kids,uP (vwA af.ac ns) rtl b kid):du prog 50 [.agg (jM (vwA af.ac ns) rtl),.agg (plL n p.s p.w p.h p.row p.wide p.high p.al p.ac (.view (vw aj p.kids)))] fun res hD=>res= .o 0/\hD=[⟨140,9,vw ag.c (uu b p rtl ns p.kids)⟩]:=by
 obtain⟨R,hR⟩:=nmE (uu b p rtl ns p.kids)
 rw [<-hR]
 unfold uu at hR
 obtain⟨f,hf⟩:∃f,f=fun k=>Cr p (kst ns k) rtl (w9 b p rtl ns k):=⟨_,rfl⟩
 rw [<-hf]at hR
 have hQ:R.length<=1048576:=by rw [hR,zql];exact hkl
 have cB:=fun kid(h:kid∈p.kids) y hy=>mV ns hl kid y (hk kid h) hy rtl b (hbx kid h) n p (vw aj p.kids)
 have hM:∀kid∈p.kids,∃y,ns[(kid-1).toNat]? =some y:=fun kid h=>(aZ (hk kid h)).2.2
 have hH:=fun kid(h:kid∈p.kids) y hy Ky Ry=>bJ ns kid y (aZ (hk kid h)).1 (by have:=(aZ (hk kid h)).2.1;omega) hy (vwA af.ac ns) Ky Ry rfl
 obtain⟨s0,row,w,h,iw,ih,al,ac,kids⟩:=p
 dsimp only at *
 obtain⟨V,hV⟩:=nmE (vwA af.ac ns)
 rw [<-hV]at cB hH
 rw [<-hV]
 obtain⟨K,hK⟩:=nmE (vw aj kids)
 have hP:=lmV hK
 have iK:=imV hK
 have kK:=kmV (k:=1) hK fun _=>rfl
 have dK:=dmV hK
 rw [<-hK]at cB
 rw [<-hK]
 obtain⟨S,hS⟩:=nmE (vw ag.c R);(try rw [<-hS]at⊢)
 obtain⟨am,an⟩:=al
 have ck:=db am an
 obtain⟨KN,ho⟩:=nmE (knS ⟨am,an⟩)
 change PC0 _ _ (.i (knS ⟨am,an⟩))at ck
 rw [<-ho]at ck
 have cM:=gY s0 rtl
 obtain⟨m1,hv⟩:=nmE (sd1 (kO s0) (j8 s0 rtl))
 obtain⟨m2,hw⟩:=nmE (sd2 (kO s0) (j8 s0 rtl))
 rw [<-hv,<-hw]at cM
 have hN:∀k y,ns[(k-1).toNat]? =some y->f k=⟨w9 b ⟨s0,row,w,h,iw,ih,⟨am,an⟩,ac,kids⟩ rtl ns k,Aj y.style row KN,Bu y.style row KN,y.style.grow,y.style.shrink,ow y.style.margin m1 rtl (knS iw),ow y.style.margin m2 rtl (knS iw),tS y.style.margin m1 rtl,tS y.style.margin m2 rtl⟩:=fun k y hy=>by
  rw [hf,ho,hv,hw]
  dsimp only
  rw [mX hy]
  rfl
 have cm:=fun k=>dS V rtl n s0 k w h row iw ih ⟨am,an⟩ ac K m1 m2
 clear hf ho hv hw
 refine ae (aP f50) aC func50 fun g F hg hF=> ?_
 cbv
 (repeat'((first|refine ad hg ck ?_|refine aa hg ck ?_|refine ad hg cM ?_|refine aa hg cM ?_);cbv))
 refine bi hg aC (by kernel_rfl) K (fun x=>lc (aj x)) kids hK hkl (fun z(s:List ag×LLA)=>[(2,.p 0),(3,.p 1),(5,.i (KN)),(6,.i (m1)),(7,.i (m2)),(8,.o 2),(25,.v K),(26,.i (g .ln K)),(27,.i (z))]) (fun z(s:List ag×LLA)=>[.bx 70 3 (jM V rtl),.bx 98 75 (plL n s0 w h row iw ih ⟨am,an⟩ ac (.view K)),.rw ⟨140,9,s.2⟩]) (fun z(s:List ag×LLA)=>s.2=vw ag.c s.1) (fun(s:List ag×LLA) rest=>s.1++rest.map f) (R) ([],[]) (by rw [hR];rfl) rfl (Wk.weak (wkG [some _,some _,none] ⟨rfl,rfl,rfl,rfl,rfl,rfl,rfl,rfl,rfl,trivial⟩ ⟨wqE rfl rfl,wqE rfl rfl,⟨_,rfl,rfl⟩,trivial⟩ (by decide) aq)) (fun z s B hz h0 hi he=> ?_) (fun z s x rest B z0 z1 z2 hx hy h0 hi hc e1 hB=> ?_)
 ·obtain⟨hd,E⟩:=s
  dsimp only at hi h0
  have pE:=pmV hi
  obtain rfl:hd=R:=by simpa using h0
  rw [hS,<-hi]at hF
  cbv;rw [he];cbv
  exact eb hF rfl pE
 ·obtain⟨hd,E⟩:=s
  dsimp only at hi h0
  have hA:x∈kids:=zqd hx
  obtain⟨y,hC⟩:=hM x hA
  have ha:=hN x y hC
  have cB:=cB x hA y hC
  have cy:=hH x hA y hC _ _ rfl rfl
  obtain⟨Ky,hJ⟩:=nmE (vw aj y.kids)
  obtain⟨Ry,hL⟩:=nmE (vw aQ.c y.table.rules)
  rw [<-hJ,<-hL]at cy
  have cm:=cm y.style
  have hm:=fW y.style row KN
  have hn:=gH y.style row KN
  have hh:=bZ y.style.margin m1 rtl
  have hj:=bZ y.style.margin m2 rtl
  obtain⟨f0,hG⟩:=nmE (w9 b ⟨s0,row,w,h,iw,ih,⟨am,an⟩,ac,kids⟩ rtl ns x)
  rw [<-hG]at cB ha
  obtain⟨f1,hp⟩:=nmE (Aj y.style row KN);(try rw [<-hp]at hm);(try rw [<-hp]at ha)
  obtain⟨f2,hq⟩:=nmE (Bu y.style row KN);(try rw [<-hq]at hn);(try rw [<-hq]at ha)
  obtain⟨f5,hr⟩:=nmE (ow y.style.margin m1 rtl (knS iw));(try rw [<-hr]at cm);(try rw [<-hr]at ha)
  obtain⟨f6,hs⟩:=nmE (ow y.style.margin m2 rtl (knS iw));(try rw [<-hs]at cm);(try rw [<-hs]at ha)
  obtain⟨f7,ht⟩:=nmE (tS y.style.margin m1 rtl);(try rw [<-ht]at hh);(try rw [<-ht]at ha)
  obtain⟨f8,hu⟩:=nmE (tS y.style.margin m2 rtl);(try rw [<-hu]at hj);(try rw [<-hu]at ha)
  have hb:=congrArg List.length h0
  rw [zqe]at hb
  have hI:E.length<=1048576:=by rw [hi,ak];omega
  have h3:(hd++[f x])++rest.map f=R:=by rw [<-h0];simp
  have aE:E++[[.J f0,.J f1,.J f2,.J y.style.grow,.J y.style.shrink,.J f5,.J f6,.B f7,.B f8]]=vw ag.c (hd++[f x]):=by rw [hi,dv,ha];rfl
  obtain⟨E2,hE⟩:∃E2,E2=E++[[.J f0,.J f1,.J f2,.J y.style.grow,.J y.style.shrink,.J f5,.J f6,.B f7,.B f8]]:=⟨_,rfl⟩
  rw [<-hE]at aE
  have hO:=pmV aE
  clear hG hp hq hr hs ht hu hb ha
  cbv;rw [hc];cbv;refine goX hg _ z0 hy rfl ?_;cbv
  (repeat'((first|rw [e1]|refine ad hg cy ?_|refine aa hg cy ?_|refine ad hg cB ?_|refine aa hg cB ?_|refine ad hg hm ?_|refine aa hg hm ?_|refine ad hg hn ?_|refine aa hg hn ?_|refine ad hg cm ?_|refine aa hg cm ?_|refine ad hg hh ?_|refine aa hg hh ?_|refine ad hg hj ?_|refine aa hg hj ?_|refine fH hg rfl (by decide) hI ?_;cbv;rw [jt hg,<-hE]);cbv))
  exact hB ((hd++[f x],E2)) _ _ ⟨h3,aE⟩ (Wk.weak (wkG [some _,some _,some 6] ⟨rfl,rfl,rfl,rfl,rfl,rfl,rfl,rfl,rfl,trivial⟩ ⟨wqE rfl rfl,wqE rfl rfl,wqE rfl hO,trivial⟩ (by decide) aq))
theorem u0:∀{a b:List Int},b.length=a.length->vw aj a=(a.zip b).map (fun t=>lc (aj t.1))
 | [],b,h=>rfl
 |x::a,[],h=>by simp at h
 |x::a,y::b,h=>by rw [List.zip_cons_cons,zqA,<-u0 (a:=a) (b:=b) (by simpa using h)];rfl
theorem BI{a b:List Int}{i:Nat}{t:Int×Int}(h:(a.zip b)[i]? =some t):a[i]? =some t.1/\b[i]? =some t.2:=List.getElem?_zip_eq_some.1 h
theorem lG(ns:List af)(hl:ns.length<=1048576)(rtl:Bool)(b:Bv)(n:Int)(p:Pl)(zs:List Int)(hkl:p.kids.length<=1048576)(hzs:zs.length=p.kids.length)(hk:∀kid∈p.kids,isN ns kid=true)(hn:∀kid∈p.kids,uP (vwA af.ac ns) rtl b kid):du prog 52 [.agg (jM (vwA af.ac ns) rtl),.agg (plL n p.s p.w p.h p.row p.wide p.high p.al p.ac (.view (vw aj p.kids))),.c (.view (vw aj zs))] fun res hX=>res= .o 0/\hX=[⟨117,7,vw ao.c (rE b p rtl ns (p.kids.zip zs))⟩]:=by
 obtain⟨R,hR⟩:=nmE (rE b p rtl ns (p.kids.zip zs))
 rw [<-hR]
 unfold rE at hR
 obtain⟨f,hf⟩:∃f,f=fun q:Int×Int=>Br p (kst ns q.1) rtl (uY b p.row q.1 ⟨3,q.2⟩ (Bi p (kst ns q.1) rtl q.2)):=⟨_,rfl⟩
 rw [<-hf]at hR
 have hU:(p.kids.zip zs).length<=1048576:=by rw [zqB];omega
 have xn:R.length<=1048576:=by rw [hR,zql];exact hU
 have hT:=u0 hzs
 have h9:=fun{i t} h=>BI (a:=p.kids) (b:=zs) (i:=i) (t:=t) h
 have xh:∀kid∈p.kids,∃y,ns[(kid-1).toNat]? =some y:=fun kid h=>(aZ (hk kid h)).2.2
 have h8:=fun kid(h:kid∈p.kids) y hy Ky Ry=>bJ ns kid y (aZ (hk kid h)).1 (by have:=(aZ (hk kid h)).2.1;omega) hy (vwA af.ac ns) Ky Ry rfl
 obtain⟨s0,row,w,h,iw,ih,al,ac,kids⟩:=p
 dsimp only at *
 have cX:=fun kid(hh:kid∈kids) y hy=>gU ns hl kid y (hk kid hh) hy rtl n s0 w h row iw ih al ac (vw aj kids)
 change∀kid(hh:kid∈kids) y,ns[(kid-1).toNat]? =some y->PC0 _ _ (.t (agP (kcX ⟨s0,row,w,h,iw,ih,al,ac,kids⟩ y.style rtl)))at cX
 obtain⟨V,hV⟩:=nmE (vwA af.ac ns)
 rw [<-hV]at hn h8 cX
 rw [<-hV]
 obtain⟨Z,hZ⟩:=nmE (vw aj zs)
 have xo:=lmV hZ
 have iZ:=imV hZ
 have kZ:=kmV (k:=1) hZ fun _=>rfl
 have dZ:=dmV hZ
 obtain⟨K,hK⟩:=nmE (vw aj kids)
 have xm:=lmV hK
 have iK:=imV hK
 have kK:=kmV (k:=1) hK fun _=>rfl
 have dK:=dmV hK
 rw [<-hK]at cX hT
 have xf:∀{i:Nat}{v:Int},zs[i]? =some v->Z[i]? =some [.J v]:=fun h=>by rw [hZ];exact bu h
 rw [<-hK,<-hZ]
 obtain⟨S,hS⟩:=nmE (vw ao.c R);(try rw [<-hS]at⊢)
 obtain⟨am,an⟩:=ac
 have ck:=db am an
 obtain⟨KN,hC⟩:=nmE (knS ⟨am,an⟩)
 change PC0 _ _ (.i (knS ⟨am,an⟩))at ck
 rw [<-hC]at ck
 have cM:=gf s0 rtl
 obtain⟨m1,hP⟩:=nmE (sd1 (!kO s0) (kx s0 rtl))
 obtain⟨m2,hQ⟩:=nmE (sd2 (!kO s0) (kx s0 rtl))
 rw [<-hP,<-hQ]at cM
 have h7:∀(q:Int×Int) y,ns[(q.1-1).toNat]? =some y->∀kc,kc=kcX ⟨s0,row,w,h,iw,ih,al,⟨am,an⟩,kids⟩ y.style rtl->∀ax,ax=(if kc.mode≠3/\q8 y.style (!row) KN= -1/\uR y.style (!row) q.2≠ -1 then⟨3,nD y.style (!row) KN (uR y.style (!row) q.2)⟩else kc)->∀bb,bb=uY b row q.1 ⟨3,q.2⟩ ax->
   f q=⟨nD y.style (!row) KN (alB (!row) bb),ow y.style.margin m1 rtl (knS iw),ow y.style.margin m2 rtl (knS iw),tS y.style.margin m1 rtl,tS y.style.margin m2 rtl,xk s0 y.style,rP bb.base (nD y.style (!row) KN (alB (!row) bb))⟩:=fun q y hy kc xj ax xi bb hm=>by
  rw [hf,hm,xi,xj,hC,hP,hQ]
  dsimp only
  rw [mX hy]
  rfl
 have cm:=fun k=>dS V rtl n s0 k w h row iw ih al ⟨am,an⟩ K m1 m2
 clear hf hC hP hQ
 obtain⟨wide,xa⟩:=nmE (!row)
 obtain⟨qs,ho⟩:=nmE (kids.zip zs);(try rw [<-ho]at hT);(try rw [<-ho]at h9);(try rw [<-ho]at hU);(try rw [<-ho]at hR)
 refine ae (aP f52) aC func52 fun g F hg hF=> ?_
 cbv
 (repeat'((first|refine ad hg ck ?_|refine aa hg ck ?_|refine ad hg cM ?_|refine aa hg cM ?_);cbv))
 replace hK:=hT
 refine bi hg aC (by kernel_rfl) K (fun t=>lc (aj t.1)) qs hK hU (fun z(s:List ao×LLA)=>[(2,.v Z),(3,.p 0),(4,.p 1),(7,.i (KN)),(8,.t (abl ((!row)))),(9,.i (m1)),(10,.i (m2)),(11,.o 2),(34,.v K),(35,.i (g .ln K)),(36,.i (z))]) (fun z(s:List ao×LLA)=>[.bx 70 3 (jM V rtl),.bx 98 75 (plL n s0 w h row iw ih al ⟨am,an⟩ (.view K)),.rw ⟨117,7,s.2⟩]) (fun z(s:List ao×LLA)=>s.2=vw ao.c s.1) (fun(s:List ao×LLA) rest=>s.1++rest.map f) (R) ([],[]) (by rw [hR];rfl) rfl (Wk.weak (wkG [some _,some _,none] zI ⟨wqE rfl rfl,wqE rfl rfl,⟨_,rfl,rfl⟩,trivial⟩ (by decide) aq)) (fun z s B hz h0 hi he=> ?_) (fun z s x rest B z0 z1 z2 hx hy h0 hi hc e1 hB=> ?_)
 ·obtain⟨hj,E⟩:=s
  dsimp only at hi h0
  have pE:=pmV hi
  obtain rfl:hj=R:=by simpa using h0
  rw [hS,<-hi]at hF
  cbv;rw [he];cbv
  exact eb hF rfl pE
 ·obtain⟨hj,E⟩:=s
  obtain⟨x0,x1⟩:=x
  dsimp only at hi h0 hy
  have xb:=h9 hx
  have hp:x0∈kids:=zqd xb.1
  have xg:=xf xb.2
  obtain⟨y,hW⟩:=xh x0 hp
  have ha:=h7 (x0,x1) y hW _ rfl _ rfl _ rfl
  dsimp only at ha
  have cX:=cX x0 hp y hW
  have cy:=h8 x0 hp y hW _ _ rfl rfl
  have hn:=hn x0 hp
  obtain⟨Ky,xd⟩:=nmE (vw aj y.kids)
  obtain⟨Ry,xe⟩:=nmE (vw aQ.c y.table.rules)
  rw [<-xd,<-xe]at cy
  have cm:=cm y.style
  have hq:=bZ y.style.margin m1 rtl
  have hr:=bZ y.style.margin m2 rtl
  have hs:=jr s0 y.style
  have cf:=eO y.style (!row) KN
  have cr:=fY y.style (!row) x1
  have hY:=fU x1
  obtain⟨⟨k0,k1⟩,h4⟩:∃q,q=kcX ⟨s0,row,w,h,iw,ih,al,⟨am,an⟩,kids⟩ y.style rtl:=⟨_,rfl⟩
  rw [<-h4]at cX ha
  dsimp only at ha
  obtain⟨FX,hA⟩:=nmE (q8 y.style (!row) KN);(try rw [<-hA]at cf);(try rw [<-hA]at ha)
  obtain⟨RT,hD⟩:=nmE (uR y.style (!row) x1);(try rw [<-hD]at cr);(try rw [<-hD]at ha)
  have ht:=eU y.style (!row) KN RT
  obtain⟨B1,hv⟩:=nmE (nD y.style (!row) KN RT);(try rw [<-hv]at ht);(try rw [<-hv]at ha)
  have h1:=fU B1
  obtain⟨⟨j0,j1⟩,hb⟩:∃q,q=(if k0≠3/\FX= -1/\RT≠ -1 then(⟨3,B1⟩:aI)else⟨k0,k1⟩):=⟨_,rfl⟩
  rw [<-hb]at ha
  have cZ:=j9 V rtl b x0 hn n s0 w h row iw ih al ⟨am,an⟩ K 3 x1 j0 j1
  obtain⟨bb,hm⟩:=nmE (uY b row x0 ⟨3,x1⟩ ⟨j0,j1⟩)
  rw [<-hm]at cZ ha
  have cQ:=gV (!row) bb
  obtain⟨SA,hE⟩:=nmE (alB (!row) bb);(try rw [<-hE]at cQ);(try rw [<-hE]at ha)
  have hu:=eU y.style (!row) KN SA
  obtain⟨f0,hH⟩:=nmE (nD y.style (!row) KN SA);(try rw [<-hH]at hu);(try rw [<-hH]at ha)
  obtain⟨f1,hI⟩:=nmE (ow y.style.margin m1 rtl (knS iw));(try rw [<-hI]at cm);(try rw [<-hI]at ha)
  obtain⟨f2,hJ⟩:=nmE (ow y.style.margin m2 rtl (knS iw));(try rw [<-hJ]at cm);(try rw [<-hJ]at ha)
  obtain⟨f3,hL⟩:=nmE (tS y.style.margin m1 rtl);(try rw [<-hL]at hq);(try rw [<-hL]at ha)
  obtain⟨f4,hM⟩:=nmE (tS y.style.margin m2 rtl);(try rw [<-hM]at hr);(try rw [<-hM]at ha)
  obtain⟨f5,hN⟩:=nmE (xk s0 y.style);(try rw [<-hN]at hs);(try rw [<-hN]at ha)
  have e:lQ.ac bb=[.J bb.wide,.J bb.high,.J bb.base,.view (vw aG.c bb.frames)]:=rfl
  rw [e]at cZ cQ
  obtain⟨FR,hw⟩:=nmE (vw aG.c bb.frames);(try rw [<-hw]at cZ);(try rw [<-hw]at cQ)
  obtain⟨b0,h5⟩:=nmE bb.wide
  obtain⟨b1,h6⟩:=nmE bb.high
  obtain⟨b3,hG⟩:=nmE bb.base
  rw [<-h5,<-h6,<-hG]at cZ cQ
  rw [<-hG]at ha
  obtain⟨f6,hO⟩:=nmE (rP b3 f0)
  rw [<-hO]at ha
  have tm:g .mn b3 f0=f6:=by rw [Di hg,hO];rfl
  have t0:g .q .neq (k0) (3)=decide (¬(k0)=(3)):=by rw [dF hg];exact iQ _ _
  have t1:g .q .eql (FX) ((-1))=decide ((FX)=((-1))):=by rw [bB hg];exact zqn _ _
  have t2:g .q .neq (RT) ((-1))=decide (¬(RT)=((-1))):=by rw [dF hg];exact iQ _ _
  have hd:=congrArg List.length h0
  rw [zqe]at hd
  have xc:E.length<=1048576:=by rw [hi,ak];omega
  have h3:(hj++[f (x0,x1)])++rest.map f=R:=by rw [<-h0];simp
  have aE:E++[[.J f0,.J f1,.J f2,.B f3,.B f4,.J f5,.J f6]]=vw ao.c (hj++[f (x0,x1)]):=by rw [hi,dv,ha];rfl
  obtain⟨E2,h2⟩:∃E2,E2=E++[[.J f0,.J f1,.J f2,.B f3,.B f4,.J f5,.J f6]]:=⟨_,rfl⟩
  rw [<-h2]at aE
  have xl:=pmV aE
  clear hH hI hJ hL hM hN hO hd ha e h5 h6 hG hw hE hm hA hD hv h4 h7
  cbv;rw [hc];cbv;refine goX hg _ z0 hy rfl ?_;cbv
  by_cases q0:k0=3
  case' neg=>
   by_cases q1:FX= -1
   case' pos=>
    by_cases q2:RT= -1
  all_goals
   first
    |rw [if_pos ⟨by assumption,by assumption,by assumption⟩]at hb
    |rw [if_neg (fun hh=>by first|exact hh.1 (by assumption)|exact absurd hh.2.1 (by assumption)|exact hh.2.2 (by assumption))]at hb
   simp only [aI.mk.injEq]at hb
   obtain⟨rfl,rfl⟩:=hb
   ((first|rw [zqu q0]at t0|rw [zqt q0]at t0|rw [zqu (Classical.not_not.2 q0)]at t0|rw [zqt (Classical.not_not.2 q0)]at t0))
   (try((first|rw [zqu q1]at t1|rw [zqt q1]at t1|rw [zqu (Classical.not_not.2 q1)]at t1|rw [zqt (Classical.not_not.2 q1)]at t1)))
   (try((first|rw [zqu q2]at t2|rw [zqt q2]at t2|rw [zqu (Classical.not_not.2 q2)]at t2|rw [zqt (Classical.not_not.2 q2)]at t2)))
   ((repeat'((first|rw [t0]|rw [t1]|rw [t2]|rw [tm]|rw [e1]|refine ad hg cy ?_|refine aa hg cy ?_|refine ad hg cX ?_|refine aa hg cX ?_|refine ad hg cr ?_|refine aa hg cr ?_|refine ad hg cf ?_|refine aa hg cf ?_|refine ad hg ht ?_|refine aa hg ht ?_|refine ad hg h1 ?_|refine aa hg h1 ?_|refine ad hg hY ?_|refine aa hg hY ?_|refine ad hg cZ ?_|refine aa hg cZ ?_|refine ad hg cQ ?_|refine aa hg cQ ?_|refine ad hg hu ?_|refine aa hg hu ?_|refine ad hg hs ?_|refine aa hg hs ?_|refine ad hg cm ?_|refine aa hg cm ?_|refine ad hg hq ?_|refine aa hg hq ?_|refine ad hg hr ?_|refine aa hg hr ?_|refine goX hg _ z0 xg rfl ?_|refine fH hg rfl (by decide) xc ?_;cbv;rw [jt hg,<-h2]);cbv)))
   exact hB ((hj++[f (x0,x1)],E2)) _ _ ⟨h3,aE⟩ (Wk.weak (wkG [some _,some _,some 8] zI ⟨wqE rfl rfl,wqE rfl rfl,wqE rfl xl,trivial⟩ (by decide) aq))
section
variable {P:Program}{n0 N:Nat}{g:Gd}
theorem tP{β:BP}(hg:g=G0 P n0 N){h:EH}{n:Nat}{f:FuncId}{args args':List AT}{K:AV->EH->Prop}{a b c:Int}{ab:AB}(hc:du P f args' fun res hb=>res= .t (.agg [.J a,.J b,.J c,.own 0])/\hb=[ab])(hd:dwA args args')(hp:aN ab.es=true)
  (hK:K (.t (.agg [.J a,.J b,.J c,.own n])) [.rw ab]):g .PC f h n args K:=by
 subst hg
 refine⟨.t (.agg [.J a,.J b,.J c,.own n]),[ab],⟨args',_,hc,.inl ⟨hd,fun res hb ha=> ?_⟩⟩,[.rw ab],rfl,hK⟩
 obtain⟨rfl,rfl⟩:=ha
 exact⟨rfl,by simp only [zqA,List.map_nil,fF hp]⟩
end
def su(q:lQ)(res:AV)(rows:List AB):Prop:=res= .t (.agg [.J q.wide,.J q.high,.J q.base,.own 0])/\rows=[⟨50,5,vw aG.c q.frames⟩]
def zH(V:LLA)(rtl:Bool)(b:Bv)(kid:Int):Prop:=∀w0 w1 h0 h1:Int,du prog 37 [.agg (jM V rtl),ai kid,agP ⟨w0,w1⟩,agP ⟨h0,h1⟩] (su (b kid ⟨w0,w1⟩ ⟨h0,h1⟩))
def Bo(V:LLA)(rtl:Bool)(b:Bv)(kid:Int):Prop:=∀w0 w1 h0 h1:Int,du prog 26 [.agg (jM V rtl),ai kid,agP ⟨w0,w1⟩,agP ⟨h0,h1⟩] (su (b kid ⟨w0,w1⟩ ⟨h0,h1⟩))
theorem rQ(V:LLA)(rtl:Bool)(b:Bv)(kid:Int)(hla:zH V rtl b kid):Bo V rtl b kid:=by
 intro w0 w1 h0 h1
 have cL:=hla w0 w1 h0 h1
 unfold su at cL⊢
 obtain⟨bb,hc⟩:=nmE (b kid ⟨w0,w1⟩ ⟨h0,h1⟩)
 rw [<-hc]at cL⊢
 have hb:aN (vw aG.c bb.frames)=true:=aF _ _
 obtain⟨FR,ha⟩:=nmE (vw aG.c bb.frames);(try rw [<-ha]at cL);(try rw [<-ha]at hb);(try rw [<-ha]at⊢)
 refine jY ([(1,.hand),(3,.hand),(7,.hand),(9,.hand)]) ([]) (c:=aP f26) aC func26 (by kernel_rfl) (by kernel_rfl) (by rfl) (by kernel_rfl) fun g hi hd F he hf hg hF=> ?_
 cbv
 refine yk hg hf aC 2 (by kernel_rfl) fun mk hh=> ?_
 cbv
 rw [hh]
 refine⟨_,_,_,_,_,Tryz.underlying68,rfl,rfl,rfl,rfl,?_⟩
 cbv
 refine mc hg cL rfl hb ?_
 cbv
 exact ni hF rfl hb
theorem rR(V:LLA)(rtl:Bool)(b:Bv)(kid:Int)(hla:Bo V rtl b kid):uP V rtl b kid:=fun w0 w1 h0 h1=>
 qH (hla w0 w1 h0 h1) (yP (c:=aG.c) (k:=5) fun _=>rfl) qm
theorem jX(n:Int)(s:ah)(wd hgh:aI)(row:Bool)(iw ih al ac:aI)(K:LLA)(xs:List ag)(hl:xs.length<=1048576):PC0 51 [.agg (plL n s wd hgh row iw ih al ac (.view K)),.c (.view (vw ag.c xs))] (.tup [.c (.view (vwA lnA (lns xs (nC s row) (nB al) (!decide (s.wrap=1))))),ai (tak al (lng xs (nC s row) (nB al) (!decide (s.wrap=1)))),.c (.view (vw aj (lsz xs (nC s row) (nB al) (!decide (s.wrap=1)) (tak al (lng xs (nC s row) (nB al) (!decide (s.wrap=1)))))))]):=by
 obtain⟨am,an⟩:=al
 have cG:=fP s row
 have cR:=ki am an
 obtain⟨G,hG⟩:=nmE (nC s row);(try rw [<-hG]at cG);(try rw [<-hG]at⊢)
 obtain⟨M,hM⟩:=nmE (nB ⟨am,an⟩);(try rw [<-hM]at cR);(try rw [<-hM]at⊢)
 obtain⟨wr,hc⟩:=nmE ((!decide (s.wrap=1)))
 rw [<-hc]
 have cL:=lN xs G M wr hl
 obtain⟨LG,ha⟩:=nmE (lng xs G M wr);(try rw [<-ha]at cL);(try rw [<-ha]at⊢)
 have cT:=dL am an LG
 obtain⟨T,hT⟩:=nmE (tak ⟨am,an⟩ LG);(try rw [<-hT]at cT);(try rw [<-hT]at⊢)
 have cN:=fV xs G M wr hl
 have cS:=lO xs G M wr T hl
 obtain⟨LN,hb⟩:=nmE (vwA lnA (lns xs G M wr));(try rw [<-hb]at cN);(try rw [<-hb]at⊢)
 obtain⟨Z,hZ⟩:=nmE (vw aj (lsz xs G M wr T));(try rw [<-hZ]at cS);(try rw [<-hZ]at⊢)
 obtain⟨V,hV⟩:=nmE (vw ag.c xs);(try rw [<-hV]at cL);(try rw [<-hV]at cN);(try rw [<-hV]at cS);(try rw [<-hV]at⊢)
 have t0:∀g:Gd,g=G0 prog 0 f51.ntmps->g .q .neq s.wrap 1=wr:=fun g hg=>by rw [dF hg,hc];exact(iQ _ _).trans (by simp)
 clear hc hb hZ hV hT ha hG hM
 refine ae (aP f51) aC func51 fun g F hg hF=> ?_
 have t0:=t0 g hg
 cbv
 (repeat'((first|rw [t0]|refine ad hg cG ?_|refine aa hg cG ?_|refine ad hg cR ?_|refine aa hg cR ?_|refine ad hg cL ?_|refine aa hg cL ?_|refine ad hg cT ?_|refine aa hg cT ?_|refine ad hg cN ?_|refine aa hg cN ?_|refine ad hg cS ?_|refine aa hg cS ?_);cbv))
 exact ql hF rfl ⟨rfl,rfl⟩
theorem mY{l r:List Int}{m:Int}{n:Nat}(h:l++r=ixs m n):l.length<=n/\l=ixs m l.length/\r=ixs (m+l.length) (n-l.length):=by
 have ha:=congrArg List.length h
 rw [zqe,dl]at ha
 have hb:l.length<=n:=by omega
 have e:ixs m n=ixs m l.length++ixs (m+l.length) (n-l.length):=by rw [<-jB,show l.length+(n-l.length)=n by omega]
 rw [e]at h
 have:=List.append_inj h (by rw [dl])
 exact⟨hb,this.1,this.2⟩
theorem ox{l:List Int}{ls:List (List Int)}{m:Int}{n:Nat}(h:(l::ls).flatten=ixs m n):l.length<=n/\l=ixs m l.length/\ls.flatten=ixs (m+l.length) (n-l.length):=by
 rw [List.flatten_cons]at h
 exact mY h
theorem tC(p:Pl)(ns:List af)(sides:List ao)(sizes:List Int):∀(ls:List (List Int×Int)),(rq p ns sides sizes ls).length=(ls.map (·.1)).flatten.length
 | []=>rfl
 |q::r=>by
  have:=tC p ns sides sizes r
  simp only [rq,List.flatMap_cons,zqe,zql,zqA,List.flatten_cons]at this⊢
  omega
theorem l7(p:Pl)(rtl:Bool)(inner across:Int)(sizes:List Int)(sides:List ao)(st c lb:Int)(ps:List Int):∀(ln:List Int)(j:Int),(ro p rtl inner across sizes sides st c lb ps j ln).length=ln.length
 | [],_=>rfl
 |i::r,j=>by simp only [ro,zqx,l7 p rtl inner across sizes sides st c lb ps r]
theorem pQ(p:Pl)(rtl:Bool)(items:List ag)(inner across:Int)(sizes:List Int)(sides:List ao)(sts:List Int):∀(ls:List (List Int×Int))(k:Int),(ux p rtl items inner across sizes sides sts k ls).length=(ls.map (·.1)).flatten.length
 | [],_=>rfl
 |(l,c)::r,k=>by simp only [ux,zqe,l7,zqA,List.flatten_cons,pQ p rtl items inner across sizes sides sts r]
theorem xE(cs:List Int)(gap inner ct:Int)(hl:cs.length<=64):(xF cs gap inner ct).length=cs.length:=by
 unfold xF
 split
 ·have ha:(evn (wrap64 (inner-crt cs gap)) (cs.length:Int)).length=cs.length:=by rw [jH];have:=oD (many:=(cs.length:Int)) (by omega) (by omega);omega
  rw [zql,zqB,ha];omega
 ·rfl
theorem tJ(p:Pl)(ls:List (List Int))(sides:List ao)(hl:ls.length<=64):(uW p ls sides).length=ls.length:=by
 unfold uW
 split
 ·rw [xE _ _ _ _ (by rw [zql];exact hl),zql]
 ·rw [zql]
theorem yg(b:Bv)(p:Pl)(rtl:Bool)(ns:List af)(ks:List Int):(uu b p rtl ns ks).length=ks.length:=zql ..
theorem xB(p:Pl)(xs:List ag):(mj p xs).length=xs.length:=wm ..
theorem xN(b:Bv)(p:Pl)(rtl:Bool)(ns:List af)(ks:List (Int×Int)):(rE b p rtl ns ks).length=ks.length:=zql ..
theorem oO{α:Type}{c:α->List AC}:∀{a:List α}{b:List Int},b.length=a.length->vwA c a=(a.zip b).map (fun t=>c t.1)
 | [],b,h=>rfl
 |x::a,[],h=>by simp at h
 |x::a,y::b,h=>by
  have:=oO (c:=c) (a:=a) (b:=b) (by simpa using h)
  simp only [vwA]at this⊢
  rw [List.zip_cons_cons,zqA,zqA,<-this]
theorem fC{α:Type}:∀{a:List α}{b:List Int},b.length=a.length->(a.zip b).map (·.1)=a
 | [],b,h=>rfl
 |x::a,[],h=>by simp at h
 |x::a,y::b,h=>by rw [List.zip_cons_cons,zqA,fC (by simpa using h)]
theorem uZ{α β:Type}{a:List α}{b:List β}{i:Nat}{t:α×β}(h:(a.zip b)[i]? =some t):a[i]? =some t.1/\b[i]? =some t.2:=List.getElem?_zip_eq_some.1 h
theorem vG{sides:List ao}{i:Int}{y:ao}(h0:0<=i)(h:sides[i.toNat]? =some y):sdZ sides i=y:=by
 unfold sdZ;rw [if_pos h0,h];rfl
end Go.Proofs.YtbnplcingdgaaaaGreat
