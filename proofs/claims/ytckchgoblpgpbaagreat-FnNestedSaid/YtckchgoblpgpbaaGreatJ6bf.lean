/- Lines zipped with their crosses; a side that is looked up. -/
import Derived.Test.YtckchgoblpgpbaaGreatJ6be
set_option linter.unusedVariables false
set_option linter.unusedSimpArgs false
set_option maxHeartbeats 16000000
namespace Go.Proofs.YtckchgoblpgpbaaGreat
open Go.ChangeShapes Go.WideShapes Go.ChangeAt Go.RowKit Am Go.Proofs.Tryz
set_option maxRecDepth 100000
theorem m6(ns:List af)(hl:ns.length<=1048576)(kid:Int)(y:af)(h1:isN ns kid=true)(hy:ns[(kid-1).toNat]? =some y)(rtl:Bool)(b:Bv)(hbx:nM (vwA af.ac ns) rtl b kid)(n:Int)(p:Pl)(K:LLA):PC0 233 [.agg (gz (vwA af.ac ns) rtl),.agg (plL n p.s p.w p.h p.row p.wide p.high p.al p.ac (.view K)),ai kid] (.i (Bn b p rtl ns kid)):=by
 obtain⟨s,row,w,h,iw,ih,al,ac,kids⟩:=p
 obtain⟨Ky,hx⟩:=nmE (vw ak y.kids)
 obtain⟨Ry,hz⟩:=nmE (vw aK.c y.table.rules)
 have b2:=aI h1
 obtain⟨R,hR⟩:=nmE (Bn b ⟨s,row,w,h,iw,ih,al,ac,kids⟩ rtl ns kid)
 rw [<-hR]
 unfold Bn at hR
 rw [gR hy]at hR
 unfold DS at hR
 dsimp only at hR⊢
 have cX:=gQ ns hl kid y h1 hy rtl n s w h row iw ih al ac K
 change PC0 _ _ (.t (agP (kcX ⟨s,row,w,h,iw,ih,al,ac,kids⟩ y.style rtl)))at cX
 obtain⟨V,hV⟩:=nmE (vwA af.ac ns)
 have cy:=aR ns kid y b2.1 (by have:=b2.2.1;omega) hy V Ky Ry hV hx hz
 rw [<-hV]at hbx cX⊢
 obtain⟨⟨k0,k1⟩,hs⟩:∃q,q=kcX ⟨s,row,w,h,iw,ih,al,ac,kids⟩ y.style rtl:=⟨_,rfl⟩
 rw [<-hs]at cX hR
 obtain⟨⟨g0,g1⟩,hc⟩:∃q,q=DT ⟨s,row,w,h,iw,ih,al,ac,kids⟩ y.style rtl:=⟨_,rfl⟩
 rw [<-hc]at hR
 have cZ:=kh V rtl b kid hbx n s w h row iw ih al ac K g0 g1 k0 k1
 obtain⟨bb,hw⟩:=nmE (zK b row kid ⟨g0,g1⟩ ⟨k0,k1⟩)
 rw [<-hw]at cZ hR
 have cQ:=gU row bb
 obtain⟨SA,hn⟩:=nmE (alB row bb);(try rw [<-hn]at cQ);(try rw [<-hn]at hR)
 obtain⟨am,an⟩:=al
 have ck:=dp am an
 obtain⟨KN,hi⟩:=nmE (knS ⟨am,an⟩);(try rw [<-hi]at ck);(try rw [<-hi]at hR)
 have cs:=di y.style.basis.kind y.style.basis.n KN
 change PC0 _ _ (.i (xo y.style.basis KN))at cs
 have cf:=bL y.style row KN
 have cr:=ff y.style row k1
 obtain⟨SZ,ho⟩:=nmE (xo y.style.basis KN);(try rw [<-ho]at cs);(try rw [<-ho]at hR)
 obtain⟨FX,hh⟩:=nmE (rz y.style row KN);(try rw [<-hh]at cf);(try rw [<-hh]at hR)
 obtain⟨RT,hm⟩:=nmE (s9 y.style row k1);(try rw [<-hm]at cr);(try rw [<-hm]at hR)
 have e:lw.ac bb=[.J bb.wide,.J bb.high,.J bb.base,.view (vw ag.c bb.frames)]:=rfl
 rw [e]at cZ cQ
 obtain⟨FR,hf⟩:=nmE (vw ag.c bb.frames);(try rw [<-hf]at cZ);(try rw [<-hf]at cQ)
 obtain⟨b0,ht⟩:=nmE bb.wide
 obtain⟨b1,hu⟩:=nmE bb.high
 obtain⟨b3,hv⟩:=nmE bb.base
 rw [<-ht,<-hu,<-hv]at cZ cQ
 clear ht hu hv e hw hn ho hh hm hi hs
 have cM:=gY s rtl
 obtain⟨m1,hp⟩:=nmE (sd1 (kR s) (lK s rtl))
 obtain⟨m2,hq⟩:=nmE (sd2 (kR s) (lK s rtl))
 rw [<-hp,<-hq]at cM
 have cm:=ef V rtl n s y.style w h row iw ih ⟨am,an⟩ ac K m1 m2
 simp only [DT,vW,sdB,sdM,if_true]at hc
 rw [<-hp,<-hq]at hc
 obtain⟨M1,hj⟩:=nmE (ir y.style.margin m1 rtl (knS iw))
 obtain⟨M2,hk⟩:=nmE (ir y.style.margin m2 rtl (knS iw))
 rw [<-hj,<-hk]at cm
 have ha:(⟨g0,g1⟩:aG)=if row=true then BE (uJ ⟨am,an⟩ (wrap64 (M1+M2)))else⟨1,0⟩:=by rw [hc,hj,hk]
 clear hc hj hk hp hq
 obtain⟨BB,he⟩:=nmE (wrap64 (M1+M2))
 rw [<-he]at ha
 have cI:=dq am an BB
 obtain⟨⟨i0,i1⟩,hI⟩:∃q,q=uJ ⟨am,an⟩ BB:=⟨_,rfl⟩
 rw [<-hI]at cI ha
 have cL:=iI i0 i1
 have t4:∀g:Gd,g=G0 prog 0 f233.ntmps->g .w .add .i64 M1 M2=BB:=fun g hg=>by rw [aJ hg,he]
 clear hI he hf
 have hd:R=if¬SZ= -1 then SZ else if¬FX= -1 then FX else if k0=3/\¬RT= -1 then RT else SA:=by
  rw [hR]
  by_cases q1:SZ= -1<;>by_cases q2:FX= -1<;>by_cases q3:k0=3<;>by_cases q4:RT= -1<;>simp [q1,q2,q3,q4]
 clear hR
 refine ae (aM f233) aB func233 fun g F hg hF=> ?_
 have t0:g .q .neq (SZ) ((-1))=decide (¬(SZ)=((-1))):=by rw [d5 hg];exact iR _ _
 have t1:g .q .neq (FX) ((-1))=decide (¬(FX)=((-1))):=by rw [d5 hg];exact iR _ _
 have t2:g .q .eql (k0) (3)=decide ((k0)=(3)):=by rw [bA hg];exact zqn _ _
 have t3:g .q .neq (RT) ((-1))=decide (¬(RT)=((-1))):=by rw [d5 hg];exact iR _ _
 have t4:=t4 g hg
 cbv
 by_cases q1:SZ= -1
 case neg=>
  (first|rw [zqu q1]at t0|rw [zqt q1]at t0|rw [zqu (Classical.not_not.2 q1)]at t0|rw [zqt (Classical.not_not.2 q1)]at t0)
  (repeat'((first|rw [t0]|refine ad hg cy ?_|refine ad hg ck ?_|refine ad hg cs ?_);cbv))
  exact bj hF (by rw [hd,if_pos q1])
 by_cases q2:FX= -1
 case neg=>
  (first|rw [zqu q1]at t0|rw [zqt q1]at t0|rw [zqu (Classical.not_not.2 q1)]at t0|rw [zqt (Classical.not_not.2 q1)]at t0)
  (first|rw [zqu q2]at t1|rw [zqt q2]at t1|rw [zqu (Classical.not_not.2 q2)]at t1|rw [zqt (Classical.not_not.2 q2)]at t1)
  (repeat'((first|rw [t0]|rw [t1]|refine ad hg cy ?_|refine ad hg ck ?_|refine ad hg cs ?_|refine ad hg cf ?_);cbv))
  exact bj hF (by rw [hd,if_neg (fun x=>x q1),if_pos q2])
 have hb:R=if k0=3/\¬RT= -1 then RT else SA:=by rw [hd,if_neg (fun x=>x q1),if_neg (fun x=>x q2)]
 (first|rw [zqu q1]at t0|rw [zqt q1]at t0|rw [zqu (Classical.not_not.2 q1)]at t0|rw [zqt (Classical.not_not.2 q1)]at t0)
 (first|rw [zqu q2]at t1|rw [zqt q2]at t1|rw [zqu (Classical.not_not.2 q2)]at t1|rw [zqt (Classical.not_not.2 q2)]at t1)
 (repeat'((first|rw [t0]|rw [t1]|refine ad hg cy ?_|refine ad hg ck ?_|refine ad hg cs ?_|refine ad hg cf ?_|refine ad hg cX ?_);cbv))
 clear hd
 have fin:SA=R->(row=true->PC0 283 [.agg [.J i0,.J i1]] (.t (agP ⟨g0,g1⟩))):=fun _ hr=>by rw [ha,if_pos hr];exact cL
 by_cases q3:k0=3
 case pos=>
  by_cases q4:RT= -1
  case neg=>
   rw [if_pos ⟨q3,q4⟩]at hb
   (first|rw [zqu q3]at t2|rw [zqt q3]at t2|rw [zqu (Classical.not_not.2 q3)]at t2|rw [zqt (Classical.not_not.2 q3)]at t2)
   (first|rw [zqu q4]at t3|rw [zqt q4]at t3|rw [zqu (Classical.not_not.2 q4)]at t3|rw [zqt (Classical.not_not.2 q4)]at t3)
   (repeat'((first|rw [t2]|rw [t3]|refine ad hg cr ?_);cbv))
   exact bj hF hb.symm
  rw [if_neg (fun x=>x.2 q4)]at hb
  have fin:=fin hb.symm
  (first|rw [zqu q3]at t2|rw [zqt q3]at t2|rw [zqu (Classical.not_not.2 q3)]at t2|rw [zqt (Classical.not_not.2 q3)]at t2)
  (first|rw [zqu q4]at t3|rw [zqt q4]at t3|rw [zqu (Classical.not_not.2 q4)]at t3|rw [zqt (Classical.not_not.2 q4)]at t3)
  (repeat'((first|rw [t2]|rw [t3]|refine ad hg cr ?_);cbv))
  cases row
  ·rw [if_neg (by decide)]at ha
   simp only [aG.mk.injEq]at ha
   obtain⟨rfl,rfl⟩:=ha
   try cbv
   (repeat'((first|refine aa hg cZ ?_|refine aa hg cQ ?_);cbv))
   exact bj hF hb.symm
  ·have cL:=fin rfl
   try cbv
   (repeat'((first|rw [t4]|refine ad hg cM ?_|refine ad hg cm ?_|refine ad hg cI ?_|refine ad hg cL ?_|refine aa hg cZ ?_|refine aa hg cQ ?_);cbv))
   exact bj hF hb.symm
 case neg=>
  rw [if_neg (fun x=>q3 x.1)]at hb
  have fin:=fin hb.symm
  (first|rw [zqu q3]at t2|rw [zqt q3]at t2|rw [zqu (Classical.not_not.2 q3)]at t2|rw [zqt (Classical.not_not.2 q3)]at t2)
  (repeat'(rw [t2];cbv))
  cases row
  ·rw [if_neg (by decide)]at ha
   simp only [aG.mk.injEq]at ha
   obtain⟨rfl,rfl⟩:=ha
   try cbv
   (repeat'((first|refine aa hg cZ ?_|refine aa hg cQ ?_);cbv))
   exact bj hF hb.symm
  ·have cL:=fin rfl
   try cbv
   (repeat'((first|rw [t4]|refine ad hg cM ?_|refine ad hg cm ?_|refine ad hg cI ?_|refine ad hg cL ?_|refine aa hg cZ ?_|refine aa hg cQ ?_);cbv))
   exact bj hF hb.symm
theorem lO(ns:List af)(hl:ns.length<=1048576)(rtl:Bool)(b:Bv)(n:Int)(p:Pl)(hkl:p.kids.length<=1048576)(hk:∀kid∈p.kids,isN ns kid=true)(hbx:∀kid∈p.kids,nM (vwA af.ac ns) rtl b kid):cj prog 173 [.agg (gz (vwA af.ac ns) rtl),.agg (plL n p.s p.w p.h p.row p.wide p.high p.al p.ac (.view (vw ak p.kids)))] fun res hD=>res= .o 0/\hD=[⟨237,9,vw aj.c (zi b p rtl ns p.kids)⟩]:=by
 obtain⟨R,hR⟩:=nmE (zi b p rtl ns p.kids)
 rw [<-hR]
 unfold zi at hR
 obtain⟨f,hf⟩:∃f,f=fun k=>D6 p (kst ns k) rtl (Bn b p rtl ns k):=⟨_,rfl⟩
 rw [<-hf]at hR
 have hQ:R.length<=1048576:=by rw [hR,zql];exact hkl
 have cB:=fun kid(h:kid∈p.kids) y hy=>m6 ns hl kid y (hk kid h) hy rtl b (hbx kid h) n p (vw ak p.kids)
 have hM:∀kid∈p.kids,∃y,ns[(kid-1).toNat]? =some y:=fun kid h=>(aI (hk kid h)).2.2
 have hH:=fun kid(h:kid∈p.kids) y hy Ky Ry=>aR ns kid y (aI (hk kid h)).1 (by have:=(aI (hk kid h)).2.1;omega) hy (vwA af.ac ns) Ky Ry rfl
 obtain⟨s0,row,w,h,iw,ih,al,ac,kids⟩:=p
 dsimp only at *
 obtain⟨V,hV⟩:=nmE (vwA af.ac ns)
 rw [<-hV]at cB hH
 rw [<-hV]
 obtain⟨K,hK⟩:=nmE (vw ak kids)
 have hP:=lmV hK
 have iK:=imV hK
 have kK:=kmV (k:=1) hK fun _=>rfl
 have dK:=dmV hK
 rw [<-hK]at cB
 rw [<-hK]
 obtain⟨S,hS⟩:=nmE (vw aj.c R);(try rw [<-hS]at⊢)
 obtain⟨am,an⟩:=al
 have ck:=dp am an
 obtain⟨KN,ho⟩:=nmE (knS ⟨am,an⟩)
 change PC0 _ _ (.i (knS ⟨am,an⟩))at ck
 rw [<-ho]at ck
 have cM:=gY s0 rtl
 obtain⟨m1,hv⟩:=nmE (sd1 (kR s0) (lK s0 rtl))
 obtain⟨m2,hw⟩:=nmE (sd2 (kR s0) (lK s0 rtl))
 rw [<-hv,<-hw]at cM
 have hN:∀k y,ns[(k-1).toNat]? =some y->f k=⟨Bn b ⟨s0,row,w,h,iw,ih,⟨am,an⟩,ac,kids⟩ rtl ns k,BD y.style row KN,Cr y.style row KN,y.style.grow,y.style.shrink,ir y.style.margin m1 rtl (knS iw),ir y.style.margin m2 rtl (knS iw),ua y.style.margin m1 rtl,ua y.style.margin m2 rtl⟩:=fun k y hy=>by
  rw [hf,ho,hv,hw]
  dsimp only
  rw [gR hy]
  rfl
 have cm:=fun k=>ef V rtl n s0 k w h row iw ih ⟨am,an⟩ ac K m1 m2
 clear hf ho hv hw
 refine ae (aM f173) aB func173 fun g F hg hF=> ?_
 cbv
 (repeat'((first|refine ad hg ck ?_|refine ad hg cM ?_);cbv))
 refine aU hg aB (by kernel_rfl) K (fun x=>lc (ak x)) kids hK hkl (fun z(s:List aj×LLA)=>[(2,.p 0),(3,.p 1),(5,.i (KN)),(6,.i (m1)),(7,.i (m2)),(8,.o 2),(25,.v K),(26,.i (g .ln K)),(27,.i (z))]) (fun z(s:List aj×LLA)=>[.bx 76 3 (gz V rtl),.bx 196 75 (plL n s0 w h row iw ih ⟨am,an⟩ ac (.view K)),.rw ⟨237,9,s.2⟩]) (fun z(s:List aj×LLA)=>s.2=vw aj.c s.1) (fun(s:List aj×LLA) rest=>s.1++rest.map f) (R) ([],[]) (by rw [hR];rfl) rfl (Wk.weak (wkG [some _,some _,none] zr9 ⟨wqE rfl rfl,wqE rfl rfl,⟨_,rfl,rfl⟩,trivial⟩ (by decide) aw)) (fun z s B hz h0 hi he=> ?_) (fun z s x rest B z0 z1 z2 hx hy h0 hi hc e1 hB=> ?_)
 ·obtain⟨hd,E⟩:=s
  dsimp only at hi h0
  have pE:=pmV hi
  obtain rfl:hd=R:=by simpa using h0
  rw [hS,<-hi]at hF
  cbv;rw [he];cbv
  exact db hF rfl pE
 ·obtain⟨hd,E⟩:=s
  dsimp only at hi h0
  have hA:x∈kids:=zqd hx
  obtain⟨y,hC⟩:=hM x hA
  have ha:=hN x y hC
  have cB:=cB x hA y hC
  have cy:=hH x hA y hC _ _ rfl rfl
  obtain⟨Ky,hJ⟩:=nmE (vw ak y.kids)
  obtain⟨Ry,hL⟩:=nmE (vw aK.c y.table.rules)
  rw [<-hJ,<-hL]at cy
  have cm:=cm y.style
  have hm:=gf y.style row KN
  have hn:=gJ y.style row KN
  have hh:=da y.style.margin m1 rtl
  have hj:=da y.style.margin m2 rtl
  obtain⟨f0,hG⟩:=nmE (Bn b ⟨s0,row,w,h,iw,ih,⟨am,an⟩,ac,kids⟩ rtl ns x)
  rw [<-hG]at cB ha
  obtain⟨f1,hp⟩:=nmE (BD y.style row KN);(try rw [<-hp]at hm);(try rw [<-hp]at ha)
  obtain⟨f2,hq⟩:=nmE (Cr y.style row KN);(try rw [<-hq]at hn);(try rw [<-hq]at ha)
  obtain⟨f5,hr⟩:=nmE (ir y.style.margin m1 rtl (knS iw));(try rw [<-hr]at cm);(try rw [<-hr]at ha)
  obtain⟨f6,hs⟩:=nmE (ir y.style.margin m2 rtl (knS iw));(try rw [<-hs]at cm);(try rw [<-hs]at ha)
  obtain⟨f7,ht⟩:=nmE (ua y.style.margin m1 rtl);(try rw [<-ht]at hh);(try rw [<-ht]at ha)
  obtain⟨f8,hu⟩:=nmE (ua y.style.margin m2 rtl);(try rw [<-hu]at hj);(try rw [<-hu]at ha)
  have hb:=congrArg List.length h0
  rw [zqe]at hb
  have hI:E.length<=1048576:=by rw [hi,ao];omega
  have h3:(hd++[f x])++rest.map f=R:=by rw [<-h0];simp
  have aE:E++[[.J f0,.J f1,.J f2,.J y.style.grow,.J y.style.shrink,.J f5,.J f6,.B f7,.B f8]]=vw aj.c (hd++[f x]):=by rw [hi,dy,ha];rfl
  obtain⟨E2,hE⟩:∃E2,E2=E++[[.J f0,.J f1,.J f2,.J y.style.grow,.J y.style.shrink,.J f5,.J f6,.B f7,.B f8]]:=⟨_,rfl⟩
  rw [<-hE]at aE
  have hO:=pmV aE
  clear hG hp hq hr hs ht hu hb ha
  cbv;rw [hc];cbv;refine goX hg _ z0 hy rfl ?_;cbv
  (repeat'((first|rw [e1]|refine ad hg cy ?_|refine aa hg cB ?_|refine aa hg hm ?_|refine aa hg hn ?_|refine ad hg cm ?_|refine aa hg hh ?_|refine aa hg hj ?_|refine fR hg rfl (by decide) hI ?_;cbv;rw [ig hg,<-hE]);cbv))
  exact hB ((hd++[f x],E2)) _ _ ⟨h3,aE⟩ (Wk.weak (wkG [some _,some _,some 6] zr9 ⟨wqE rfl rfl,wqE rfl rfl,wqE rfl hO,trivial⟩ (by decide) aw))
theorem vh:∀{a b:List Int},b.length=a.length->vw ak a=(a.zip b).map (fun t=>lc (ak t.1))
 | [],b,h=>rfl
 |x::a,[],h=>by simp at h
 |x::a,y::b,h=>by rw [List.zip_cons_cons,zqA,<-vh (a:=a) (b:=b) (by simpa using h)];rfl
theorem BV{a b:List Int}{i:Nat}{t:Int×Int}(h:(a.zip b)[i]? =some t):a[i]? =some t.1/\b[i]? =some t.2:=List.getElem?_zip_eq_some.1 h
theorem lN(ns:List af)(hl:ns.length<=1048576)(rtl:Bool)(b:Bv)(n:Int)(p:Pl)(zs:List Int)(hkl:p.kids.length<=1048576)(hzs:zs.length=p.kids.length)(hk:∀kid∈p.kids,isN ns kid=true)(hn:∀kid∈p.kids,nM (vwA af.ac ns) rtl b kid):cj prog 175 [.agg (gz (vwA af.ac ns) rtl),.agg (plL n p.s p.w p.h p.row p.wide p.high p.al p.ac (.view (vw ak p.kids))),.c (.view (vw ak zs))] fun res hX=>res= .o 0/\hX=[⟨210,7,vw av.c (BC b p rtl ns (p.kids.zip zs))⟩]:=by
 obtain⟨R,hR⟩:=nmE (BC b p rtl ns (p.kids.zip zs))
 rw [<-hR]
 unfold BC at hR
 obtain⟨f,hf⟩:∃f,f=fun q:Int×Int=>DZ p (kst ns q.1) rtl (zK b p.row q.1 ⟨3,q.2⟩ (Ei p (kst ns q.1) rtl q.2)):=⟨_,rfl⟩
 rw [<-hf]at hR
 have hU:(p.kids.zip zs).length<=1048576:=by rw [zqB];omega
 have xm:R.length<=1048576:=by rw [hR,zql];exact hU
 have hT:=vh hzs
 have h9:=fun{i t} h=>BV (a:=p.kids) (b:=zs) (i:=i) (t:=t) h
 have xh:∀kid∈p.kids,∃y,ns[(kid-1).toNat]? =some y:=fun kid h=>(aI (hk kid h)).2.2
 have h8:=fun kid(h:kid∈p.kids) y hy Ky Ry=>aR ns kid y (aI (hk kid h)).1 (by have:=(aI (hk kid h)).2.1;omega) hy (vwA af.ac ns) Ky Ry rfl
 obtain⟨s0,row,w,h,iw,ih,al,ac,kids⟩:=p
 dsimp only at *
 have cX:=fun kid(hh:kid∈kids) y hy=>gQ ns hl kid y (hk kid hh) hy rtl n s0 w h row iw ih al ac (vw ak kids)
 change∀kid(hh:kid∈kids) y,ns[(kid-1).toNat]? =some y->PC0 _ _ (.t (agP (kcX ⟨s0,row,w,h,iw,ih,al,ac,kids⟩ y.style rtl)))at cX
 obtain⟨V,hV⟩:=nmE (vwA af.ac ns)
 rw [<-hV]at hn h8 cX
 rw [<-hV]
 obtain⟨Z,hZ⟩:=nmE (vw ak zs)
 have xn:=lmV hZ
 have iZ:=imV hZ
 have kZ:=kmV (k:=1) hZ fun _=>rfl
 have dZ:=dmV hZ
 obtain⟨K,hK⟩:=nmE (vw ak kids)
 have xl:=lmV hK
 have iK:=imV hK
 have kK:=kmV (k:=1) hK fun _=>rfl
 have dK:=dmV hK
 rw [<-hK]at cX hT
 have xf:∀{i:Nat}{v:Int},zs[i]? =some v->Z[i]? =some [.J v]:=fun h=>by rw [hZ];exact bv h
 rw [<-hK,<-hZ]
 obtain⟨S,hS⟩:=nmE (vw av.c R);(try rw [<-hS]at⊢)
 obtain⟨am,an⟩:=ac
 have ck:=dp am an
 obtain⟨KN,hC⟩:=nmE (knS ⟨am,an⟩)
 change PC0 _ _ (.i (knS ⟨am,an⟩))at ck
 rw [<-hC]at ck
 have cM:=gp s0 rtl
 obtain⟨m1,hP⟩:=nmE (sd1 (!kR s0) (lX s0 rtl))
 obtain⟨m2,hQ⟩:=nmE (sd2 (!kR s0) (lX s0 rtl))
 rw [<-hP,<-hQ]at cM
 have h7:∀(q:Int×Int) y,ns[(q.1-1).toNat]? =some y->∀kc,kc=kcX ⟨s0,row,w,h,iw,ih,al,⟨am,an⟩,kids⟩ y.style rtl->∀ax,ax=(if kc.mode≠3/\rz y.style (!row) KN= -1/\s9 y.style (!row) q.2≠ -1 then⟨3,kF y.style (!row) KN (s9 y.style (!row) q.2)⟩else kc)->∀bb,bb=zK b row q.1 ⟨3,q.2⟩ ax->
   f q=⟨kF y.style (!row) KN (alB (!row) bb),ir y.style.margin m1 rtl (knS iw),ir y.style.margin m2 rtl (knS iw),ua y.style.margin m1 rtl,ua y.style.margin m2 rtl,Bo s0 y.style,wG bb.base (kF y.style (!row) KN (alB (!row) bb))⟩:=fun q y hy kc xj ax xi bb hm=>by
  rw [hf,hm,xi,xj,hC,hP,hQ]
  dsimp only
  rw [gR hy]
  rfl
 have cm:=fun k=>ef V rtl n s0 k w h row iw ih al ⟨am,an⟩ K m1 m2
 clear hf hC hP hQ
 obtain⟨wide,xa⟩:=nmE (!row)
 obtain⟨qs,ho⟩:=nmE (kids.zip zs);(try rw [<-ho]at hT);(try rw [<-ho]at h9);(try rw [<-ho]at hU);(try rw [<-ho]at hR)
 refine ae (aM f175) aB func175 fun g F hg hF=> ?_
 cbv
 (repeat'((first|refine ad hg ck ?_|refine ad hg cM ?_);cbv))
 replace hK:=hT
 refine aU hg aB (by kernel_rfl) K (fun t=>lc (ak t.1)) qs hK hU (fun z(s:List av×LLA)=>[(2,.v Z),(3,.p 0),(4,.p 1),(7,.i (KN)),(8,.t (abl ((!row)))),(9,.i (m1)),(10,.i (m2)),(11,.o 2),(34,.v K),(35,.i (g .ln K)),(36,.i (z))]) (fun z(s:List av×LLA)=>[.bx 76 3 (gz V rtl),.bx 196 75 (plL n s0 w h row iw ih al ⟨am,an⟩ (.view K)),.rw ⟨210,7,s.2⟩]) (fun z(s:List av×LLA)=>s.2=vw av.c s.1) (fun(s:List av×LLA) rest=>s.1++rest.map f) (R) ([],[]) (by rw [hR];rfl) rfl (Wk.weak (wkG [some _,some _,none] zN ⟨wqE rfl rfl,wqE rfl rfl,⟨_,rfl,rfl⟩,trivial⟩ (by decide) aw)) (fun z s B hz h0 hi he=> ?_) (fun z s x rest B z0 z1 z2 hx hy h0 hi hc e1 hB=> ?_)
 ·obtain⟨hj,E⟩:=s
  dsimp only at hi h0
  have pE:=pmV hi
  obtain rfl:hj=R:=by simpa using h0
  rw [hS,<-hi]at hF
  cbv;rw [he];cbv
  exact db hF rfl pE
 ·obtain⟨hj,E⟩:=s
  obtain⟨x0,x1⟩:=x
  dsimp only at hi h0 hy
  have xb:=h9 hx
  have hp:x0∈kids:=zqd xb.1
  have xg:=xf xb.2
  obtain⟨y,hW⟩:=xh x0 hp
  have ha:=h7 (x0,x1) y hW _ rfl _ rfl _ rfl
  dsimp only at ha
  have cX:=cX x0 hp y hW
  have cy:=h8 x0 hp y hW _ _ rfl rfl
  have hn:=hn x0 hp
  obtain⟨Ky,xd⟩:=nmE (vw ak y.kids)
  obtain⟨Ry,xe⟩:=nmE (vw aK.c y.table.rules)
  rw [<-xd,<-xe]at cy
  have cm:=cm y.style
  have hq:=da y.style.margin m1 rtl
  have hr:=da y.style.margin m2 rtl
  have hs:=jy s0 y.style
  have cf:=bL y.style (!row) KN
  have cr:=ff y.style (!row) x1
  have hY:=bE x1
  obtain⟨⟨k0,k1⟩,h4⟩:∃q,q=kcX ⟨s0,row,w,h,iw,ih,al,⟨am,an⟩,kids⟩ y.style rtl:=⟨_,rfl⟩
  rw [<-h4]at cX ha
  dsimp only at ha
  obtain⟨FX,hA⟩:=nmE (rz y.style (!row) KN);(try rw [<-hA]at cf);(try rw [<-hA]at ha)
  obtain⟨RT,hD⟩:=nmE (s9 y.style (!row) x1);(try rw [<-hD]at cr);(try rw [<-hD]at ha)
  have ht:=bq y.style (!row) KN RT
  obtain⟨B1,hv⟩:=nmE (kF y.style (!row) KN RT);(try rw [<-hv]at ht);(try rw [<-hv]at ha)
  have h1:=bE B1
  obtain⟨⟨j0,j1⟩,hb⟩:∃q,q=(if k0≠3/\FX= -1/\RT≠ -1 then(⟨3,B1⟩:aG)else⟨k0,k1⟩):=⟨_,rfl⟩
  rw [<-hb]at ha
  have cZ:=kh V rtl b x0 hn n s0 w h row iw ih al ⟨am,an⟩ K 3 x1 j0 j1
  obtain⟨bb,hm⟩:=nmE (zK b row x0 ⟨3,x1⟩ ⟨j0,j1⟩)
  rw [<-hm]at cZ ha
  have cQ:=gU (!row) bb
  obtain⟨SA,hE⟩:=nmE (alB (!row) bb);(try rw [<-hE]at cQ);(try rw [<-hE]at ha)
  have hu:=bq y.style (!row) KN SA
  obtain⟨f0,hH⟩:=nmE (kF y.style (!row) KN SA);(try rw [<-hH]at hu);(try rw [<-hH]at ha)
  obtain⟨f1,hI⟩:=nmE (ir y.style.margin m1 rtl (knS iw));(try rw [<-hI]at cm);(try rw [<-hI]at ha)
  obtain⟨f2,hJ⟩:=nmE (ir y.style.margin m2 rtl (knS iw));(try rw [<-hJ]at cm);(try rw [<-hJ]at ha)
  obtain⟨f3,hL⟩:=nmE (ua y.style.margin m1 rtl);(try rw [<-hL]at hq);(try rw [<-hL]at ha)
  obtain⟨f4,hM⟩:=nmE (ua y.style.margin m2 rtl);(try rw [<-hM]at hr);(try rw [<-hM]at ha)
  obtain⟨f5,hN⟩:=nmE (Bo s0 y.style);(try rw [<-hN]at hs);(try rw [<-hN]at ha)
  have e:lw.ac bb=[.J bb.wide,.J bb.high,.J bb.base,.view (vw ag.c bb.frames)]:=rfl
  rw [e]at cZ cQ
  obtain⟨FR,hw⟩:=nmE (vw ag.c bb.frames);(try rw [<-hw]at cZ);(try rw [<-hw]at cQ)
  obtain⟨b0,h5⟩:=nmE bb.wide
  obtain⟨b1,h6⟩:=nmE bb.high
  obtain⟨b3,hG⟩:=nmE bb.base
  rw [<-h5,<-h6,<-hG]at cZ cQ
  rw [<-hG]at ha
  obtain⟨f6,hO⟩:=nmE (wG b3 f0)
  rw [<-hO]at ha
  have tm:g .mn b3 f0=f6:=by rw [Dl hg,hO];rfl
  have t0:g .q .neq (k0) (3)=decide (¬(k0)=(3)):=by rw [d5 hg];exact iR _ _
  have t1:g .q .eql (FX) ((-1))=decide ((FX)=((-1))):=by rw [bA hg];exact zqn _ _
  have t2:g .q .neq (RT) ((-1))=decide (¬(RT)=((-1))):=by rw [d5 hg];exact iR _ _
  have hd:=congrArg List.length h0
  rw [zqe]at hd
  have xc:E.length<=1048576:=by rw [hi,ao];omega
  have h3:(hj++[f (x0,x1)])++rest.map f=R:=by rw [<-h0];simp
  have aE:E++[[.J f0,.J f1,.J f2,.B f3,.B f4,.J f5,.J f6]]=vw av.c (hj++[f (x0,x1)]):=by rw [hi,dy,ha];rfl
  obtain⟨E2,h2⟩:∃E2,E2=E++[[.J f0,.J f1,.J f2,.B f3,.B f4,.J f5,.J f6]]:=⟨_,rfl⟩
  rw [<-h2]at aE
  have xk:=pmV aE
  clear hH hI hJ hL hM hN hO hd ha e h5 h6 hG hw hE hm hA hD hv h4 h7
  cbv;rw [hc];cbv;refine goX hg _ z0 hy rfl ?_;cbv
  by_cases q0:k0=3
  case' neg=>
   by_cases q1:FX= -1
   case' pos=>
    by_cases q2:RT= -1
  all_goals
   first
    |rw [if_pos ⟨by assumption,by assumption,by assumption⟩]at hb
    |rw [if_neg (fun hh=>by first|exact hh.1 (by assumption)|exact absurd hh.2.1 (by assumption)|exact hh.2.2 (by assumption))]at hb
   simp only [aG.mk.injEq]at hb
   obtain⟨rfl,rfl⟩:=hb
   ((first|rw [zqu q0]at t0|rw [zqt q0]at t0|rw [zqu (Classical.not_not.2 q0)]at t0|rw [zqt (Classical.not_not.2 q0)]at t0))
   (try((first|rw [zqu q1]at t1|rw [zqt q1]at t1|rw [zqu (Classical.not_not.2 q1)]at t1|rw [zqt (Classical.not_not.2 q1)]at t1)))
   (try((first|rw [zqu q2]at t2|rw [zqt q2]at t2|rw [zqu (Classical.not_not.2 q2)]at t2|rw [zqt (Classical.not_not.2 q2)]at t2)))
   ((repeat'((first|rw [t0]|rw [t1]|rw [t2]|rw [tm]|rw [e1]|refine ad hg cy ?_|refine ad hg cX ?_|refine aa hg cr ?_|refine ad hg cf ?_|refine ad hg ht ?_|refine ad hg h1 ?_|refine aa hg hY ?_|refine aa hg cZ ?_|refine aa hg cQ ?_|refine aa hg hu ?_|refine aa hg hs ?_|refine ad hg cm ?_|refine aa hg hq ?_|refine aa hg hr ?_|refine goX hg _ z0 xg rfl ?_|refine fR hg rfl (by decide) xc ?_;cbv;rw [ig hg,<-h2]);cbv)))
   exact hB ((hj++[f (x0,x1)],E2)) _ _ ⟨h3,aE⟩ (Wk.weak (wkG [some _,some _,some 8] zN ⟨wqE rfl rfl,wqE rfl rfl,wqE rfl xk,trivial⟩ (by decide) aw))
section
variable {P:Program}{n0 N:Nat}{g:Gd}
theorem t9{β:BP}(hg:g=G0 P n0 N){h:EH}{n:Nat}{f:FuncId}{args args':List AT}{K:AV->EH->Prop}{a b c:Int}{ab:AB}(hc:cj P f args' fun res hb=>res= .t (.agg [.J a,.J b,.J c,.own 0])/\hb=[ab])(hd:dwA args args')(hp:aO ab.es=true)
  (hK:K (.t (.agg [.J a,.J b,.J c,.own n])) [.rw ab]):g .PC f h n args K:=by
 subst hg
 refine⟨.t (.agg [.J a,.J b,.J c,.own n]),[ab],⟨args',_,hc,.inl ⟨hd,fun res hb ha=> ?_⟩⟩,[.rw ab],rfl,hK⟩
 obtain⟨rfl,rfl⟩:=ha
 exact⟨rfl,by simp only [zqA,List.map_nil,fN hp]⟩
end
def yN(q:lw)(res:AV)(rows:List AB):Prop:=res= .t (.agg [.J q.wide,.J q.high,.J q.base,.own 0])/\rows=[⟨45,5,vw ag.c q.frames⟩]
def zM(V:LLA)(rtl:Bool)(b:Bv)(kid:Int):Prop:=∀w0 w1 h0 h1:Int,cj prog 125 [.agg (gz V rtl),ai kid,agP ⟨w0,w1⟩,agP ⟨h0,h1⟩] (yN (b kid ⟨w0,w1⟩ ⟨h0,h1⟩))
def Bw(V:LLA)(rtl:Bool)(b:Bv)(kid:Int):Prop:=∀w0 w1 h0 h1:Int,cj prog 83 [.agg (gz V rtl),ai kid,agP ⟨w0,w1⟩,agP ⟨h0,h1⟩] (yN (b kid ⟨w0,w1⟩ ⟨h0,h1⟩))
theorem si(V:LLA)(rtl:Bool)(b:Bv)(kid:Int)(hla:zM V rtl b kid):Bw V rtl b kid:=by
 intro w0 w1 h0 h1
 have cL:=hla w0 w1 h0 h1
 unfold yN at cL⊢
 obtain⟨bb,hc⟩:=nmE (b kid ⟨w0,w1⟩ ⟨h0,h1⟩)
 rw [<-hc]at cL⊢
 have hb:aO (vw ag.c bb.frames)=true:=aF _ _
 obtain⟨FR,ha⟩:=nmE (vw ag.c bb.frames);(try rw [<-ha]at cL);(try rw [<-ha]at hb);(try rw [<-ha]at⊢)
 refine gk ([(1,.hand),(3,.hand),(7,.hand),(9,.hand)]) ([]) (c:=aM f83) aB func83 (by kernel_rfl) (by kernel_rfl) (by rfl) (by kernel_rfl) fun g hi hd F he hf hg hF=> ?_
 cbv
 refine yk hg hf aB 2 (by kernel_rfl) fun mk hh=> ?_
 cbv
 rw [hh]
 refine⟨_,_,_,_,_,Tryz.underlying74,rfl,rfl,rfl,rfl,?_⟩
 cbv
 refine qx hg cL rfl hb ?_
 cbv
 exact qp hF rfl hb
theorem m7(V:LLA)(rtl:Bool)(b:Bv)(kid:Int)(hla:Bw V rtl b kid):nM V rtl b kid:=fun w0 w1 h0 h1=>
 wt (hla w0 w1 h0 h1) (sN (c:=ag.c) (k:=5) fun _=>rfl) ij
theorem ka(n:Int)(s:ah)(wd hgh:aG)(row:Bool)(iw ih al ac:aG)(K:LLA)(xs:List aj)(hl:xs.length<=1048576):PC0 174 [.agg (plL n s wd hgh row iw ih al ac (.view K)),.c (.view (vw aj.c xs))] (.tup [.c (.view (vwA lnA (lns xs (nN s row) (nY al) (!decide (s.wrap=1))))),ai (tak al (lng xs (nN s row) (nY al) (!decide (s.wrap=1)))),.c (.view (vw ak (lsz xs (nN s row) (nY al) (!decide (s.wrap=1)) (tak al (lng xs (nN s row) (nY al) (!decide (s.wrap=1)))))))]):=by
 obtain⟨am,an⟩:=al
 have cG:=fX s row
 have cR:=kp am an
 obtain⟨G,hG⟩:=nmE (nN s row);(try rw [<-hG]at cG);(try rw [<-hG]at⊢)
 obtain⟨M,hM⟩:=nmE (nY ⟨am,an⟩);(try rw [<-hM]at cR);(try rw [<-hM]at⊢)
 obtain⟨wr,hc⟩:=nmE ((!decide (s.wrap=1)))
 rw [<-hc]
 have cL:=lS xs G M wr hl
 obtain⟨LG,ha⟩:=nmE (lng xs G M wr);(try rw [<-ha]at cL);(try rw [<-ha]at⊢)
 have cT:=d9 am an LG
 obtain⟨T,hT⟩:=nmE (tak ⟨am,an⟩ LG);(try rw [<-hT]at cT);(try rw [<-hT]at⊢)
 have cN:=gd xs G M wr hl
 have cS:=lU xs G M wr T hl
 obtain⟨LN,hb⟩:=nmE (vwA lnA (lns xs G M wr));(try rw [<-hb]at cN);(try rw [<-hb]at⊢)
 obtain⟨Z,hZ⟩:=nmE (vw ak (lsz xs G M wr T));(try rw [<-hZ]at cS);(try rw [<-hZ]at⊢)
 obtain⟨V,hV⟩:=nmE (vw aj.c xs);(try rw [<-hV]at cL);(try rw [<-hV]at cN);(try rw [<-hV]at cS);(try rw [<-hV]at⊢)
 have t0:∀g:Gd,g=G0 prog 0 f174.ntmps->g .q .neq s.wrap 1=wr:=fun g hg=>by rw [d5 hg,hc];exact(iR _ _).trans (by simp)
 clear hc hb hZ hV hT ha hG hM
 refine ae (aM f174) aB func174 fun g F hg hF=> ?_
 have t0:=t0 g hg
 cbv
 (repeat'((first|rw [t0]|refine aa hg cG ?_|refine aa hg cR ?_|refine aa hg cL ?_|refine aa hg cT ?_|refine ad hg cN ?_|refine ad hg cS ?_);cbv))
 exact mh hF rfl ⟨rfl,rfl⟩
theorem na{l r:List Int}{m:Int}{n:Nat}(h:l++r=ixs m n):l.length<=n/\l=ixs m l.length/\r=ixs (m+l.length) (n-l.length):=by
 have ha:=congrArg List.length h
 rw [zqe,dA]at ha
 have hb:l.length<=n:=by omega
 have e:ixs m n=ixs m l.length++ixs (m+l.length) (n-l.length):=by rw [<-jJ,show l.length+(n-l.length)=n by omega]
 rw [e]at h
 have:=List.append_inj h (by rw [dA])
 exact⟨hb,this.1,this.2⟩
theorem oP{l:List Int}{ls:List (List Int)}{m:Int}{n:Nat}(h:(l::ls).flatten=ixs m n):l.length<=n/\l=ixs m l.length/\ls.flatten=ixs (m+l.length) (n-l.length):=by
 rw [List.flatten_cons]at h
 exact na h
theorem tQ(p:Pl)(ns:List af)(sides:List av)(sizes:List Int):∀(ls:List (List Int×Int)),(xq p ns sides sizes ls).length=(ls.map (·.1)).flatten.length
 | []=>rfl
 |q::r=>by
  have:=tQ p ns sides sizes r
  simp only [xq,List.flatMap_cons,zqe,zql,zqA,List.flatten_cons]at this⊢
  omega
theorem mf(p:Pl)(rtl:Bool)(inner across:Int)(sizes:List Int)(sides:List av)(st c lb:Int)(ps:List Int):∀(ln:List Int)(j:Int),(uO p rtl inner across sizes sides st c lb ps j ln).length=ln.length
 | [],_=>rfl
 |i::r,j=>by simp only [uO,zqx,mf p rtl inner across sizes sides st c lb ps r]
theorem qm(p:Pl)(rtl:Bool)(items:List aj)(inner across:Int)(sizes:List Int)(sides:List av)(sts:List Int):∀(ls:List (List Int×Int))(k:Int),(wQ p rtl items inner across sizes sides sts k ls).length=(ls.map (·.1)).flatten.length
 | [],_=>rfl
 |(l,c)::r,k=>by simp only [wQ,zqe,mf,zqA,List.flatten_cons,qm p rtl items inner across sizes sides sts r]
theorem xD(cs:List Int)(gap inner ct:Int)(hl:cs.length<=64):(xE cs gap inner ct).length=cs.length:=by
 unfold xE
 split
 ·have ha:(evn (wrap64 (inner-crt cs gap)) (cs.length:Int)).length=cs.length:=by rw [jO];have:=oW (many:=(cs.length:Int)) (by omega) (by omega);omega
  rw [zql,zqB,ha];omega
 ·rfl
theorem tX(p:Pl)(ls:List (List Int))(sides:List av)(hl:ls.length<=64):(BM p ls sides).length=ls.length:=by
 unfold BM
 split
 ·rw [xD _ _ _ _ (by rw [zql];exact hl),zql]
 ·rw [zql]
theorem tA(b:Bv)(p:Pl)(rtl:Bool)(ns:List af)(ks:List Int):(zi b p rtl ns ks).length=ks.length:=zql ..
theorem xA(p:Pl)(xs:List aj):(z8 p xs).length=xs.length:=wD ..
theorem xN(b:Bv)(p:Pl)(rtl:Bool)(ns:List af)(ks:List (Int×Int)):(BC b p rtl ns ks).length=ks.length:=zql ..
theorem pd{α:Type}{c:α->List AC}:∀{a:List α}{b:List Int},b.length=a.length->vwA c a=(a.zip b).map (fun t=>c t.1)
 | [],b,h=>rfl
 |x::a,[],h=>by simp at h
 |x::a,y::b,h=>by
  have:=pd (c:=c) (a:=a) (b:=b) (by simpa using h)
  simp only [vwA]at this⊢
  rw [List.zip_cons_cons,zqA,zqA,<-this]
theorem eA{α:Type}:∀{a:List α}{b:List Int},b.length=a.length->(a.zip b).map (·.1)=a
 | [],b,h=>rfl
 |x::a,[],h=>by simp at h
 |x::a,y::b,h=>by rw [List.zip_cons_cons,zqA,eA (by simpa using h)]
theorem vf{α β:Type}{a:List α}{b:List β}{i:Nat}{t:α×β}(h:(a.zip b)[i]? =some t):a[i]? =some t.1/\b[i]? =some t.2:=List.getElem?_zip_eq_some.1 h
theorem vV{sides:List av}{i:Int}{y:av}(h0:0<=i)(h:sides[i.toNat]? =some y):sdZ sides i=y:=by
 unfold sdZ;rw [if_pos h0,h];rfl
end Go.Proofs.YtckchgoblpgpbaaGreat
