/- Lines zipped with their crosses; a side that is looked up. -/
import Derived.Test.YtkicjdeddpihaaaGreatS4bm
set_option linter.unusedVariables false
set_option linter.unusedSimpArgs false
set_option maxHeartbeats 16000000
namespace Go.Proofs.YtkicjdeddpihaaaGreat
open Go.ChangeShapes Go.WideShapes Go.ChangeAt Go.RowKit Am Go.Proofs.Tryz
set_option maxRecDepth 100000
theorem rF(ns:List ag)(hl:ns.length<=1048576)(kid:Int)(y:ag)(h1:isN ns kid=true)(hy:ns[(kid-1).toNat]? =some y)(rtl:Bool)(b:Bv)(hbx:Bc (vwA ag.ac ns) rtl b kid)(n:Int)(p:Pl)(K:LLA):PC0 90 [.agg (m7 (vwA ag.ac ns) rtl),.agg (plL n p.s p.w p.h p.row p.wide p.high p.al p.ac (.view K)),ai kid] (.i (EI b p rtl ns kid)):=by
 obtain⟨s,row,w,h,iw,ih,al,ac,kids⟩:=p
 obtain⟨Ky,hx⟩:=nmE (vw aj y.kids)
 obtain⟨Ry,hz⟩:=nmE (vw aK.c y.table.rules)
 have b2:=bC h1
 obtain⟨R,hR⟩:=nmE (EI b ⟨s,row,w,h,iw,ih,al,ac,kids⟩ rtl ns kid)
 rw [<-hR]
 unfold EI at hR
 rw [km hy]at hR
 unfold EJ at hR
 dsimp only at hR⊢
 have cX:=kl ns hl kid y h1 hy rtl n s w h row iw ih al ac K
 change PC0 _ _ (.t (agP (kcX ⟨s,row,w,h,iw,ih,al,ac,kids⟩ y.style rtl)))at cX
 obtain⟨V,hV⟩:=nmE (vwA ag.ac ns)
 have cy:=dv ns kid y b2.1 (by have:=b2.2.1;omega) hy V Ky Ry hV hx hz
 rw [<-hV]at hbx cX⊢
 obtain⟨⟨k0,k1⟩,hs⟩:∃q,q=kcX ⟨s,row,w,h,iw,ih,al,ac,kids⟩ y.style rtl:=⟨_,rfl⟩
 rw [<-hs]at cX hR
 obtain⟨⟨g0,g1⟩,hc⟩:∃q,q=Hc ⟨s,row,w,h,iw,ih,al,ac,kids⟩ y.style rtl:=⟨_,rfl⟩
 rw [<-hc]at hR
 have cZ:=nN V rtl b kid hbx n s w h row iw ih al ac K g0 g1 k0 k1
 obtain⟨bb,hw⟩:=nmE (Ds b row kid ⟨g0,g1⟩ ⟨k0,k1⟩)
 rw [<-hw]at cZ hR
 have cQ:=ko row bb
 obtain⟨SA,hn⟩:=nmE (alB row bb);(try rw [<-hn]at cQ);(try rw [<-hn]at hR)
 obtain⟨am,an⟩:=al
 have ck:=eJ am an
 obtain⟨KN,hi⟩:=nmE (knS ⟨am,an⟩);(try rw [<-hi]at ck);(try rw [<-hi]at hR)
 have cs:=ej y.style.basis.kind y.style.basis.n KN
 change PC0 _ _ (.i (tN y.style.basis KN))at cs
 have cf:=gJ y.style row KN
 have cr:=jq y.style row k1
 obtain⟨SZ,ho⟩:=nmE (tN y.style.basis KN);(try rw [<-ho]at cs);(try rw [<-ho]at hR)
 obtain⟨FX,hh⟩:=nmE (rU y.style row KN);(try rw [<-hh]at cf);(try rw [<-hh]at hR)
 obtain⟨RT,hm⟩:=nmE (sM y.style row k1);(try rw [<-hm]at cr);(try rw [<-hm]at hR)
 have e:jc.ac bb=[.J bb.wide,.J bb.high,.J bb.base,.view (vw aD.c bb.frames)]:=rfl
 rw [e]at cZ cQ
 obtain⟨FR,hf⟩:=nmE (vw aD.c bb.frames);(try rw [<-hf]at cZ);(try rw [<-hf]at cQ)
 obtain⟨b0,ht⟩:=nmE bb.wide
 obtain⟨b1,hu⟩:=nmE bb.high
 obtain⟨b3,hv⟩:=nmE bb.base
 rw [<-ht,<-hu,<-hv]at cZ cQ
 clear ht hu hv e hw hn ho hh hm hi hs
 have cM:=kt s rtl
 obtain⟨m1,hp⟩:=nmE (sd1 (jO s) (lv s rtl))
 obtain⟨m2,hq⟩:=nmE (sd2 (jO s) (lv s rtl))
 rw [<-hp,<-hq]at cM
 have cm:=fN V rtl n s y.style w h row iw ih ⟨am,an⟩ ac K m1 m2
 simp only [Hc,zf,sdB,sdM,if_true]at hc
 rw [<-hp,<-hq]at hc
 obtain⟨M1,hj⟩:=nmE (o9 y.style.margin m1 rtl (knS iw))
 obtain⟨M2,hk⟩:=nmE (o9 y.style.margin m2 rtl (knS iw))
 rw [<-hj,<-hk]at cm
 have ha:(⟨g0,g1⟩:az)=if row=true then DX (qu ⟨am,an⟩ (wrap64 (M1+M2)))else⟨1,0⟩:=by rw [hc,hj,hk]
 clear hc hj hk hp hq
 obtain⟨BB,he⟩:=nmE (wrap64 (M1+M2))
 rw [<-he]at ha
 have cI:=gI am an BB
 obtain⟨⟨i0,i1⟩,hI⟩:∃q,q=qu ⟨am,an⟩ BB:=⟨_,rfl⟩
 rw [<-hI]at cI ha
 have cL:=lI i0 i1
 have t4:∀g:Gd,g=G0 prog 0 f90.ntmps->g .w .add .i64 M1 M2=BB:=fun g hg=>by rw [aJ hg,he]
 clear hI he hf
 have hd:R=if¬SZ= -1 then SZ else if¬FX= -1 then FX else if k0=3/\¬RT= -1 then RT else SA:=by
  rw [hR]
  by_cases q1:SZ= -1<;>by_cases q2:FX= -1<;>by_cases q3:k0=3<;>by_cases q4:RT= -1<;>simp [q1,q2,q3,q4]
 clear hR
 refine ad (aM f90) ay func90 fun g F hg hF=> ?_
 have t0:g .q .neq (SZ) ((-1))=decide (¬(SZ)=((-1))):=by rw [bj hg];exact dX _ _
 have t1:g .q .neq (FX) ((-1))=decide (¬(FX)=((-1))):=by rw [bj hg];exact dX _ _
 have t2:g .q .eql (k0) (3)=decide ((k0)=(3)):=by rw [bn hg];exact zqn _ _
 have t3:g .q .neq (RT) ((-1))=decide (¬(RT)=((-1))):=by rw [bj hg];exact dX _ _
 have t4:=t4 g hg
 cbv
 by_cases q1:SZ= -1
 case neg=>
  (first|rw [zqu q1]at t0|rw [zqt q1]at t0|rw [zqu (Classical.not_not.2 q1)]at t0|rw [zqt (Classical.not_not.2 q1)]at t0)
  (repeat'((first|rw [t0]|refine ae hg cy ?_|refine ae hg ck ?_|refine ae hg cs ?_);cbv))
  exact aV hF (by rw [hd,if_pos q1])
 by_cases q2:FX= -1
 case neg=>
  (first|rw [zqu q1]at t0|rw [zqt q1]at t0|rw [zqu (Classical.not_not.2 q1)]at t0|rw [zqt (Classical.not_not.2 q1)]at t0)
  (first|rw [zqu q2]at t1|rw [zqt q2]at t1|rw [zqu (Classical.not_not.2 q2)]at t1|rw [zqt (Classical.not_not.2 q2)]at t1)
  (repeat'((first|rw [t0]|rw [t1]|refine ae hg cy ?_|refine ae hg ck ?_|refine ae hg cs ?_|refine ae hg cf ?_);cbv))
  exact aV hF (by rw [hd,if_neg (fun x=>x q1),if_pos q2])
 have hb:R=if k0=3/\¬RT= -1 then RT else SA:=by rw [hd,if_neg (fun x=>x q1),if_neg (fun x=>x q2)]
 (first|rw [zqu q1]at t0|rw [zqt q1]at t0|rw [zqu (Classical.not_not.2 q1)]at t0|rw [zqt (Classical.not_not.2 q1)]at t0)
 (first|rw [zqu q2]at t1|rw [zqt q2]at t1|rw [zqu (Classical.not_not.2 q2)]at t1|rw [zqt (Classical.not_not.2 q2)]at t1)
 (repeat'((first|rw [t0]|rw [t1]|refine ae hg cy ?_|refine ae hg ck ?_|refine ae hg cs ?_|refine ae hg cf ?_|refine ae hg cX ?_);cbv))
 clear hd
 have fin:SA=R->(row=true->PC0 165 [.agg [.J i0,.J i1]] (.t (agP ⟨g0,g1⟩))):=fun _ hr=>by rw [ha,if_pos hr];exact cL
 by_cases q3:k0=3
 case pos=>
  by_cases q4:RT= -1
  case neg=>
   rw [if_pos ⟨q3,q4⟩]at hb
   (first|rw [zqu q3]at t2|rw [zqt q3]at t2|rw [zqu (Classical.not_not.2 q3)]at t2|rw [zqt (Classical.not_not.2 q3)]at t2)
   (first|rw [zqu q4]at t3|rw [zqt q4]at t3|rw [zqu (Classical.not_not.2 q4)]at t3|rw [zqt (Classical.not_not.2 q4)]at t3)
   (repeat'((first|rw [t2]|rw [t3]|refine ae hg cr ?_);cbv))
   exact aV hF hb.symm
  rw [if_neg (fun x=>x.2 q4)]at hb
  have fin:=fin hb.symm
  (first|rw [zqu q3]at t2|rw [zqt q3]at t2|rw [zqu (Classical.not_not.2 q3)]at t2|rw [zqt (Classical.not_not.2 q3)]at t2)
  (first|rw [zqu q4]at t3|rw [zqt q4]at t3|rw [zqu (Classical.not_not.2 q4)]at t3|rw [zqt (Classical.not_not.2 q4)]at t3)
  (repeat'((first|rw [t2]|rw [t3]|refine ae hg cr ?_);cbv))
  cases row
  ·rw [if_neg (by decide)]at ha
   simp only [az.mk.injEq]at ha
   obtain⟨rfl,rfl⟩:=ha
   try cbv
   (repeat'((first|refine aa hg cZ ?_|refine aa hg cQ ?_);cbv))
   exact aV hF hb.symm
  ·have cL:=fin rfl
   try cbv
   (repeat'((first|rw [t4]|refine ae hg cM ?_|refine ae hg cm ?_|refine ae hg cI ?_|refine ae hg cL ?_|refine aa hg cZ ?_|refine aa hg cQ ?_);cbv))
   exact aV hF hb.symm
 case neg=>
  rw [if_neg (fun x=>q3 x.1)]at hb
  have fin:=fin hb.symm
  (first|rw [zqu q3]at t2|rw [zqt q3]at t2|rw [zqu (Classical.not_not.2 q3)]at t2|rw [zqt (Classical.not_not.2 q3)]at t2)
  (repeat'(rw [t2];cbv))
  cases row
  ·rw [if_neg (by decide)]at ha
   simp only [az.mk.injEq]at ha
   obtain⟨rfl,rfl⟩:=ha
   try cbv
   (repeat'((first|refine aa hg cZ ?_|refine aa hg cQ ?_);cbv))
   exact aV hF hb.symm
  ·have cL:=fin rfl
   try cbv
   (repeat'((first|rw [t4]|refine ae hg cM ?_|refine ae hg cm ?_|refine ae hg cI ?_|refine ae hg cL ?_|refine aa hg cZ ?_|refine aa hg cQ ?_);cbv))
   exact aV hF hb.symm
theorem pT(ns:List ag)(hl:ns.length<=1048576)(rtl:Bool)(b:Bv)(n:Int)(p:Pl)(hkl:p.kids.length<=1048576)(hk:∀ha∈p.kids,isN ns ha=true)(hbx:∀ha∈p.kids,Bc (vwA ag.ac ns) rtl b ha):da prog 41 [.agg (m7 (vwA ag.ac ns) rtl),.agg (plL n p.s p.w p.h p.row p.wide p.high p.al p.ac (.view (vw aj p.kids)))] fun res hE=>res= .o 0/\hE=[⟨99,9,vw af.c (Dk b p rtl ns p.kids)⟩]:=by
 obtain⟨R,hR⟩:=nmE (Dk b p rtl ns p.kids)
 rw [<-hR]
 unfold Dk at hR
 obtain⟨f,hf⟩:∃f,f=fun k=>Ib p (kst ns k) rtl (EI b p rtl ns k):=⟨_,rfl⟩
 rw [<-hf]at hR
 have hT:R.length<=1048576:=by rw [hR,zql];exact hkl
 have cB:=fun ha(h:ha∈p.kids) y hy=>rF ns hl ha y (hk ha h) hy rtl b (hbx ha h) n p (vw aj p.kids)
 have hN:∀ha∈p.kids,∃y,ns[(ha-1).toNat]? =some y:=fun ha h=>(bC (hk ha h)).2.2
 have hI:=fun ha(h:ha∈p.kids) y hy Ky Ry=>dv ns ha y (bC (hk ha h)).1 (by have:=(bC (hk ha h)).2.1;omega) hy (vwA ag.ac ns) Ky Ry rfl
 obtain⟨s0,row,w,h,iw,ih,al,ac,kids⟩:=p
 dsimp only at *
 obtain⟨V,hV⟩:=nmE (vwA ag.ac ns)
 rw [<-hV]at cB hI
 rw [<-hV]
 obtain⟨K,hK⟩:=nmE (vw aj kids)
 have hQ:=lmV hK
 have iK:=imV hK
 have kK:=kmV (k:=1) hK fun _=>rfl
 have dK:=dmV hK
 rw [<-hK]at cB
 rw [<-hK]
 obtain⟨S,hS⟩:=nmE (vw af.c R);(try rw [<-hS]at⊢)
 obtain⟨am,an⟩:=al
 have ck:=eJ am an
 obtain⟨KN,hp⟩:=nmE (knS ⟨am,an⟩)
 change PC0 _ _ (.i (knS ⟨am,an⟩))at ck
 rw [<-hp]at ck
 have cM:=kt s0 rtl
 obtain⟨m1,hw⟩:=nmE (sd1 (jO s0) (lv s0 rtl))
 obtain⟨m2,hA⟩:=nmE (sd2 (jO s0) (lv s0 rtl))
 rw [<-hw,<-hA]at cM
 have hO:∀k y,ns[(k-1).toNat]? =some y->f k=⟨EI b ⟨s0,row,w,h,iw,ih,⟨am,an⟩,ac,kids⟩ rtl ns k,Ch y.style row KN,Di y.style row KN,y.style.grow,y.style.shrink,o9 y.style.margin m1 rtl (knS iw),o9 y.style.margin m2 rtl (knS iw),wj y.style.margin m1 rtl,wj y.style.margin m2 rtl⟩:=fun k y hy=>by
  rw [hf,hp,hw,hA]
  dsimp only
  rw [km hy]
  rfl
 have cm:=fun k=>fN V rtl n s0 k w h row iw ih ⟨am,an⟩ ac K m1 m2
 clear hf hp hw hA
 refine ad (aM f41) ay func41 fun g F hg hF=> ?_
 cbv
 (repeat'((first|refine ae hg ck ?_|refine ae hg cM ?_);cbv))
 refine aY hg ay (by kernel_rfl) K (fun x=>lc (aj x)) kids hK hkl (fun z(s:List af×LLA)=>[(2,.p 0),(3,.p 1),(5,.i (KN)),(6,.i (m1)),(7,.i (m2)),(8,.o 2),(25,.v K),(26,.i (g .ln K)),(27,.i (z))]) (fun z(s:List af×LLA)=>[.bx 78 3 (m7 V rtl),.bx 80 75 (plL n s0 w h row iw ih ⟨am,an⟩ ac (.view K)),.rw ⟨99,9,s.2⟩]) (fun z(s:List af×LLA)=>s.2=vw af.c s.1) (fun(s:List af×LLA) rest=>s.1++rest.map f) (R) ([],[]) (by rw [hR];rfl) rfl (Wk.weak (wkG [some _,some _,none] zr9 ⟨wqE rfl rfl,wqE rfl rfl,⟨_,rfl,rfl⟩,trivial⟩ (by decide) aG)) (fun z s B hz h0 hi he=> ?_) (fun z s x rest B z0 z1 z2 hx hy h0 hi hc e1 hB=> ?_)
 ·obtain⟨hh,E⟩:=s
  dsimp only at hi h0
  have pE:=pmV hi
  obtain rfl:hh=R:=by simpa using h0
  rw [hS,<-hi]at hF
  cbv;rw [he];cbv
  exact bV hF rfl pE
 ·obtain⟨hh,E⟩:=s
  dsimp only at hi h0
  have hC:x∈kids:=zqd hx
  obtain⟨y,hD⟩:=hN x hC
  have hb:=hO x y hD
  have cB:=cB x hC y hD
  have cy:=hI x hC y hD _ _ rfl rfl
  obtain⟨Ky,hL⟩:=nmE (vw aj y.kids)
  obtain⟨Ry,hM⟩:=nmE (vw aK.c y.table.rules)
  rw [<-hL,<-hM]at cy
  have cm:=cm y.style
  have hn:=jo y.style row KN
  have ho:=jY y.style row KN
  have hj:=dQ y.style.margin m1 rtl
  have hm:=dQ y.style.margin m2 rtl
  obtain⟨f0,hH⟩:=nmE (EI b ⟨s0,row,w,h,iw,ih,⟨am,an⟩,ac,kids⟩ rtl ns x)
  rw [<-hH]at cB hb
  obtain⟨f1,hq⟩:=nmE (Ch y.style row KN);(try rw [<-hq]at hn);(try rw [<-hq]at hb)
  obtain⟨f2,hr⟩:=nmE (Di y.style row KN);(try rw [<-hr]at ho);(try rw [<-hr]at hb)
  obtain⟨f5,hs⟩:=nmE (o9 y.style.margin m1 rtl (knS iw));(try rw [<-hs]at cm);(try rw [<-hs]at hb)
  obtain⟨f6,ht⟩:=nmE (o9 y.style.margin m2 rtl (knS iw));(try rw [<-ht]at cm);(try rw [<-ht]at hb)
  obtain⟨f7,hu⟩:=nmE (wj y.style.margin m1 rtl);(try rw [<-hu]at hj);(try rw [<-hu]at hb)
  obtain⟨f8,hv⟩:=nmE (wj y.style.margin m2 rtl);(try rw [<-hv]at hm);(try rw [<-hv]at hb)
  have hd:=congrArg List.length h0
  rw [zqe]at hd
  have hJ:E.length<=1048576:=by rw [hi,ar];omega
  have h3:(hh++[f x])++rest.map f=R:=by rw [<-h0];simp
  have aE:E++[[.J f0,.J f1,.J f2,.J y.style.grow,.J y.style.shrink,.J f5,.J f6,.B f7,.B f8]]=vw af.c (hh++[f x]):=by rw [hi,br,hb];rfl
  obtain⟨E2,hG⟩:∃E2,E2=E++[[.J f0,.J f1,.J f2,.J y.style.grow,.J y.style.shrink,.J f5,.J f6,.B f7,.B f8]]:=⟨_,rfl⟩
  rw [<-hG]at aE
  have hP:=pmV aE
  clear hH hq hr hs ht hu hv hd hb
  cbv;rw [hc];cbv;refine goX hg _ z0 hy rfl ?_;cbv
  (repeat'((first|rw [e1]|refine ae hg cy ?_|refine aa hg cB ?_|refine aa hg hn ?_|refine aa hg ho ?_|refine ae hg cm ?_|refine aa hg hj ?_|refine aa hg hm ?_|refine dz hg rfl (by decide) hJ ?_;cbv;rw [gW hg,<-hG]);cbv))
  exact hB ((hh++[f x],E2)) _ _ ⟨h3,aE⟩ (Wk.weak (wkG [some _,some _,some 6] zr9 ⟨wqE rfl rfl,wqE rfl rfl,wqE rfl hP,trivial⟩ (by decide) aG))
theorem xH:∀{a b:List Int},b.length=a.length->vw aj a=(a.zip b).map (fun t=>lc (aj t.1))
 | [],b,h=>rfl
 |x::a,[],h=>by simp at h
 |x::a,y::b,h=>by rw [List.zip_cons_cons,zqA,<-xH (a:=a) (b:=b) (by simpa using h)];rfl
theorem Bi{a b:List Int}{i:Nat}{t:Int×Int}(h:(a.zip b)[i]? =some t):a[i]? =some t.1/\b[i]? =some t.2:=List.getElem?_zip_eq_some.1 h
theorem pQ(ns:List ag)(hl:ns.length<=1048576)(rtl:Bool)(b:Bv)(n:Int)(p:Pl)(zs:List Int)(hkl:p.kids.length<=1048576)(hzs:zs.length=p.kids.length)(hk:∀hb∈p.kids,isN ns hb=true)(ho:∀hb∈p.kids,Bc (vwA ag.ac ns) rtl b hb):da prog 50 [.agg (m7 (vwA ag.ac ns) rtl),.agg (plL n p.s p.w p.h p.row p.wide p.high p.al p.ac (.view (vw aj p.kids))),.c (.view (vw aj zs))] fun res hY=>res= .o 0/\hY=[⟨96,7,vw av.c (E9 b p rtl ns (p.kids.zip zs))⟩]:=by
 obtain⟨R,hR⟩:=nmE (E9 b p rtl ns (p.kids.zip zs))
 rw [<-hR]
 unfold E9 at hR
 obtain⟨f,hf⟩:∃f,f=fun q:Int×Int=>IW p (kst ns q.1) rtl (Ds b p.row q.1 ⟨3,q.2⟩ (Bh p (kst ns q.1) rtl q.2)):=⟨_,rfl⟩
 rw [<-hf]at hR
 have hW:(p.kids.zip zs).length<=1048576:=by rw [zqB];omega
 have xn:R.length<=1048576:=by rw [hR,zql];exact hW
 have hU:=xH hzs
 have xa:=fun{i t} h=>Bi (a:=p.kids) (b:=zs) (i:=i) (t:=t) h
 have xi:∀hb∈p.kids,∃y,ns[(hb-1).toNat]? =some y:=fun hb h=>(bC (hk hb h)).2.2
 have h9:=fun hb(h:hb∈p.kids) y hy Ky Ry=>dv ns hb y (bC (hk hb h)).1 (by have:=(bC (hk hb h)).2.1;omega) hy (vwA ag.ac ns) Ky Ry rfl
 obtain⟨s0,row,w,h,iw,ih,al,ac,kids⟩:=p
 dsimp only at *
 have cX:=fun hb(hh:hb∈kids) y hy=>kl ns hl hb y (hk hb hh) hy rtl n s0 w h row iw ih al ac (vw aj kids)
 change∀hb(hh:hb∈kids) y,ns[(hb-1).toNat]? =some y->PC0 _ _ (.t (agP (kcX ⟨s0,row,w,h,iw,ih,al,ac,kids⟩ y.style rtl)))at cX
 obtain⟨V,hV⟩:=nmE (vwA ag.ac ns)
 rw [<-hV]at ho h9 cX
 rw [<-hV]
 obtain⟨Z,hZ⟩:=nmE (vw aj zs)
 have xo:=lmV hZ
 have iZ:=imV hZ
 have kZ:=kmV (k:=1) hZ fun _=>rfl
 have dZ:=dmV hZ
 obtain⟨K,hK⟩:=nmE (vw aj kids)
 have xm:=lmV hK
 have iK:=imV hK
 have kK:=kmV (k:=1) hK fun _=>rfl
 have dK:=dmV hK
 rw [<-hK]at cX hU
 have xg:∀{i:Nat}{v:Int},zs[i]? =some v->Z[i]? =some [.J v]:=fun h=>by rw [hZ];exact ba h
 rw [<-hK,<-hZ]
 obtain⟨S,hS⟩:=nmE (vw av.c R);(try rw [<-hS]at⊢)
 obtain⟨am,an⟩:=ac
 have ck:=eJ am an
 obtain⟨KN,hD⟩:=nmE (knS ⟨am,an⟩)
 change PC0 _ _ (.i (knS ⟨am,an⟩))at ck
 rw [<-hD]at ck
 have cM:=jD s0 rtl
 obtain⟨m1,hQ⟩:=nmE (sd1 (!jO s0) (lN s0 rtl))
 obtain⟨m2,hT⟩:=nmE (sd2 (!jO s0) (lN s0 rtl))
 rw [<-hQ,<-hT]at cM
 have h8:∀(q:Int×Int) y,ns[(q.1-1).toNat]? =some y->∀kc,kc=kcX ⟨s0,row,w,h,iw,ih,al,⟨am,an⟩,kids⟩ y.style rtl->∀ax,ax=(if kc.mode≠3/\rU y.style (!row) KN= -1/\sM y.style (!row) q.2≠ -1 then⟨3,pi y.style (!row) KN (sM y.style (!row) q.2)⟩else kc)->∀bb,bb=Ds b row q.1 ⟨3,q.2⟩ ax->
   f q=⟨pi y.style (!row) KN (alB (!row) bb),o9 y.style.margin m1 rtl (knS iw),o9 y.style.margin m2 rtl (knS iw),wj y.style.margin m1 rtl,wj y.style.margin m2 rtl,Bg s0 y.style,sQ bb.base (pi y.style (!row) KN (alB (!row) bb))⟩:=fun q y hy kc xk ax xj bb hn=>by
  rw [hf,hn,xj,xk,hD,hQ,hT]
  dsimp only
  rw [km hy]
  rfl
 have cm:=fun k=>fN V rtl n s0 k w h row iw ih al ⟨am,an⟩ K m1 m2
 clear hf hD hQ hT
 obtain⟨wide,xb⟩:=nmE (!row)
 obtain⟨qs,hp⟩:=nmE (kids.zip zs);(try rw [<-hp]at hU);(try rw [<-hp]at xa);(try rw [<-hp]at hW);(try rw [<-hp]at hR)
 refine ad (aM f50) ay func50 fun g F hg hF=> ?_
 cbv
 (repeat'((first|refine ae hg ck ?_|refine ae hg cM ?_);cbv))
 replace hK:=hU
 refine aY hg ay (by kernel_rfl) K (fun t=>lc (aj t.1)) qs hK hW (fun z(s:List av×LLA)=>[(2,.v Z),(3,.p 0),(4,.p 1),(7,.i (KN)),(8,.t (abl ((!row)))),(9,.i (m1)),(10,.i (m2)),(11,.o 2),(34,.v K),(35,.i (g .ln K)),(36,.i (z))]) (fun z(s:List av×LLA)=>[.bx 78 3 (m7 V rtl),.bx 80 75 (plL n s0 w h row iw ih al ⟨am,an⟩ (.view K)),.rw ⟨96,7,s.2⟩]) (fun z(s:List av×LLA)=>s.2=vw av.c s.1) (fun(s:List av×LLA) rest=>s.1++rest.map f) (R) ([],[]) (by rw [hR];rfl) rfl (Wk.weak (wkG [some _,some _,none] FS ⟨wqE rfl rfl,wqE rfl rfl,⟨_,rfl,rfl⟩,trivial⟩ (by decide) aG)) (fun z s B hz h0 hi he=> ?_) (fun z s x rest B z0 z1 z2 hx hy h0 hi hc e1 hB=> ?_)
 ·obtain⟨hm,E⟩:=s
  dsimp only at hi h0
  have pE:=pmV hi
  obtain rfl:hm=R:=by simpa using h0
  rw [hS,<-hi]at hF
  cbv;rw [he];cbv
  exact bV hF rfl pE
 ·obtain⟨hm,E⟩:=s
  obtain⟨x0,x1⟩:=x
  dsimp only at hi h0 hy
  have xc:=xa hx
  have hq:x0∈kids:=zqd xc.1
  have xh:=xg xc.2
  obtain⟨y,hX⟩:=xi x0 hq
  have ha:=h8 (x0,x1) y hX _ rfl _ rfl _ rfl
  dsimp only at ha
  have cX:=cX x0 hq y hX
  have cy:=h9 x0 hq y hX _ _ rfl rfl
  have ho:=ho x0 hq
  obtain⟨Ky,xe⟩:=nmE (vw aj y.kids)
  obtain⟨Ry,xf⟩:=nmE (vw aK.c y.table.rules)
  rw [<-xe,<-xf]at cy
  have cm:=cm y.style
  have hr:=dQ y.style.margin m1 rtl
  have hs:=dQ y.style.margin m2 rtl
  have ht:=mJ s0 y.style
  have cf:=gJ y.style (!row) KN
  have cr:=jq y.style (!row) x1
  have h1:=jm x1
  obtain⟨⟨k0,k1⟩,h5⟩:∃q,q=kcX ⟨s0,row,w,h,iw,ih,al,⟨am,an⟩,kids⟩ y.style rtl:=⟨_,rfl⟩
  rw [<-h5]at cX ha
  dsimp only at ha
  obtain⟨FX,hC⟩:=nmE (rU y.style (!row) KN);(try rw [<-hC]at cf);(try rw [<-hC]at ha)
  obtain⟨RT,hE⟩:=nmE (sM y.style (!row) x1);(try rw [<-hE]at cr);(try rw [<-hE]at ha)
  have hu:=gL y.style (!row) KN RT
  obtain⟨B1,hw⟩:=nmE (pi y.style (!row) KN RT);(try rw [<-hw]at hu);(try rw [<-hw]at ha)
  have h2:=jm B1
  obtain⟨⟨j0,j1⟩,hd⟩:∃q,q=(if k0≠3/\FX= -1/\RT≠ -1 then(⟨3,B1⟩:az)else⟨k0,k1⟩):=⟨_,rfl⟩
  rw [<-hd]at ha
  have cZ:=nN V rtl b x0 ho n s0 w h row iw ih al ⟨am,an⟩ K 3 x1 j0 j1
  obtain⟨bb,hn⟩:=nmE (Ds b row x0 ⟨3,x1⟩ ⟨j0,j1⟩)
  rw [<-hn]at cZ ha
  have cQ:=ko (!row) bb
  obtain⟨SA,hG⟩:=nmE (alB (!row) bb);(try rw [<-hG]at cQ);(try rw [<-hG]at ha)
  have hv:=gL y.style (!row) KN SA
  obtain⟨f0,hI⟩:=nmE (pi y.style (!row) KN SA);(try rw [<-hI]at hv);(try rw [<-hI]at ha)
  obtain⟨f1,hJ⟩:=nmE (o9 y.style.margin m1 rtl (knS iw));(try rw [<-hJ]at cm);(try rw [<-hJ]at ha)
  obtain⟨f2,hL⟩:=nmE (o9 y.style.margin m2 rtl (knS iw));(try rw [<-hL]at cm);(try rw [<-hL]at ha)
  obtain⟨f3,hM⟩:=nmE (wj y.style.margin m1 rtl);(try rw [<-hM]at hr);(try rw [<-hM]at ha)
  obtain⟨f4,hN⟩:=nmE (wj y.style.margin m2 rtl);(try rw [<-hN]at hs);(try rw [<-hN]at ha)
  obtain⟨f5,hO⟩:=nmE (Bg s0 y.style);(try rw [<-hO]at ht);(try rw [<-hO]at ha)
  have e:jc.ac bb=[.J bb.wide,.J bb.high,.J bb.base,.view (vw aD.c bb.frames)]:=rfl
  rw [e]at cZ cQ
  obtain⟨FR,hA⟩:=nmE (vw aD.c bb.frames);(try rw [<-hA]at cZ);(try rw [<-hA]at cQ)
  obtain⟨b0,h6⟩:=nmE bb.wide
  obtain⟨b1,h7⟩:=nmE bb.high
  obtain⟨b3,hH⟩:=nmE bb.base
  rw [<-h6,<-h7,<-hH]at cZ cQ
  rw [<-hH]at ha
  obtain⟨f6,hP⟩:=nmE (sQ b3 f0)
  rw [<-hP]at ha
  have tm:g .mn b3 f0=f6:=by rw [I7 hg,hP];rfl
  have t0:g .q .neq (k0) (3)=decide (¬(k0)=(3)):=by rw [bj hg];exact dX _ _
  have t1:g .q .eql (FX) ((-1))=decide ((FX)=((-1))):=by rw [bn hg];exact zqn _ _
  have t2:g .q .neq (RT) ((-1))=decide (¬(RT)=((-1))):=by rw [bj hg];exact dX _ _
  have hj:=congrArg List.length h0
  rw [zqe]at hj
  have xd:E.length<=1048576:=by rw [hi,ar];omega
  have h3:(hm++[f (x0,x1)])++rest.map f=R:=by rw [<-h0];simp
  have aE:E++[[.J f0,.J f1,.J f2,.B f3,.B f4,.J f5,.J f6]]=vw av.c (hm++[f (x0,x1)]):=by rw [hi,br,ha];rfl
  obtain⟨E2,h4⟩:∃E2,E2=E++[[.J f0,.J f1,.J f2,.B f3,.B f4,.J f5,.J f6]]:=⟨_,rfl⟩
  rw [<-h4]at aE
  have xl:=pmV aE
  clear hI hJ hL hM hN hO hP hj ha e h6 h7 hH hA hG hn hC hE hw h5 h8
  cbv;rw [hc];cbv;refine goX hg _ z0 hy rfl ?_;cbv
  by_cases q0:k0=3
  case' neg=>
   by_cases q1:FX= -1
   case' pos=>
    by_cases q2:RT= -1
  all_goals
   first
    |rw [if_pos ⟨by assumption,by assumption,by assumption⟩]at hd
    |rw [if_neg (fun hh=>by first|exact hh.1 (by assumption)|exact absurd hh.2.1 (by assumption)|exact hh.2.2 (by assumption))]at hd
   simp only [az.mk.injEq]at hd
   obtain⟨rfl,rfl⟩:=hd
   ((first|rw [zqu q0]at t0|rw [zqt q0]at t0|rw [zqu (Classical.not_not.2 q0)]at t0|rw [zqt (Classical.not_not.2 q0)]at t0))
   (try((first|rw [zqu q1]at t1|rw [zqt q1]at t1|rw [zqu (Classical.not_not.2 q1)]at t1|rw [zqt (Classical.not_not.2 q1)]at t1)))
   (try((first|rw [zqu q2]at t2|rw [zqt q2]at t2|rw [zqu (Classical.not_not.2 q2)]at t2|rw [zqt (Classical.not_not.2 q2)]at t2)))
   ((repeat'((first|rw [t0]|rw [t1]|rw [t2]|rw [tm]|rw [e1]|refine ae hg cy ?_|refine ae hg cX ?_|refine aa hg cr ?_|refine ae hg cf ?_|refine ae hg hu ?_|refine ae hg h2 ?_|refine aa hg h1 ?_|refine aa hg cZ ?_|refine aa hg cQ ?_|refine aa hg hv ?_|refine aa hg ht ?_|refine ae hg cm ?_|refine aa hg hr ?_|refine aa hg hs ?_|refine goX hg _ z0 xh rfl ?_|refine dz hg rfl (by decide) xd ?_;cbv;rw [gW hg,<-h4]);cbv)))
   exact hB ((hm++[f (x0,x1)],E2)) _ _ ⟨h3,aE⟩ (Wk.weak (wkG [some _,some _,some 8] FS ⟨wqE rfl rfl,wqE rfl rfl,wqE rfl xl,trivial⟩ (by decide) aG))
section
variable {P:Program}{n0 N:Nat}{g:Gd}
theorem z7{β:BP}(hg:g=G0 P n0 N){h:EH}{n:Nat}{f:FuncId}{args args':List AT}{K:AV->EH->Prop}{a b c:Int}{ab:AB}(hc:da P f args' fun res hb=>res= .t (.agg [.J a,.J b,.J c,.own 0])/\hb=[ab])(hd:dwA args args')(hp:aB ab.es=true)
  (hK:K (.t (.agg [.J a,.J b,.J c,.own n])) [.rw ab]):g .PC f h n args K:=by
 subst hg
 refine⟨.t (.agg [.J a,.J b,.J c,.own n]),[ab],⟨args',_,hc,.inl ⟨hd,fun res hb ha=> ?_⟩⟩,[.rw ab],rfl,hK⟩
 obtain⟨rfl,rfl⟩:=ha
 exact⟨rfl,by simp only [zqA,List.map_nil,fL hp]⟩
end
def xC(q:jc)(res:AV)(rows:List AB):Prop:=res= .t (.agg [.J q.wide,.J q.high,.J q.base,.own 0])/\rows=[⟨156,5,vw aD.c q.frames⟩]
def FP(V:LLA)(rtl:Bool)(b:Bv)(kid:Int):Prop:=∀w0 w1 h0 h1:Int,da prog 98 [.agg (m7 V rtl),ai kid,agP ⟨w0,w1⟩,agP ⟨h0,h1⟩] (xC (b kid ⟨w0,w1⟩ ⟨h0,h1⟩))
def Hh(V:LLA)(rtl:Bool)(b:Bv)(kid:Int):Prop:=∀w0 w1 h0 h1:Int,da prog 45 [.agg (m7 V rtl),ai kid,agP ⟨w0,w1⟩,agP ⟨h0,h1⟩] (xC (b kid ⟨w0,w1⟩ ⟨h0,h1⟩))
theorem yi(V:LLA)(rtl:Bool)(b:Bv)(kid:Int)(hla:FP V rtl b kid):Hh V rtl b kid:=by
 intro w0 w1 h0 h1
 have cL:=hla w0 w1 h0 h1
 unfold xC at cL⊢
 obtain⟨bb,hc⟩:=nmE (b kid ⟨w0,w1⟩ ⟨h0,h1⟩)
 rw [<-hc]at cL⊢
 have hb:aB (vw aD.c bb.frames)=true:=aI _ _
 obtain⟨FR,ha⟩:=nmE (vw aD.c bb.frames);(try rw [<-ha]at cL);(try rw [<-ha]at hb);(try rw [<-ha]at⊢)
 refine iI ([(1,.hand),(3,.hand),(7,.hand),(9,.hand)]) ([]) (c:=aM f45) ay func45 (by kernel_rfl) (by kernel_rfl) (by rfl) (by kernel_rfl) fun g hi hd F he hf hg hF=> ?_
 cbv
 refine Ea hg hf ay 2 (by kernel_rfl) fun mk hh=> ?_
 cbv
 rw [hh]
 refine⟨_,_,_,_,_,Tryz.underlying76,rfl,rfl,rfl,rfl,?_⟩
 cbv
 refine qA hg cL rfl hb ?_
 cbv
 exact rV hF rfl hb
theorem yj(V:LLA)(rtl:Bool)(b:Bv)(kid:Int)(hla:Hh V rtl b kid):Bc V rtl b kid:=fun w0 w1 h0 h1=>
 wQ (hla w0 w1 h0 h1) (Dg (c:=aD.c) (k:=5) fun _=>rfl) tH
theorem nJ(n:Int)(s:ao)(wd hgh:az)(row:Bool)(iw ih al ac:az)(K:LLA)(xs:List af)(hl:xs.length<=1048576):PC0 40 [.agg (plL n s wd hgh row iw ih al ac (.view K)),.c (.view (vw af.c xs))] (.tup [.c (.view (vwA lnA (lns xs (ju s row) (kC al) (!decide (s.wrap=1))))),ai (tak al (lng xs (ju s row) (kC al) (!decide (s.wrap=1)))),.c (.view (vw aj (lsz xs (ju s row) (kC al) (!decide (s.wrap=1)) (tak al (lng xs (ju s row) (kC al) (!decide (s.wrap=1)))))))]):=by
 obtain⟨am,an⟩:=al
 have cG:=i9 s row
 have cR:=nV am an
 obtain⟨G,hG⟩:=nmE (ju s row);(try rw [<-hG]at cG);(try rw [<-hG]at⊢)
 obtain⟨M,hM⟩:=nmE (kC ⟨am,an⟩);(try rw [<-hM]at cR);(try rw [<-hM]at⊢)
 obtain⟨wr,hc⟩:=nmE ((!decide (s.wrap=1)))
 rw [<-hc]
 have cL:=qe xs G M wr hl
 obtain⟨LG,ha⟩:=nmE (lng xs G M wr);(try rw [<-ha]at cL);(try rw [<-ha]at⊢)
 have cT:=fE am an LG
 obtain⟨T,hT⟩:=nmE (tak ⟨am,an⟩ LG);(try rw [<-hT]at cT);(try rw [<-hT]at⊢)
 have cN:=jn xs G M wr hl
 have cS:=qf xs G M wr T hl
 obtain⟨LN,hb⟩:=nmE (vwA lnA (lns xs G M wr));(try rw [<-hb]at cN);(try rw [<-hb]at⊢)
 obtain⟨Z,hZ⟩:=nmE (vw aj (lsz xs G M wr T));(try rw [<-hZ]at cS);(try rw [<-hZ]at⊢)
 obtain⟨V,hV⟩:=nmE (vw af.c xs);(try rw [<-hV]at cL);(try rw [<-hV]at cN);(try rw [<-hV]at cS);(try rw [<-hV]at⊢)
 have t0:∀g:Gd,g=G0 prog 0 f40.ntmps->g .q .neq s.wrap 1=wr:=fun g hg=>by rw [bj hg,hc];exact(dX _ _).trans (by simp)
 clear hc hb hZ hV hT ha hG hM
 refine ad (aM f40) ay func40 fun g F hg hF=> ?_
 have t0:=t0 g hg
 cbv
 (repeat'((first|rw [t0]|refine aa hg cG ?_|refine aa hg cR ?_|refine aa hg cL ?_|refine aa hg cT ?_|refine ae hg cN ?_|refine ae hg cS ?_);cbv))
 exact fw hF rfl ⟨rfl,rfl⟩
theorem kQ(n:Int)(s:ao)(row:Bool)(al ac:az)(kn:Int)(K:LLA)(xs:List af)(hl:xs.length<=1048576):PC0 66 [.agg (nwL n s row al ac kn (.view K)),.c (.view (vw af.c xs))] (.i (tak al (lng xs (ju s row) (kC al) (!decide (s.wrap=1))))):=by
 obtain⟨am,an⟩:=al
 have cG:=gR s row
 have cR:=ip am an
 obtain⟨G,hG⟩:=nmE (ju s row);(try rw [<-hG]at cG);(try rw [<-hG]at⊢)
 obtain⟨M,hM⟩:=nmE (kC ⟨am,an⟩);(try rw [<-hM]at cR);(try rw [<-hM]at⊢)
 obtain⟨wr,hb⟩:=nmE ((!decide (s.wrap=1)))
 rw [<-hb]
 have cL:=py xs G M wr hl
 obtain⟨LG,ha⟩:=nmE (lng xs G M wr);(try rw [<-ha]at cL);(try rw [<-ha]at⊢)
 have cT:=ea am an LG
 obtain⟨T,hT⟩:=nmE (tak ⟨am,an⟩ LG);(try rw [<-hT]at cT);(try rw [<-hT]at⊢)
 obtain⟨V,hV⟩:=nmE (vw af.c xs);(try rw [<-hV]at cL);(try rw [<-hV]at⊢)
 have t0:∀g:Gd,g=G0 prog 0 f66.ntmps->g .q .neq s.wrap 1=wr:=fun g hg=>by rw [bj hg,hb];exact(dX _ _).trans (by simp)
 clear hb hV hT ha hG hM
 refine ad (aM f66) ay func66 fun g F hg hF=> ?_
 have t0:=t0 g hg
 cbv
 (repeat'((first|rw [t0]|refine aa hg cG ?_|refine aa hg cR ?_|refine aa hg cL ?_|refine aa hg cT ?_);cbv))
 exact aV hF rfl
theorem qF(n:Int)(s:ao)(row:Bool)(al ac:az)(kn:Int)(K:LLA)(xs:List af)(hl:xs.length<=1048576):PC0 35 [.agg (nwL n s row al ac kn (.view K)),.c (.view (vw af.c xs))] (.t (.c (.view (vw aj (lsz xs (ju s row) (kC al) (!decide (s.wrap=1)) (tak al (lng xs (ju s row) (kC al) (!decide (s.wrap=1))))))))):=by
 have cI:=kQ n s row al ac kn K xs hl
 obtain⟨T,hT⟩:=nmE (tak al (lng xs (ju s row) (kC al) (!decide (s.wrap=1))));(try rw [<-hT]at cI);(try rw [<-hT]at⊢)
 obtain⟨am,an⟩:=al
 have cG:=gR s row
 have cR:=ip am an
 obtain⟨G,hG⟩:=nmE (ju s row);(try rw [<-hG]at cG);(try rw [<-hG]at⊢)
 obtain⟨M,hM⟩:=nmE (kC ⟨am,an⟩);(try rw [<-hM]at cR);(try rw [<-hM]at⊢)
 obtain⟨wr,ha⟩:=nmE ((!decide (s.wrap=1)))
 rw [<-ha]
 have cS:=pz xs G M wr T hl
 obtain⟨Z,hZ⟩:=nmE (vw aj (lsz xs G M wr T));(try rw [<-hZ]at cS);(try rw [<-hZ]at⊢)
 obtain⟨V,hV⟩:=nmE (vw af.c xs);(try rw [<-hV]at cI);(try rw [<-hV]at cS);(try rw [<-hV]at⊢)
 have t0:∀g:Gd,g=G0 prog 0 f35.ntmps->g .q .neq s.wrap 1=wr:=fun g hg=>by rw [bj hg,ha];exact(dX _ _).trans (by simp)
 clear ha hV hZ hT hG hM
 refine ad (aM f35) ay func35 fun g F hg hF=> ?_
 have t0:=t0 g hg
 cbv
 (repeat'((first|rw [t0]|refine aa hg cG ?_|refine aa hg cR ?_|refine aa hg cI ?_|refine aa hg cS ?_);cbv))
 exact fw hF rfl ⟨rfl,rfl⟩
theorem nQ{l r:List Int}{m:Int}{n:Nat}(h:l++r=ixs m n):l.length<=n/\l=ixs m l.length/\r=ixs (m+l.length) (n-l.length):=by
 have ha:=congrArg List.length h
 rw [zqe,bU]at ha
 have hb:l.length<=n:=by omega
 have e:ixs m n=ixs m l.length++ixs (m+l.length) (n-l.length):=by rw [<-jV,show l.length+(n-l.length)=n by omega]
 rw [e]at h
 have:=List.append_inj h (by rw [bU])
 exact⟨hb,this.1,this.2⟩
theorem lZ{l:List Int}{ls:List (List Int)}{m:Int}{n:Nat}(h:(l::ls).flatten=ixs m n):l.length<=n/\l=ixs m l.length/\ls.flatten=ixs (m+l.length) (n-l.length):=by
 rw [List.flatten_cons]at h
 exact nQ h
theorem zP(p:Pl)(ns:List ag)(sides:List av)(sizes:List Int):∀(ls:List (List Int×Int)),(CO p ns sides sizes ls).length=(ls.map (·.1)).flatten.length
 | []=>rfl
 |q::r=>by
  have:=zP p ns sides sizes r
  simp only [CO,List.flatMap_cons,zqe,zql,zqA,List.flatten_cons]at this⊢
  omega
theorem l9(p:Pl)(rtl:Bool)(inner across:Int)(sizes:List Int)(sides:List av)(st c lb:Int)(ps:List Int):∀(ln:List Int)(j:Int),(sk p rtl inner across sizes sides st c lb ps j ln).length=ln.length
 | [],_=>rfl
 |i::r,j=>by simp only [sk,zqx,l9 p rtl inner across sizes sides st c lb ps r]
theorem qw(p:Pl)(rtl:Bool)(items:List af)(inner across:Int)(sizes:List Int)(sides:List av)(sts:List Int):∀(ls:List (List Int×Int))(k:Int),(xh p rtl items inner across sizes sides sts k ls).length=(ls.map (·.1)).flatten.length
 | [],_=>rfl
 |(l,c)::r,k=>by simp only [xh,zqe,l9,zqA,List.flatten_cons,qw p rtl items inner across sizes sides sts r]
theorem DA(cs:List Int)(gap inner ct:Int)(hl:cs.length<=64):(xD cs gap inner ct).length=cs.length:=by
 unfold xD
 split
 ·have ha:(evn (wrap64 (inner-crt cs gap)) (cs.length:Int)).length=cs.length:=by rw [ii];have:=od (many:=(cs.length:Int)) (by omega) (by omega);omega
  rw [zql,zqB,ha];omega
 ·rfl
theorem qz(p:Pl)(ls:List (List Int))(sides:List av)(hl:ls.length<=64):(yy p ls sides).length=ls.length:=by
 unfold yy
 split
 ·rw [DA _ _ _ _ (by rw [zql];exact hl),zql]
 ·rw [zql]
theorem zF(b:Bv)(p:Pl)(rtl:Bool)(ns:List ag)(ks:List Int):(Dk b p rtl ns ks).length=ks.length:=zql ..
theorem uB(p:Pl)(xs:List af):(sn p xs).length=xs.length:=yg ..
theorem DI(b:Bv)(p:Pl)(rtl:Bool)(ns:List ag)(ks:List (Int×Int)):(E9 b p rtl ns ks).length=ks.length:=zql ..
theorem qk{α:Type}{c:α->List AC}:∀{a:List α}{b:List Int},b.length=a.length->vwA c a=(a.zip b).map (fun t=>c t.1)
 | [],b,h=>rfl
 |x::a,[],h=>by simp at h
 |x::a,y::b,h=>by
  have:=qk (c:=c) (a:=a) (b:=b) (by simpa using h)
  simp only [vwA]at this⊢
  rw [List.zip_cons_cons,zqA,zqA,<-this]
theorem e9{α:Type}:∀{a:List α}{b:List Int},b.length=a.length->(a.zip b).map (·.1)=a
 | [],b,h=>rfl
 |x::a,[],h=>by simp at h
 |x::a,y::b,h=>by rw [List.zip_cons_cons,zqA,e9 (by simpa using h)]
theorem xG{α β:Type}{a:List α}{b:List β}{i:Nat}{t:α×β}(h:(a.zip b)[i]? =some t):a[i]? =some t.1/\b[i]? =some t.2:=List.getElem?_zip_eq_some.1 h
theorem wI{sides:List av}{i:Int}{y:av}(h0:0<=i)(h:sides[i.toNat]? =some y):sdZ sides i=y:=by
 unfold sdZ;rw [if_pos h0,h];rfl
end Go.Proofs.YtkicjdeddpihaaaGreat
