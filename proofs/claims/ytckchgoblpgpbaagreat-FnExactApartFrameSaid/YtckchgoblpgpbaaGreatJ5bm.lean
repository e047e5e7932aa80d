/- Lines zipped with their crosses; a side that is looked up. -/
import Derived.Test.YtckchgoblpgpbaaGreatJ5bl
set_option linter.unusedVariables false
set_option linter.unusedSimpArgs false
set_option maxHeartbeats 16000000
namespace Go.Proofs.YtckchgoblpgpbaaGreat
open Go.ChangeShapes Go.WideShapes Go.ChangeAt Go.RowKit Am Go.Proofs.Tryz
set_option maxRecDepth 100000
theorem qG(ns:List af)(hl:ns.length<=1048576)(kid:Int)(y:af)(h1:isN ns kid=true)(hy:ns[(kid-1).toNat]? =some y)(rtl:Bool)(b:Bv)(hbx:wt (vwA af.ac ns) rtl b kid)(n:Int)(p:Pl)(K:LLA):PC0 233 [.agg (mo (vwA af.ac ns) rtl),.agg (plL n p.s p.w p.h p.row p.wide p.high p.al p.ac (.view K)),ai kid] (.i (CS b p rtl ns kid)):=by
 obtain⟨s,row,w,h,iw,ih,al,ac,kids⟩:=p
 obtain⟨Ky,hx⟩:=nmE (vw ak y.kids)
 obtain⟨Ry,hz⟩:=nmE (vw aO.c y.table.rules)
 have b2:=bq h1
 obtain⟨R,hR⟩:=nmE (CS b ⟨s,row,w,h,iw,ih,al,ac,kids⟩ rtl ns kid)
 rw [<-hR]
 unfold CS at hR
 rw [gU hy]at hR
 unfold CT at hR
 dsimp only at hR⊢
 have cX:=jZ ns hl kid y h1 hy rtl n s w h row iw ih al ac K
 change PC0 _ _ (.t (agP (kcX ⟨s,row,w,h,iw,ih,al,ac,kids⟩ y.style rtl)))at cX
 obtain⟨V,hV⟩:=nmE (vwA af.ac ns)
 have cy:=bP ns kid y b2.1 (by have:=b2.2.1;omega) hy V Ky Ry hV hx hz
 rw [<-hV]at hbx cX⊢
 obtain⟨⟨k0,k1⟩,hs⟩:∃q,q=kcX ⟨s,row,w,h,iw,ih,al,ac,kids⟩ y.style rtl:=⟨_,rfl⟩
 rw [<-hs]at cX hR
 obtain⟨⟨g0,g1⟩,hc⟩:∃q,q=EN ⟨s,row,w,h,iw,ih,al,ac,kids⟩ y.style rtl:=⟨_,rfl⟩
 rw [<-hc]at hR
 have cZ:=nx V rtl b kid hbx n s w h row iw ih al ac K g0 g1 k0 k1
 obtain⟨bb,hw⟩:=nmE (BG b row kid ⟨g0,g1⟩ ⟨k0,k1⟩)
 rw [<-hw]at cZ hR
 have cQ:=j7 row bb
 obtain⟨SA,hn⟩:=nmE (alB row bb);(try rw [<-hn]at cQ);(try rw [<-hn]at hR)
 obtain⟨am,an⟩:=al
 have ck:=eJ am an
 obtain⟨KN,hi⟩:=nmE (knS ⟨am,an⟩);(try rw [<-hi]at ck);(try rw [<-hi]at hR)
 have cs:=ef y.style.basis.kind y.style.basis.n KN
 change PC0 _ _ (.i (sF y.style.basis KN))at cs
 have cf:=eV y.style row KN
 have cr:=gC y.style row k1
 obtain⟨SZ,ho⟩:=nmE (sF y.style.basis KN);(try rw [<-ho]at cs);(try rw [<-ho]at hR)
 obtain⟨FX,hh⟩:=nmE (ph y.style row KN);(try rw [<-hh]at cf);(try rw [<-hh]at hR)
 obtain⟨RT,hm⟩:=nmE (qn y.style row k1);(try rw [<-hm]at cr);(try rw [<-hm]at hR)
 have e:ju.ac bb=[.J bb.wide,.J bb.high,.J bb.base,.view (vw aM.c bb.frames)]:=rfl
 rw [e]at cZ cQ
 obtain⟨FR,hf⟩:=nmE (vw aM.c bb.frames);(try rw [<-hf]at cZ);(try rw [<-hf]at cQ)
 obtain⟨b0,ht⟩:=nmE bb.wide
 obtain⟨b1,hu⟩:=nmE bb.high
 obtain⟨b3,hv⟩:=nmE bb.base
 rw [<-ht,<-hu,<-hv]at cZ cQ
 clear ht hu hv e hw hn ho hh hm hi hs
 have cM:=ka s rtl
 obtain⟨m1,hp⟩:=nmE (sd1 (jF s) (lh s rtl))
 obtain⟨m2,hq⟩:=nmE (sd2 (jF s) (lh s rtl))
 rw [<-hp,<-hq]at cM
 have cm:=fM V rtl n s y.style w h row iw ih ⟨am,an⟩ ac K m1 m2
 simp only [EN,xS,sdB,sdM,if_true]at hc
 rw [<-hp,<-hq]at hc
 obtain⟨M1,hj⟩:=nmE (i9 y.style.margin m1 rtl (knS iw))
 obtain⟨M2,hk⟩:=nmE (i9 y.style.margin m2 rtl (knS iw))
 rw [<-hj,<-hk]at cm
 have ha:(⟨g0,g1⟩:aI)=if row=true then Cb (o7 ⟨am,an⟩ (wrap64 (M1+M2)))else⟨1,0⟩:=by rw [hc,hj,hk]
 clear hc hj hk hp hq
 obtain⟨BB,he⟩:=nmE (wrap64 (M1+M2))
 rw [<-he]at ha
 have cI:=eN am an BB
 obtain⟨⟨i0,i1⟩,hI⟩:∃q,q=o7 ⟨am,an⟩ BB:=⟨_,rfl⟩
 rw [<-hI]at cI ha
 have cL:=lu i0 i1
 have t4:∀g:Gd,g=G0 prog 0 f233.ntmps->g .w .add .i64 M1 M2=BB:=fun g hg=>by rw [aN hg,he]
 clear hI he hf
 have hd:R=if¬SZ= -1 then SZ else if¬FX= -1 then FX else if k0=3/\¬RT= -1 then RT else SA:=by
  rw [hR]
  by_cases q1:SZ= -1<;>by_cases q2:FX= -1<;>by_cases q3:k0=3<;>by_cases q4:RT= -1<;>simp [q1,q2,q3,q4]
 clear hR
 refine ae (aJ f233) ay func233 fun g F hg hF=> ?_
 have t0:g .q .neq (SZ) ((-1))=decide (¬(SZ)=((-1))):=by rw [bn hg];exact dN _ _
 have t1:g .q .neq (FX) ((-1))=decide (¬(FX)=((-1))):=by rw [bn hg];exact dN _ _
 have t2:g .q .eql (k0) (3)=decide ((k0)=(3)):=by rw [bj hg];exact zqn _ _
 have t3:g .q .neq (RT) ((-1))=decide (¬(RT)=((-1))):=by rw [bn hg];exact dN _ _
 have t4:=t4 g hg
 cbv
 by_cases q1:SZ= -1
 case neg=>
  (first|rw [zqu q1]at t0|rw [zqt q1]at t0|rw [zqu (Classical.not_not.2 q1)]at t0|rw [zqt (Classical.not_not.2 q1)]at t0)
  (repeat'((first|rw [t0]|refine ad hg cy ?_|refine ad hg ck ?_|refine ad hg cs ?_);cbv))
  exact aV hF (by rw [hd,if_pos q1])
 by_cases q2:FX= -1
 case neg=>
  (first|rw [zqu q1]at t0|rw [zqt q1]at t0|rw [zqu (Classical.not_not.2 q1)]at t0|rw [zqt (Classical.not_not.2 q1)]at t0)
  (first|rw [zqu q2]at t1|rw [zqt q2]at t1|rw [zqu (Classical.not_not.2 q2)]at t1|rw [zqt (Classical.not_not.2 q2)]at t1)
  (repeat'((first|rw [t0]|rw [t1]|refine ad hg cy ?_|refine ad hg ck ?_|refine ad hg cs ?_|refine ad hg cf ?_);cbv))
  exact aV hF (by rw [hd,if_neg (fun x=>x q1),if_pos q2])
 have hb:R=if k0=3/\¬RT= -1 then RT else SA:=by rw [hd,if_neg (fun x=>x q1),if_neg (fun x=>x q2)]
 (first|rw [zqu q1]at t0|rw [zqt q1]at t0|rw [zqu (Classical.not_not.2 q1)]at t0|rw [zqt (Classical.not_not.2 q1)]at t0)
 (first|rw [zqu q2]at t1|rw [zqt q2]at t1|rw [zqu (Classical.not_not.2 q2)]at t1|rw [zqt (Classical.not_not.2 q2)]at t1)
 (repeat'((first|rw [t0]|rw [t1]|refine ad hg cy ?_|refine ad hg ck ?_|refine ad hg cs ?_|refine ad hg cf ?_|refine ad hg cX ?_);cbv))
 clear hd
 have fin:SA=R->(row=true->PC0 283 [.agg [.J i0,.J i1]] (.t (agP ⟨g0,g1⟩))):=fun _ hr=>by rw [ha,if_pos hr];exact cL
 by_cases q3:k0=3
 case pos=>
  by_cases q4:RT= -1
  case neg=>
   rw [if_pos ⟨q3,q4⟩]at hb
   (first|rw [zqu q3]at t2|rw [zqt q3]at t2|rw [zqu (Classical.not_not.2 q3)]at t2|rw [zqt (Classical.not_not.2 q3)]at t2)
   (first|rw [zqu q4]at t3|rw [zqt q4]at t3|rw [zqu (Classical.not_not.2 q4)]at t3|rw [zqt (Classical.not_not.2 q4)]at t3)
   (repeat'((first|rw [t2]|rw [t3]|refine ad hg cr ?_);cbv))
   exact aV hF hb.symm
  rw [if_neg (fun x=>x.2 q4)]at hb
  have fin:=fin hb.symm
  (first|rw [zqu q3]at t2|rw [zqt q3]at t2|rw [zqu (Classical.not_not.2 q3)]at t2|rw [zqt (Classical.not_not.2 q3)]at t2)
  (first|rw [zqu q4]at t3|rw [zqt q4]at t3|rw [zqu (Classical.not_not.2 q4)]at t3|rw [zqt (Classical.not_not.2 q4)]at t3)
  (repeat'((first|rw [t2]|rw [t3]|refine ad hg cr ?_);cbv))
  cases row
  ·rw [if_neg (by decide)]at ha
   simp only [aI.mk.injEq]at ha
   obtain⟨rfl,rfl⟩:=ha
   try cbv
   (repeat'((first|refine aa hg cZ ?_|refine aa hg cQ ?_);cbv))
   exact aV hF hb.symm
  ·have cL:=fin rfl
   try cbv
   (repeat'((first|rw [t4]|refine ad hg cM ?_|refine ad hg cm ?_|refine ad hg cI ?_|refine ad hg cL ?_|refine aa hg cZ ?_|refine aa hg cQ ?_);cbv))
   exact aV hF hb.symm
 case neg=>
  rw [if_neg (fun x=>q3 x.1)]at hb
  have fin:=fin hb.symm
  (first|rw [zqu q3]at t2|rw [zqt q3]at t2|rw [zqu (Classical.not_not.2 q3)]at t2|rw [zqt (Classical.not_not.2 q3)]at t2)
  (repeat'(rw [t2];cbv))
  cases row
  ·rw [if_neg (by decide)]at ha
   simp only [aI.mk.injEq]at ha
   obtain⟨rfl,rfl⟩:=ha
   try cbv
   (repeat'((first|refine aa hg cZ ?_|refine aa hg cQ ?_);cbv))
   exact aV hF hb.symm
  ·have cL:=fin rfl
   try cbv
   (repeat'((first|rw [t4]|refine ad hg cM ?_|refine ad hg cm ?_|refine ad hg cI ?_|refine ad hg cL ?_|refine aa hg cZ ?_|refine aa hg cQ ?_);cbv))
   exact aV hF hb.symm
theorem o6(ns:List af)(hl:ns.length<=1048576)(rtl:Bool)(b:Bv)(n:Int)(p:Pl)(hkl:p.kids.length<=1048576)(hk:∀ha∈p.kids,isN ns ha=true)(hbx:∀ha∈p.kids,wt (vwA af.ac ns) rtl b ha):dc prog 173 [.agg (mo (vwA af.ac ns) rtl),.agg (plL n p.s p.w p.h p.row p.wide p.high p.al p.ac (.view (vw ak p.kids)))] fun res hE=>res= .o 0/\hE=[⟨237,9,vw ag.c (Ck b p rtl ns p.kids)⟩]:=by
 obtain⟨R,hR⟩:=nmE (Ck b p rtl ns p.kids)
 rw [<-hR]
 unfold Ck at hR
 obtain⟨f,hf⟩:∃f,f=fun k=>FM p (kst ns k) rtl (CS b p rtl ns k):=⟨_,rfl⟩
 rw [<-hf]at hR
 have hT:R.length<=1048576:=by rw [hR,zql];exact hkl
 have cB:=fun ha(h:ha∈p.kids) y hy=>qG ns hl ha y (hk ha h) hy rtl b (hbx ha h) n p (vw ak p.kids)
 have hN:∀ha∈p.kids,∃y,ns[(ha-1).toNat]? =some y:=fun ha h=>(bq (hk ha h)).2.2
 have hI:=fun ha(h:ha∈p.kids) y hy Ky Ry=>bP ns ha y (bq (hk ha h)).1 (by have:=(bq (hk ha h)).2.1;omega) hy (vwA af.ac ns) Ky Ry rfl
 obtain⟨s0,row,w,h,iw,ih,al,ac,kids⟩:=p
 dsimp only at *
 obtain⟨V,hV⟩:=nmE (vwA af.ac ns)
 rw [<-hV]at cB hI
 rw [<-hV]
 obtain⟨K,hK⟩:=nmE (vw ak kids)
 have hQ:=lmV hK
 have iK:=imV hK
 have kK:=kmV (k:=1) hK fun _=>rfl
 have dK:=dmV hK
 rw [<-hK]at cB
 rw [<-hK]
 obtain⟨S,hS⟩:=nmE (vw ag.c R);(try rw [<-hS]at⊢)
 obtain⟨am,an⟩:=al
 have ck:=eJ am an
 obtain⟨KN,hp⟩:=nmE (knS ⟨am,an⟩)
 change PC0 _ _ (.i (knS ⟨am,an⟩))at ck
 rw [<-hp]at ck
 have cM:=ka s0 rtl
 obtain⟨m1,hw⟩:=nmE (sd1 (jF s0) (lh s0 rtl))
 obtain⟨m2,hA⟩:=nmE (sd2 (jF s0) (lh s0 rtl))
 rw [<-hw,<-hA]at cM
 have hO:∀k y,ns[(k-1).toNat]? =some y->f k=⟨CS b ⟨s0,row,w,h,iw,ih,⟨am,an⟩,ac,kids⟩ rtl ns k,Ar y.style row KN,BA y.style row KN,y.style.grow,y.style.shrink,i9 y.style.margin m1 rtl (knS iw),i9 y.style.margin m2 rtl (knS iw),u4 y.style.margin m1 rtl,u4 y.style.margin m2 rtl⟩:=fun k y hy=>by
  rw [hf,hp,hw,hA]
  dsimp only
  rw [gU hy]
  rfl
 have cm:=fun k=>fM V rtl n s0 k w h row iw ih ⟨am,an⟩ ac K m1 m2
 clear hf hp hw hA
 refine ae (aJ f173) ay func173 fun g F hg hF=> ?_
 cbv
 (repeat'((first|refine ad hg ck ?_|refine ad hg cM ?_);cbv))
 refine aY hg ay (by kernel_rfl) K (fun x=>lc (ak x)) kids hK hkl (fun z(s:List ag×LLA)=>[(2,.p 0),(3,.p 1),(5,.i (KN)),(6,.i (m1)),(7,.i (m2)),(8,.o 2),(25,.v K),(26,.i (g .ln K)),(27,.i (z))]) (fun z(s:List ag×LLA)=>[.bx 76 3 (mo V rtl),.bx 196 75 (plL n s0 w h row iw ih ⟨am,an⟩ ac (.view K)),.rw ⟨237,9,s.2⟩]) (fun z(s:List ag×LLA)=>s.2=vw ag.c s.1) (fun(s:List ag×LLA) rest=>s.1++rest.map f) (R) ([],[]) (by rw [hR];rfl) rfl (Wk.weak (wkG [some _,some _,none] zr9 ⟨wqE rfl rfl,wqE rfl rfl,⟨_,rfl,rfl⟩,trivial⟩ (by decide) aD)) (fun z s B hz h0 hi he=> ?_) (fun z s x rest B z0 z1 z2 hx hy h0 hi hc e1 hB=> ?_)
 ·obtain⟨hh,E⟩:=s
  dsimp only at hi h0
  have pE:=pmV hi
  obtain rfl:hh=R:=by simpa using h0
  rw [hS,<-hi]at hF
  cbv;rw [he];cbv
  exact bR hF rfl pE
 ·obtain⟨hh,E⟩:=s
  dsimp only at hi h0
  have hC:x∈kids:=zqd hx
  obtain⟨y,hD⟩:=hN x hC
  have hb:=hO x y hD
  have cB:=cB x hC y hD
  have cy:=hI x hC y hD _ _ rfl rfl
  obtain⟨Ky,hL⟩:=nmE (vw ak y.kids)
  obtain⟨Ry,hM⟩:=nmE (vw aO.c y.table.rules)
  rw [<-hL,<-hM]at cy
  have cm:=cm y.style
  have hn:=jb y.style row KN
  have ho:=jO y.style row KN
  have hj:=dJ y.style.margin m1 rtl
  have hm:=dJ y.style.margin m2 rtl
  obtain⟨f0,hH⟩:=nmE (CS b ⟨s0,row,w,h,iw,ih,⟨am,an⟩,ac,kids⟩ rtl ns x)
  rw [<-hH]at cB hb
  obtain⟨f1,hq⟩:=nmE (Ar y.style row KN);(try rw [<-hq]at hn);(try rw [<-hq]at hb)
  obtain⟨f2,hr⟩:=nmE (BA y.style row KN);(try rw [<-hr]at ho);(try rw [<-hr]at hb)
  obtain⟨f5,hs⟩:=nmE (i9 y.style.margin m1 rtl (knS iw));(try rw [<-hs]at cm);(try rw [<-hs]at hb)
  obtain⟨f6,ht⟩:=nmE (i9 y.style.margin m2 rtl (knS iw));(try rw [<-ht]at cm);(try rw [<-ht]at hb)
  obtain⟨f7,hu⟩:=nmE (u4 y.style.margin m1 rtl);(try rw [<-hu]at hj);(try rw [<-hu]at hb)
  obtain⟨f8,hv⟩:=nmE (u4 y.style.margin m2 rtl);(try rw [<-hv]at hm);(try rw [<-hv]at hb)
  have hd:=congrArg List.length h0
  rw [zqe]at hd
  have hJ:E.length<=1048576:=by rw [hi,aq];omega
  have h3:(hh++[f x])++rest.map f=R:=by rw [<-h0];simp
  have aE:E++[[.J f0,.J f1,.J f2,.J y.style.grow,.J y.style.shrink,.J f5,.J f6,.B f7,.B f8]]=vw ag.c (hh++[f x]):=by rw [hi,bv,hb];rfl
  obtain⟨E2,hG⟩:∃E2,E2=E++[[.J f0,.J f1,.J f2,.J y.style.grow,.J y.style.shrink,.J f5,.J f6,.B f7,.B f8]]:=⟨_,rfl⟩
  rw [<-hG]at aE
  have hP:=pmV aE
  clear hH hq hr hs ht hu hv hd hb
  cbv;rw [hc];cbv;refine goX hg _ z0 hy rfl ?_;cbv
  (repeat'((first|rw [e1]|refine ad hg cy ?_|refine aa hg cB ?_|refine aa hg hn ?_|refine aa hg ho ?_|refine ad hg cm ?_|refine aa hg hj ?_|refine aa hg hm ?_|refine dg hg rfl (by decide) hJ ?_;cbv;rw [gd hg,<-hG]);cbv))
  exact hB ((hh++[f x],E2)) _ _ ⟨h3,aE⟩ (Wk.weak (wkG [some _,some _,some 6] zr9 ⟨wqE rfl rfl,wqE rfl rfl,wqE rfl hP,trivial⟩ (by decide) aD))
theorem wB:∀{a b:List Int},b.length=a.length->vw ak a=(a.zip b).map (fun t=>lc (ak t.1))
 | [],b,h=>rfl
 |x::a,[],h=>by simp at h
 |x::a,y::b,h=>by rw [List.zip_cons_cons,zqA,<-wB (a:=a) (b:=b) (by simpa using h)];rfl
theorem zC{a b:List Int}{i:Nat}{t:Int×Int}(h:(a.zip b)[i]? =some t):a[i]? =some t.1/\b[i]? =some t.2:=List.getElem?_zip_eq_some.1 h
theorem o5(ns:List af)(hl:ns.length<=1048576)(rtl:Bool)(b:Bv)(n:Int)(p:Pl)(zs:List Int)(hkl:p.kids.length<=1048576)(hzs:zs.length=p.kids.length)(hk:∀hb∈p.kids,isN ns hb=true)(ho:∀hb∈p.kids,wt (vwA af.ac ns) rtl b hb):dc prog 175 [.agg (mo (vwA af.ac ns) rtl),.agg (plL n p.s p.w p.h p.row p.wide p.high p.al p.ac (.view (vw ak p.kids))),.c (.view (vw ak zs))] fun res hY=>res= .o 0/\hY=[⟨210,7,vw ar.c (C7 b p rtl ns (p.kids.zip zs))⟩]:=by
 obtain⟨R,hR⟩:=nmE (C7 b p rtl ns (p.kids.zip zs))
 rw [<-hR]
 unfold C7 at hR
 obtain⟨f,hf⟩:∃f,f=fun q:Int×Int=>Gv p (kst ns q.1) rtl (BG b p.row q.1 ⟨3,q.2⟩ (zA p (kst ns q.1) rtl q.2)):=⟨_,rfl⟩
 rw [<-hf]at hR
 have hW:(p.kids.zip zs).length<=1048576:=by rw [zqB];omega
 have xn:R.length<=1048576:=by rw [hR,zql];exact hW
 have hU:=wB hzs
 have xa:=fun{i t} h=>zC (a:=p.kids) (b:=zs) (i:=i) (t:=t) h
 have xi:∀hb∈p.kids,∃y,ns[(hb-1).toNat]? =some y:=fun hb h=>(bq (hk hb h)).2.2
 have h9:=fun hb(h:hb∈p.kids) y hy Ky Ry=>bP ns hb y (bq (hk hb h)).1 (by have:=(bq (hk hb h)).2.1;omega) hy (vwA af.ac ns) Ky Ry rfl
 obtain⟨s0,row,w,h,iw,ih,al,ac,kids⟩:=p
 dsimp only at *
 have cX:=fun hb(hh:hb∈kids) y hy=>jZ ns hl hb y (hk hb hh) hy rtl n s0 w h row iw ih al ac (vw ak kids)
 change∀hb(hh:hb∈kids) y,ns[(hb-1).toNat]? =some y->PC0 _ _ (.t (agP (kcX ⟨s0,row,w,h,iw,ih,al,ac,kids⟩ y.style rtl)))at cX
 obtain⟨V,hV⟩:=nmE (vwA af.ac ns)
 rw [<-hV]at ho h9 cX
 rw [<-hV]
 obtain⟨Z,hZ⟩:=nmE (vw ak zs)
 have xo:=lmV hZ
 have iZ:=imV hZ
 have kZ:=kmV (k:=1) hZ fun _=>rfl
 have dZ:=dmV hZ
 obtain⟨K,hK⟩:=nmE (vw ak kids)
 have xm:=lmV hK
 have iK:=imV hK
 have kK:=kmV (k:=1) hK fun _=>rfl
 have dK:=dmV hK
 rw [<-hK]at cX hU
 have xg:∀{i:Nat}{v:Int},zs[i]? =some v->Z[i]? =some [.J v]:=fun h=>by rw [hZ];exact bf h
 rw [<-hK,<-hZ]
 obtain⟨S,hS⟩:=nmE (vw ar.c R);(try rw [<-hS]at⊢)
 obtain⟨am,an⟩:=ac
 have ck:=eJ am an
 obtain⟨KN,hD⟩:=nmE (knS ⟨am,an⟩)
 change PC0 _ _ (.i (knS ⟨am,an⟩))at ck
 rw [<-hD]at ck
 have cM:=jo s0 rtl
 obtain⟨m1,hQ⟩:=nmE (sd1 (!jF s0) (lx s0 rtl))
 obtain⟨m2,hT⟩:=nmE (sd2 (!jF s0) (lx s0 rtl))
 rw [<-hQ,<-hT]at cM
 have h8:∀(q:Int×Int) y,ns[(q.1-1).toNat]? =some y->∀kc,kc=kcX ⟨s0,row,w,h,iw,ih,al,⟨am,an⟩,kids⟩ y.style rtl->∀ax,ax=(if kc.mode≠3/\ph y.style (!row) KN= -1/\qn y.style (!row) q.2≠ -1 then⟨3,ly y.style (!row) KN (qn y.style (!row) q.2)⟩else kc)->∀bb,bb=BG b row q.1 ⟨3,q.2⟩ ax->
   f q=⟨ly y.style (!row) KN (alB (!row) bb),i9 y.style.margin m1 rtl (knS iw),i9 y.style.margin m2 rtl (knS iw),u4 y.style.margin m1 rtl,u4 y.style.margin m2 rtl,zy s0 y.style,rP bb.base (ly y.style (!row) KN (alB (!row) bb))⟩:=fun q y hy kc xk ax xj bb hn=>by
  rw [hf,hn,xj,xk,hD,hQ,hT]
  dsimp only
  rw [gU hy]
  rfl
 have cm:=fun k=>fM V rtl n s0 k w h row iw ih al ⟨am,an⟩ K m1 m2
 clear hf hD hQ hT
 obtain⟨wide,xb⟩:=nmE (!row)
 obtain⟨qs,hp⟩:=nmE (kids.zip zs);(try rw [<-hp]at hU);(try rw [<-hp]at xa);(try rw [<-hp]at hW);(try rw [<-hp]at hR)
 refine ae (aJ f175) ay func175 fun g F hg hF=> ?_
 cbv
 (repeat'((first|refine ad hg ck ?_|refine ad hg cM ?_);cbv))
 replace hK:=hU
 refine aY hg ay (by kernel_rfl) K (fun t=>lc (ak t.1)) qs hK hW (fun z(s:List ar×LLA)=>[(2,.v Z),(3,.p 0),(4,.p 1),(7,.i (KN)),(8,.t (abl ((!row)))),(9,.i (m1)),(10,.i (m2)),(11,.o 2),(34,.v K),(35,.i (g .ln K)),(36,.i (z))]) (fun z(s:List ar×LLA)=>[.bx 76 3 (mo V rtl),.bx 196 75 (plL n s0 w h row iw ih al ⟨am,an⟩ (.view K)),.rw ⟨210,7,s.2⟩]) (fun z(s:List ar×LLA)=>s.2=vw ar.c s.1) (fun(s:List ar×LLA) rest=>s.1++rest.map f) (R) ([],[]) (by rw [hR];rfl) rfl (Wk.weak (wkG [some _,some _,none] DI ⟨wqE rfl rfl,wqE rfl rfl,⟨_,rfl,rfl⟩,trivial⟩ (by decide) aD)) (fun z s B hz h0 hi he=> ?_) (fun z s x rest B z0 z1 z2 hx hy h0 hi hc e1 hB=> ?_)
 ·obtain⟨hm,E⟩:=s
  dsimp only at hi h0
  have pE:=pmV hi
  obtain rfl:hm=R:=by simpa using h0
  rw [hS,<-hi]at hF
  cbv;rw [he];cbv
  exact bR hF rfl pE
 ·obtain⟨hm,E⟩:=s
  obtain⟨x0,x1⟩:=x
  dsimp only at hi h0 hy
  have xc:=xa hx
  have hq:x0∈kids:=zqd xc.1
  have xh:=xg xc.2
  obtain⟨y,hX⟩:=xi x0 hq
  have ha:=h8 (x0,x1) y hX _ rfl _ rfl _ rfl
  dsimp only at ha
  have cX:=cX x0 hq y hX
  have cy:=h9 x0 hq y hX _ _ rfl rfl
  have ho:=ho x0 hq
  obtain⟨Ky,xe⟩:=nmE (vw ak y.kids)
  obtain⟨Ry,xf⟩:=nmE (vw aO.c y.table.rules)
  rw [<-xe,<-xf]at cy
  have cm:=cm y.style
  have hr:=dJ y.style.margin m1 rtl
  have hs:=dJ y.style.margin m2 rtl
  have ht:=mz s0 y.style
  have cf:=eV y.style (!row) KN
  have cr:=gC y.style (!row) x1
  have h1:=fp x1
  obtain⟨⟨k0,k1⟩,h5⟩:∃q,q=kcX ⟨s0,row,w,h,iw,ih,al,⟨am,an⟩,kids⟩ y.style rtl:=⟨_,rfl⟩
  rw [<-h5]at cX ha
  dsimp only at ha
  obtain⟨FX,hC⟩:=nmE (ph y.style (!row) KN);(try rw [<-hC]at cf);(try rw [<-hC]at ha)
  obtain⟨RT,hE⟩:=nmE (qn y.style (!row) x1);(try rw [<-hE]at cr);(try rw [<-hE]at ha)
  have hu:=dx y.style (!row) KN RT
  obtain⟨B1,hw⟩:=nmE (ly y.style (!row) KN RT);(try rw [<-hw]at hu);(try rw [<-hw]at ha)
  have h2:=fp B1
  obtain⟨⟨j0,j1⟩,hd⟩:∃q,q=(if k0≠3/\FX= -1/\RT≠ -1 then(⟨3,B1⟩:aI)else⟨k0,k1⟩):=⟨_,rfl⟩
  rw [<-hd]at ha
  have cZ:=nx V rtl b x0 ho n s0 w h row iw ih al ⟨am,an⟩ K 3 x1 j0 j1
  obtain⟨bb,hn⟩:=nmE (BG b row x0 ⟨3,x1⟩ ⟨j0,j1⟩)
  rw [<-hn]at cZ ha
  have cQ:=j7 (!row) bb
  obtain⟨SA,hG⟩:=nmE (alB (!row) bb);(try rw [<-hG]at cQ);(try rw [<-hG]at ha)
  have hv:=dx y.style (!row) KN SA
  obtain⟨f0,hI⟩:=nmE (ly y.style (!row) KN SA);(try rw [<-hI]at hv);(try rw [<-hI]at ha)
  obtain⟨f1,hJ⟩:=nmE (i9 y.style.margin m1 rtl (knS iw));(try rw [<-hJ]at cm);(try rw [<-hJ]at ha)
  obtain⟨f2,hL⟩:=nmE (i9 y.style.margin m2 rtl (knS iw));(try rw [<-hL]at cm);(try rw [<-hL]at ha)
  obtain⟨f3,hM⟩:=nmE (u4 y.style.margin m1 rtl);(try rw [<-hM]at hr);(try rw [<-hM]at ha)
  obtain⟨f4,hN⟩:=nmE (u4 y.style.margin m2 rtl);(try rw [<-hN]at hs);(try rw [<-hN]at ha)
  obtain⟨f5,hO⟩:=nmE (zy s0 y.style);(try rw [<-hO]at ht);(try rw [<-hO]at ha)
  have e:ju.ac bb=[.J bb.wide,.J bb.high,.J bb.base,.view (vw aM.c bb.frames)]:=rfl
  rw [e]at cZ cQ
  obtain⟨FR,hA⟩:=nmE (vw aM.c bb.frames);(try rw [<-hA]at cZ);(try rw [<-hA]at cQ)
  obtain⟨b0,h6⟩:=nmE bb.wide
  obtain⟨b1,h7⟩:=nmE bb.high
  obtain⟨b3,hH⟩:=nmE bb.base
  rw [<-h6,<-h7,<-hH]at cZ cQ
  rw [<-hH]at ha
  obtain⟨f6,hP⟩:=nmE (rP b3 f0)
  rw [<-hP]at ha
  have tm:g .mn b3 f0=f6:=by rw [GH hg,hP];rfl
  have t0:g .q .neq (k0) (3)=decide (¬(k0)=(3)):=by rw [bn hg];exact dN _ _
  have t1:g .q .eql (FX) ((-1))=decide ((FX)=((-1))):=by rw [bj hg];exact zqn _ _
  have t2:g .q .neq (RT) ((-1))=decide (¬(RT)=((-1))):=by rw [bn hg];exact dN _ _
  have hj:=congrArg List.length h0
  rw [zqe]at hj
  have xd:E.length<=1048576:=by rw [hi,aq];omega
  have h3:(hm++[f (x0,x1)])++rest.map f=R:=by rw [<-h0];simp
  have aE:E++[[.J f0,.J f1,.J f2,.B f3,.B f4,.J f5,.J f6]]=vw ar.c (hm++[f (x0,x1)]):=by rw [hi,bv,ha];rfl
  obtain⟨E2,h4⟩:∃E2,E2=E++[[.J f0,.J f1,.J f2,.B f3,.B f4,.J f5,.J f6]]:=⟨_,rfl⟩
  rw [<-h4]at aE
  have xl:=pmV aE
  clear hI hJ hL hM hN hO hP hj ha e h6 h7 hH hA hG hn hC hE hw h5 h8
  cbv;rw [hc];cbv;refine goX hg _ z0 hy rfl ?_;cbv
  by_cases q0:k0=3
  case' neg=>
   by_cases q1:FX= -1
   case' pos=>
    by_cases q2:RT= -1
  all_goals
   first
    |rw [if_pos ⟨by assumption,by assumption,by assumption⟩]at hd
    |rw [if_neg (fun hh=>by first|exact hh.1 (by assumption)|exact absurd hh.2.1 (by assumption)|exact hh.2.2 (by assumption))]at hd
   simp only [aI.mk.injEq]at hd
   obtain⟨rfl,rfl⟩:=hd
   ((first|rw [zqu q0]at t0|rw [zqt q0]at t0|rw [zqu (Classical.not_not.2 q0)]at t0|rw [zqt (Classical.not_not.2 q0)]at t0))
   (try((first|rw [zqu q1]at t1|rw [zqt q1]at t1|rw [zqu (Classical.not_not.2 q1)]at t1|rw [zqt (Classical.not_not.2 q1)]at t1)))
   (try((first|rw [zqu q2]at t2|rw [zqt q2]at t2|rw [zqu (Classical.not_not.2 q2)]at t2|rw [zqt (Classical.not_not.2 q2)]at t2)))
   ((repeat'((first|rw [t0]|rw [t1]|rw [t2]|rw [tm]|rw [e1]|refine ad hg cy ?_|refine ad hg cX ?_|refine aa hg cr ?_|refine ad hg cf ?_|refine ad hg hu ?_|refine ad hg h2 ?_|refine aa hg h1 ?_|refine aa hg cZ ?_|refine aa hg cQ ?_|refine aa hg hv ?_|refine aa hg ht ?_|refine ad hg cm ?_|refine aa hg hr ?_|refine aa hg hs ?_|refine goX hg _ z0 xh rfl ?_|refine dg hg rfl (by decide) xd ?_;cbv;rw [gd hg,<-h4]);cbv)))
   exact hB ((hm++[f (x0,x1)],E2)) _ _ ⟨h3,aE⟩ (Wk.weak (wkG [some _,some _,some 8] DI ⟨wqE rfl rfl,wqE rfl rfl,wqE rfl xl,trivial⟩ (by decide) aD))
section
variable {P:Program}{n0 N:Nat}{g:Gd}
theorem yB{β:BP}(hg:g=G0 P n0 N){h:EH}{n:Nat}{f:FuncId}{args args':List AT}{K:AV->EH->Prop}{a b c:Int}{ab:AB}(hc:dc P f args' fun res hb=>res= .t (.agg [.J a,.J b,.J c,.own 0])/\hb=[ab])(hd:dwA args args')(hp:aC ab.es=true)
  (hK:K (.t (.agg [.J a,.J b,.J c,.own n])) [.rw ab]):g .PC f h n args K:=by
 subst hg
 refine⟨.t (.agg [.J a,.J b,.J c,.own n]),[ab],⟨args',_,hc,.inl ⟨hd,fun res hb ha=> ?_⟩⟩,[.rw ab],rfl,hK⟩
 obtain⟨rfl,rfl⟩:=ha
 exact⟨rfl,by simp only [zqA,List.map_nil,iq hp]⟩
end
def CZ(q:ju)(res:AV)(rows:List AB):Prop:=res= .t (.agg [.J q.wide,.J q.high,.J q.base,.own 0])/\rows=[⟨45,5,vw aM.c q.frames⟩]
def DH(V:LLA)(rtl:Bool)(b:Bv)(kid:Int):Prop:=∀w0 w1 h0 h1:Int,dc prog 125 [.agg (mo V rtl),ai kid,agP ⟨w0,w1⟩,agP ⟨h0,h1⟩] (CZ (b kid ⟨w0,w1⟩ ⟨h0,h1⟩))
def EU(V:LLA)(rtl:Bool)(b:Bv)(kid:Int):Prop:=∀w0 w1 h0 h1:Int,dc prog 83 [.agg (mo V rtl),ai kid,agP ⟨w0,w1⟩,agP ⟨h0,h1⟩] (CZ (b kid ⟨w0,w1⟩ ⟨h0,h1⟩))
theorem wZ(V:LLA)(rtl:Bool)(b:Bv)(kid:Int)(hla:DH V rtl b kid):EU V rtl b kid:=by
 intro w0 w1 h0 h1
 have cL:=hla w0 w1 h0 h1
 unfold CZ at cL⊢
 obtain⟨bb,hc⟩:=nmE (b kid ⟨w0,w1⟩ ⟨h0,h1⟩)
 rw [<-hc]at cL⊢
 have hb:aC (vw aM.c bb.frames)=true:=aF _ _
 obtain⟨FR,ha⟩:=nmE (vw aM.c bb.frames);(try rw [<-ha]at cL);(try rw [<-ha]at hb);(try rw [<-ha]at⊢)
 refine k8 ([(1,.hand),(3,.hand),(7,.hand),(9,.hand)]) ([]) (c:=aJ f83) ay func83 (by kernel_rfl) (by kernel_rfl) (by rfl) (by kernel_rfl) fun g hi hd F he hf hg hF=> ?_
 cbv
 refine Cm hg hf ay 2 (by kernel_rfl) fun mk hh=> ?_
 cbv
 rw [hh]
 refine⟨_,_,_,_,_,Tryz.underlying74,rfl,rfl,rfl,rfl,?_⟩
 cbv
 refine uT hg cL rfl hb ?_
 cbv
 exact uK hF rfl hb
theorem qH(V:LLA)(rtl:Bool)(b:Bv)(kid:Int)(hla:EU V rtl b kid):wt V rtl b kid:=fun w0 w1 h0 h1=>
 Aj (hla w0 w1 h0 h1) (BH (c:=aM.c) (k:=5) fun _=>rfl) pJ
theorem nw(n:Int)(s:aj)(wd hgh:aI)(row:Bool)(iw ih al ac:aI)(K:LLA)(xs:List ag)(hl:xs.length<=1048576):PC0 174 [.agg (plL n s wd hgh row iw ih al ac (.view K)),.c (.view (vw ag.c xs))] (.tup [.c (.view (vwA lnA (lns xs (jd s row) (ko al) (!decide (s.wrap=1))))),ai (tak al (lng xs (jd s row) (ko al) (!decide (s.wrap=1)))),.c (.view (vw ak (lsz xs (jd s row) (ko al) (!decide (s.wrap=1)) (tak al (lng xs (jd s row) (ko al) (!decide (s.wrap=1)))))))]):=by
 obtain⟨am,an⟩:=al
 have cG:=iJ s row
 have cR:=nF am an
 obtain⟨G,hG⟩:=nmE (jd s row);(try rw [<-hG]at cG);(try rw [<-hG]at⊢)
 obtain⟨M,hM⟩:=nmE (ko ⟨am,an⟩);(try rw [<-hM]at cR);(try rw [<-hM]at⊢)
 obtain⟨wr,hc⟩:=nmE ((!decide (s.wrap=1)))
 rw [<-hc]
 have cL:=pd xs G M wr hl
 obtain⟨LG,ha⟩:=nmE (lng xs G M wr);(try rw [<-ha]at cL);(try rw [<-ha]at⊢)
 have cT:=fH am an LG
 obtain⟨T,hT⟩:=nmE (tak ⟨am,an⟩ LG);(try rw [<-hT]at cT);(try rw [<-hT]at⊢)
 have cN:=ja xs G M wr hl
 have cS:=pf xs G M wr T hl
 obtain⟨LN,hb⟩:=nmE (vwA lnA (lns xs G M wr));(try rw [<-hb]at cN);(try rw [<-hb]at⊢)
 obtain⟨Z,hZ⟩:=nmE (vw ak (lsz xs G M wr T));(try rw [<-hZ]at cS);(try rw [<-hZ]at⊢)
 obtain⟨V,hV⟩:=nmE (vw ag.c xs);(try rw [<-hV]at cL);(try rw [<-hV]at cN);(try rw [<-hV]at cS);(try rw [<-hV]at⊢)
 have t0:∀g:Gd,g=G0 prog 0 f174.ntmps->g .q .neq s.wrap 1=wr:=fun g hg=>by rw [bn hg,hc];exact(dN _ _).trans (by simp)
 clear hc hb hZ hV hT ha hG hM
 refine ae (aJ f174) ay func174 fun g F hg hF=> ?_
 have t0:=t0 g hg
 cbv
 (repeat'((first|rw [t0]|refine aa hg cG ?_|refine aa hg cR ?_|refine aa hg cL ?_|refine aa hg cT ?_|refine ad hg cN ?_|refine ad hg cS ?_);cbv))
 exact fg hF rfl ⟨rfl,rfl⟩
theorem kB(n:Int)(s:aj)(row:Bool)(al ac:aI)(kn:Int)(K:LLA)(xs:List ag)(hl:xs.length<=1048576):PC0 210 [.agg (nwL n s row al ac kn (.view K)),.c (.view (vw ag.c xs))] (.i (tak al (lng xs (jd s row) (ko al) (!decide (s.wrap=1))))):=by
 obtain⟨am,an⟩:=al
 have cG:=gF s row
 have cR:=gX am an
 obtain⟨G,hG⟩:=nmE (jd s row);(try rw [<-hG]at cG);(try rw [<-hG]at⊢)
 obtain⟨M,hM⟩:=nmE (ko ⟨am,an⟩);(try rw [<-hM]at cR);(try rw [<-hM]at⊢)
 obtain⟨wr,hb⟩:=nmE ((!decide (s.wrap=1)))
 rw [<-hb]
 have cL:=oW xs G M wr hl
 obtain⟨LG,ha⟩:=nmE (lng xs G M wr);(try rw [<-ha]at cL);(try rw [<-ha]at⊢)
 have cT:=dQ am an LG
 obtain⟨T,hT⟩:=nmE (tak ⟨am,an⟩ LG);(try rw [<-hT]at cT);(try rw [<-hT]at⊢)
 obtain⟨V,hV⟩:=nmE (vw ag.c xs);(try rw [<-hV]at cL);(try rw [<-hV]at⊢)
 have t0:∀g:Gd,g=G0 prog 0 f210.ntmps->g .q .neq s.wrap 1=wr:=fun g hg=>by rw [bn hg,hb];exact(dN _ _).trans (by simp)
 clear hb hV hT ha hG hM
 refine ae (aJ f210) ay func210 fun g F hg hF=> ?_
 have t0:=t0 g hg
 cbv
 (repeat'((first|rw [t0]|refine aa hg cG ?_|refine aa hg cR ?_|refine aa hg cL ?_|refine aa hg cT ?_);cbv))
 exact aV hF rfl
theorem p7(n:Int)(s:aj)(row:Bool)(al ac:aI)(kn:Int)(K:LLA)(xs:List ag)(hl:xs.length<=1048576):PC0 209 [.agg (nwL n s row al ac kn (.view K)),.c (.view (vw ag.c xs))] (.t (.c (.view (vw ak (lsz xs (jd s row) (ko al) (!decide (s.wrap=1)) (tak al (lng xs (jd s row) (ko al) (!decide (s.wrap=1))))))))):=by
 have cI:=kB n s row al ac kn K xs hl
 obtain⟨T,hT⟩:=nmE (tak al (lng xs (jd s row) (ko al) (!decide (s.wrap=1))));(try rw [<-hT]at cI);(try rw [<-hT]at⊢)
 obtain⟨am,an⟩:=al
 have cG:=gF s row
 have cR:=gX am an
 obtain⟨G,hG⟩:=nmE (jd s row);(try rw [<-hG]at cG);(try rw [<-hG]at⊢)
 obtain⟨M,hM⟩:=nmE (ko ⟨am,an⟩);(try rw [<-hM]at cR);(try rw [<-hM]at⊢)
 obtain⟨wr,ha⟩:=nmE ((!decide (s.wrap=1)))
 rw [<-ha]
 have cS:=oX xs G M wr T hl
 obtain⟨Z,hZ⟩:=nmE (vw ak (lsz xs G M wr T));(try rw [<-hZ]at cS);(try rw [<-hZ]at⊢)
 obtain⟨V,hV⟩:=nmE (vw ag.c xs);(try rw [<-hV]at cI);(try rw [<-hV]at cS);(try rw [<-hV]at⊢)
 have t0:∀g:Gd,g=G0 prog 0 f209.ntmps->g .q .neq s.wrap 1=wr:=fun g hg=>by rw [bn hg,ha];exact(dN _ _).trans (by simp)
 clear ha hV hZ hT hG hM
 refine ae (aJ f209) ay func209 fun g F hg hF=> ?_
 have t0:=t0 g hg
 cbv
 (repeat'((first|rw [t0]|refine aa hg cG ?_|refine aa hg cR ?_|refine aa hg cI ?_|refine aa hg cS ?_);cbv))
 exact fg hF rfl ⟨rfl,rfl⟩
theorem nA{l r:List Int}{m:Int}{n:Nat}(h:l++r=ixs m n):l.length<=n/\l=ixs m l.length/\r=ixs (m+l.length) (n-l.length):=by
 have ha:=congrArg List.length h
 rw [zqe,bX]at ha
 have hb:l.length<=n:=by omega
 have e:ixs m n=ixs m l.length++ixs (m+l.length) (n-l.length):=by rw [<-jK,show l.length+(n-l.length)=n by omega]
 rw [e]at h
 have:=List.append_inj h (by rw [bX])
 exact⟨hb,this.1,this.2⟩
theorem lM{l:List Int}{ls:List (List Int)}{m:Int}{n:Nat}(h:(l::ls).flatten=ixs m n):l.length<=n/\l=ixs m l.length/\ls.flatten=ixs (m+l.length) (n-l.length):=by
 rw [List.flatten_cons]at h
 exact nA h
theorem yu(p:Pl)(ns:List af)(sides:List ar)(sizes:List Int):∀(ls:List (List Int×Int)),(Ba p ns sides sizes ls).length=(ls.map (·.1)).flatten.length
 | []=>rfl
 |q::r=>by
  have:=yu p ns sides sizes r
  simp only [Ba,List.flatMap_cons,zqe,zql,zqA,List.flatten_cons]at this⊢
  omega
theorem lO(p:Pl)(rtl:Bool)(inner across:Int)(sizes:List Int)(sides:List ar)(st c lb:Int)(ps:List Int):∀(ln:List Int)(j:Int),(rg p rtl inner across sizes sides st c lb ps j ln).length=ln.length
 | [],_=>rfl
 |i::r,j=>by simp only [rg,zqx,lO p rtl inner across sizes sides st c lb ps r]
theorem uH(p:Pl)(rtl:Bool)(items:List ag)(inner across:Int)(sizes:List Int)(sides:List ar)(sts:List Int):∀(ls:List (List Int×Int))(k:Int),(wy p rtl items inner across sizes sides sts k ls).length=(ls.map (·.1)).flatten.length
 | [],_=>rfl
 |(l,c)::r,k=>by simp only [wy,zqe,lO,zqA,List.flatten_cons,uH p rtl items inner across sizes sides sts r]
theorem BO(cs:List Int)(gap inner ct:Int)(hl:cs.length<=64):(wu cs gap inner ct).length=cs.length:=by
 unfold wu
 split
 ·have ha:(evn (wrap64 (inner-crt cs gap)) (cs.length:Int)).length=cs.length:=by rw [gP];have:=nN (many:=(cs.length:Int)) (by omega) (by omega);omega
  rw [zql,zqB,ha];omega
 ·rfl
theorem uQ(p:Pl)(ls:List (List Int))(sides:List ar)(hl:ls.length<=64):(xk p ls sides).length=ls.length:=by
 unfold xk
 split
 ·rw [BO _ _ _ _ (by rw [zql];exact hl),zql]
 ·rw [zql]
theorem Cj(b:Bv)(p:Pl)(rtl:Bool)(ns:List af)(ks:List Int):(Ck b p rtl ns ks).length=ks.length:=zql ..
theorem th(p:Pl)(xs:List ag):(rj p xs).length=xs.length:=wX ..
theorem BU(b:Bv)(p:Pl)(rtl:Bool)(ns:List af)(ks:List (Int×Int)):(C7 b p rtl ns ks).length=ks.length:=zql ..
theorem pi{α:Type}{c:α->List AC}:∀{a:List α}{b:List Int},b.length=a.length->vwA c a=(a.zip b).map (fun t=>c t.1)
 | [],b,h=>rfl
 |x::a,[],h=>by simp at h
 |x::a,y::b,h=>by
  have:=pi (c:=c) (a:=a) (b:=b) (by simpa using h)
  simp only [vwA]at this⊢
  rw [List.zip_cons_cons,zqA,zqA,<-this]
theorem fu{α:Type}:∀{a:List α}{b:List Int},b.length=a.length->(a.zip b).map (·.1)=a
 | [],b,h=>rfl
 |x::a,[],h=>by simp at h
 |x::a,y::b,h=>by rw [List.zip_cons_cons,zqA,fu (by simpa using h)]
theorem wA{α β:Type}{a:List α}{b:List β}{i:Nat}{t:α×β}(h:(a.zip b)[i]? =some t):a[i]? =some t.1/\b[i]? =some t.2:=List.getElem?_zip_eq_some.1 h
theorem vt{sides:List ar}{i:Int}{y:ar}(h0:0<=i)(h:sides[i.toNat]? =some y):sdZ sides i=y:=by
 unfold sdZ;rw [if_pos h0,h];rfl
end Go.Proofs.YtckchgoblpgpbaaGreat
