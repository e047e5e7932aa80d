/- A child laid out, its base: the program, by what its box is. -/
import Derived.Test.YtckchgoblpgpbaaGreatJ5bk
set_option linter.unusedVariables false
set_option linter.unusedSimpArgs false
set_option maxHeartbeats 8000000
namespace Go.Proofs.YtckchgoblpgpbaaGreat
open Go.ChangeShapes Go.WideShapes Go.ChangeAt Go.RowKit Am Go.Proofs.Tryz
set_option maxRecDepth 100000
theorem iU(xs:List ag)(gap room:Int)(wr:Bool)(hl:xs.length<=1048576):PC0 212 [.c (.view (vw ag.c xs)),ai gap,ai room,abl wr] (.t (.c (.view (vwA lnA (lns xs gap room wr))))):=pp (rG xs gap room wr hl) (FG _) (Ax _)
theorem pd(xs:List ag)(gap room:Int)(wr:Bool)(hl:xs.length<=1048576):PC0 236 [.c (.view (vw ag.c xs)),ai gap,ai room,abl wr] (.i (lng xs gap room wr)):=by
 have cL:=ja xs gap room wr hl
 have hb:=fun l hn=>gN xs l hl hn
 have hd:=fun l hl=>jI (xs:=xs) (gap:=gap) (room:=room) (wr:=wr) (l:=l) hl
 have hh:=mK xs gap room wr
 obtain⟨R,hR⟩:=nmE (lng xs gap room wr)
 rw [<-hR]
 unfold lng at hR
 obtain⟨ls,hf⟩:=nmE (lns xs gap room wr)
 rw [<-hf]at cL hR hd hh
 obtain⟨V,hV⟩:=nmE (vw ag.c xs)
 have hp:=lmV hV
 have iV:=imV hV
 have kV:=kmV (k:=9) hV fun _=>rfl
 have dV:=dmV hV
 rw [<-hV]at cL hb
 rw [<-hV]
 obtain⟨W,hW⟩:=nmE (vwA lnA ls);(try rw [<-hW]at cL)
 refine ae (aJ f236) ay func236 fun g F hg hF=> ?_
 cbv
 repeat'(refine ad hg cL ?_;cbv)
 refine aY hg ay (by kernel_rfl) W (lnA) ls hW (by omega) (fun z(s:Int)=>[(0,.v V),(1,.i (gap)),(9,.i (s)),(17,.v W),(18,.i (g .ln W)),(19,.i (z))]) (fun z(s:Int)=>[]) (fun z(s:Int)=>True) (fun(s:Int) rest=>rest.foldl (fun m l=>mx2 m (lou xs gap l)) s) (R) (0:Int) hR.symm trivial (Wk.weak (wkG [] zr6 trivial (by decide) aD)) (fun z s B hz h0 hi he=> ?_) (fun z s x rest B z0 z1 z2 hx hy h0 hi hc e1 hB=> ?_)
 ·cbv;rw [he];cbv
  exact aV hF h0
 ·have hk:x∈ls:=zqd hx
  have hq:=hd x hk
  have cI:=hb x (by omega)
  have hm:(lit xs x).length<=1048576:=Nat.le_trans qD (by omega)
  have cH:=ux (lit xs x) hm
  have cO:=fq (lit xs x) ((lit xs x).map hyp) gap hm (by rw [zql];exact hm)
  have hj:lou xs gap x=wrap64 (hP (lit xs x) ((lit xs x).map hyp) gap):=rfl
  rw [List.foldl_cons]at h0
  rw [<-hj]at cO
  obtain⟨OU,ha⟩:=nmE (lou xs gap x);(try rw [<-ha]at cO);(try rw [<-ha]at h0)
  obtain⟨M,hM⟩:=nmE (vw ag.c (lit xs x));(try rw [<-hM]at cI);(try rw [<-hM]at cH);(try rw [<-hM]at cO)
  obtain⟨H,hH⟩:=nmE (vw ak ((lit xs x).map hyp));(try rw [<-hH]at cH);(try rw [<-hH]at cO)
  obtain⟨L,hL⟩:=nmE (vw ak x)
  rw [<-hL]at cI
  have ho:W[z.toNat]? =some [.view L]:=by rw [hL];exact hy
  have eM:g .mx s OU=mx2 s OU:=by rw [Du hg];rfl
  cbv
  rw [hc]
  cbv
  refine goX hg _ z0 ho rfl ?_
  cbv
  (repeat'((first|rw [eM]|rw [e1]|refine ad hg cI ?_|refine ad hg cH ?_|refine ad hg cO ?_);cbv))
  exact hB ((mx2 s OU)) _ _ ⟨h0,trivial⟩ (Wk.weak (wkG [] zr6 trivial (by decide) aD))
theorem oW(xs:List ag)(gap room:Int)(wr:Bool)(hl:xs.length<=1048576):PC0 258 [.c (.view (vw ag.c xs)),ai gap,ai room,abl wr] (.i (lng xs gap room wr)):=by
 have cL:=iU xs gap room wr hl
 have hb:=fun l hn=>kF xs l gap hl hn
 have hd:=fun l hl=>jI (xs:=xs) (gap:=gap) (room:=room) (wr:=wr) (l:=l) hl
 have hk:=mK xs gap room wr
 obtain⟨R,hR⟩:=nmE (lng xs gap room wr)
 rw [<-hR]
 unfold lng at hR
 obtain⟨ls,hf⟩:=nmE (lns xs gap room wr)
 rw [<-hf]at cL hR hd hk
 obtain⟨V,hV⟩:=nmE (vw ag.c xs)
 have hp:=lmV hV
 have iV:=imV hV
 have kV:=kmV (k:=9) hV fun _=>rfl
 have dV:=dmV hV
 rw [<-hV]at cL hb
 rw [<-hV]
 obtain⟨W,hW⟩:=nmE (vwA lnA ls);(try rw [<-hW]at cL)
 refine ae (aJ f258) ay func258 fun g F hg hF=> ?_
 cbv
 repeat'(refine ad hg cL ?_;cbv)
 refine aY hg ay (by kernel_rfl) W (lnA) ls hW (by omega) (fun z(s:Int)=>[(0,.v V),(1,.i (gap)),(9,.i (s)),(10,.v W),(11,.i (z))]) (fun z(s:Int)=>[]) (fun z(s:Int)=>True) (fun(s:Int) rest=>rest.foldl (fun m l=>mx2 m (lou xs gap l)) s) (R) (0:Int) hR.symm trivial (Wk.weak (wkG [] zr5 trivial (by decide) aD)) (fun z s B hz h0 hi he=> ?_) (fun z s x rest B z0 z1 z2 hx hy h0 hi hc e1 hB=> ?_)
 ·cbv;rw [he];cbv
  exact aV hF h0
 ·have hm:x∈ls:=zqd hx
  have hq:=hd x hm
  have cI:=hb x (by omega)
  rw [List.foldl_cons]at h0
  obtain⟨OU,ha⟩:=nmE (lou xs gap x);(try rw [<-ha]at cI);(try rw [<-ha]at h0)
  obtain⟨L,hL⟩:=nmE (vw ak x)
  rw [<-hL]at cI
  have ho:W[z.toNat]? =some [.view L]:=by rw [hL];exact hy
  have hj:mx2 s OU=if s<OU then OU else s:=rfl
  rw [hj]at h0
  have t0:g .q .gtr (OU) (s)=decide ((s)<(OU)):=cu hg _ _
  cbv
  rw [hc]
  cbv
  refine goX hg _ z0 ho rfl ?_
  cbv
  by_cases hh:s<OU
  ·rw [if_pos hh]at h0
   (first|rw [zqu hh]at t0|rw [zqt hh]at t0|rw [zqu (Classical.not_not.2 hh)]at t0|rw [zqt (Classical.not_not.2 hh)]at t0)
   (repeat'((first|rw [t0]|rw [e1]|refine ad hg cI ?_);cbv))
   exact hB (OU) _ _ ⟨h0,trivial⟩ (Wk.weak (wkG [] zr5 trivial (by decide) aD))
  ·rw [if_neg hh]at h0
   (first|rw [zqu hh]at t0|rw [zqt hh]at t0|rw [zqu (Classical.not_not.2 hh)]at t0|rw [zqt (Classical.not_not.2 hh)]at t0)
   (repeat'((first|rw [t0]|rw [e1]|refine ad hg cI ?_);cbv))
   exact hB (s) _ _ ⟨h0,trivial⟩ (Wk.weak (wkG [] zr5 trivial (by decide) aD))
theorem pg(xs:List ag)(gap room:Int)(wr:Bool)(inner:Int)(hl:xs.length<=1048576):dc prog 238 [.c (.view (vw ag.c xs)),ai gap,ai room,abl wr,ai inner] fun res hd=>res= .o 0/\hd=[⟨3,1,vw ak (lsz xs gap room wr inner)⟩]:=by
 have cL:=ja xs gap room wr hl
 have hh:=fun l hn=>gN xs l hl hn
 have hj:=fun l hl=>jI (xs:=xs) (gap:=gap) (room:=room) (wr:=wr) (l:=l) hl
 have hp:=mK xs gap room wr
 have hk:=wX xs gap room wr inner
 obtain⟨R,hR⟩:=nmE (lsz xs gap room wr inner)
 rw [<-hR]at hk⊢
 unfold lsz at hR
 obtain⟨ls,ho⟩:=nmE (lns xs gap room wr)
 rw [<-ho]at cL hR hj hp
 obtain⟨V,hV⟩:=nmE (vw ag.c xs)
 have hu:=lmV hV
 have iV:=imV hV
 have kV:=kmV (k:=9) hV fun _=>rfl
 have dV:=dmV hV
 rw [<-hV]at cL hh
 rw [<-hV]
 obtain⟨W,hW⟩:=nmE (vwA lnA ls);(try rw [<-hW]at cL)
 obtain⟨S,hS⟩:=nmE (vw ak R);(try rw [<-hS]at⊢)
 refine ae (aJ f238) ay func238 fun g F hg hF=> ?_
 cbv
 repeat'(refine ad hg cL ?_;cbv)
 refine aY hg ay (by kernel_rfl) W (lnA) ls hW (by omega) (fun z(s:List Int×LLA)=>[(0,.v V),(1,.i (gap)),(4,.i (inner)),(11,.o 0),(18,.v W),(19,.i (g .ln W)),(20,.i (z))]) (fun z(s:List Int×LLA)=>[.rw ⟨3,1,s.2⟩]) (fun z(s:List Int×LLA)=>s.2=vw ak s.1) (fun(s:List Int×LLA) rest=>s.1++rest.flatMap (fun l=>flx (lit xs l) gap inner)) (R) ([],[]) (by rw [hR];rfl) rfl (Wk.weak (wkG [none] zr7 ⟨⟨_,rfl,rfl⟩,trivial⟩ (by decide) aD)) (fun z s B hz h0 hi he=> ?_) (fun z s x rest B z0 z1 z2 hx hy h0 hi hc e1 hB=> ?_)
 ·obtain⟨ha,E⟩:=s
  dsimp only at hi h0
  have pE:=pmV hi
  obtain rfl:ha=R:=by simpa using h0
  rw [hS,<-hi]at hF
  cbv;rw [he];cbv
  exact bR hF rfl pE
 ·obtain⟨ha,E⟩:=s
  dsimp only at hi h0
  have hq:x∈ls:=zqd hx
  have hv:=hj x hq
  have cI:=hh x (by omega)
  have hm:(lit xs x).length<=1048576:=Nat.le_trans qD (by omega)
  have cX:=qM (lit xs x) gap inner hm
  have h1:(ha++flx (lit xs x) gap inner)++rest.flatMap (fun l=>flx (lit xs l) gap inner)=R:=by rw [<-h0,List.flatMap_cons,zqC]
  have hb:ha.length+(flx (lit xs x) gap inner).length<=1048576:=by
   have:=congrArg List.length h1
   rw [zqe,zqe]at this
   omega
  obtain⟨M,hM⟩:=nmE (vw ag.c (lit xs x));(try rw [<-hM]at cI);(try rw [<-hM]at cX)
  obtain⟨X,hX⟩:=nmE (vw ak (flx (lit xs x) gap inner));(try rw [<-hX]at cX)
  have kX:=kmV (k:=1) hX fun _=>rfl
  have ht:E.length+X.length<=1048576:=by rw [hi,hX,aq,aq];exact hb
  obtain⟨L,hL⟩:=nmE (vw ak x)
  rw [<-hL]at cI
  have hr:W[z.toNat]? =some [.view L]:=by rw [hL];exact hy
  obtain⟨E2,hf⟩:=nmE (E++X)
  have aE:E2=vw ak (ha++flx (lit xs x) gap inner):=by rw [hf,hi,hX];simp [vw]
  have hs:=pmV aE
  cbv
  rw [hc]
  cbv
  refine goX hg _ z0 hr rfl ?_
  cbv
  (repeat'((first|rw [e1]|refine ad hg cI ?_|refine ad hg cX ?_|refine goN hg ⟨kX,(by show(E.length+X.length)*8<=_;omega),(by show E.length+X.length<=_;omega)⟩ ?_;cbv;rw [gd hg];dsimp only;rw [<-hf]);cbv))
  exact hB ((ha++flx (lit xs x) gap inner,E2)) _ _ ⟨h1,aE⟩ (Wk.weak (wkG [some 1] zr7 ⟨wqE rfl hs,trivial⟩ (by decide) aD))
theorem oY(xs:List ag)(gap room:Int)(wr:Bool)(inner:Int)(hl:xs.length<=1048576):dc prog 257 [.c (.view (vw ag.c xs)),ai gap,ai room,abl wr,ai inner] fun res hd=>res= .o 0/\hd=[⟨3,1,vw ak (lsz xs gap room wr inner)⟩]:=by
 have cL:=iU xs gap room wr hl
 have hh:=fun l hn=>gK xs l hl hn
 have hj:=fun l hl=>jI (xs:=xs) (gap:=gap) (room:=room) (wr:=wr) (l:=l) hl
 have hp:=mK xs gap room wr
 have hk:=wX xs gap room wr inner
 obtain⟨R,hR⟩:=nmE (lsz xs gap room wr inner)
 rw [<-hR]at hk⊢
 unfold lsz at hR
 obtain⟨ls,ho⟩:=nmE (lns xs gap room wr)
 rw [<-ho]at cL hR hj hp
 obtain⟨V,hV⟩:=nmE (vw ag.c xs)
 have hu:=lmV hV
 have iV:=imV hV
 have kV:=kmV (k:=9) hV fun _=>rfl
 have dV:=dmV hV
 rw [<-hV]at cL hh
 rw [<-hV]
 obtain⟨W,hW⟩:=nmE (vwA lnA ls);(try rw [<-hW]at cL)
 obtain⟨S,hS⟩:=nmE (vw ak R);(try rw [<-hS]at⊢)
 refine ae (aJ f257) ay func257 fun g F hg hF=> ?_
 cbv
 repeat'(refine ad hg cL ?_;cbv)
 refine aY hg ay (by kernel_rfl) W (lnA) ls hW (by omega) (fun z(s:List Int×LLA)=>[(0,.v V),(1,.i (gap)),(4,.i (inner)),(11,.o 0),(12,.v W),(13,.i (z))]) (fun z(s:List Int×LLA)=>[.rw ⟨3,1,s.2⟩]) (fun z(s:List Int×LLA)=>s.2=vw ak s.1) (fun(s:List Int×LLA) rest=>s.1++rest.flatMap (fun l=>flx (lit xs l) gap inner)) (R) ([],[]) (by rw [hR];rfl) rfl (Wk.weak (wkG [some 0] zr6 ⟨wqE rfl rfl,trivial⟩ (by decide) aD)) (fun z s B hz h0 hi he=> ?_) (fun z s x rest B z0 z1 z2 hx hy h0 hi hc e1 hB=> ?_)
 ·obtain⟨ha,E⟩:=s
  dsimp only at hi h0
  have pE:=pmV hi
  obtain rfl:ha=R:=by simpa using h0
  rw [hS,<-hi]at hF
  cbv;rw [he];cbv
  exact bR hF rfl pE
 ·obtain⟨ha,E⟩:=s
  dsimp only at hi h0
  have hq:x∈ls:=zqd hx
  have hv:=hj x hq
  have cI:=hh x (by omega)
  have hm:(lit xs x).length<=1048576:=Nat.le_trans qD (by omega)
  have cX:=qd (lit xs x) gap inner hm
  have h1:(ha++flx (lit xs x) gap inner)++rest.flatMap (fun l=>flx (lit xs l) gap inner)=R:=by rw [<-h0,List.flatMap_cons,zqC]
  have hb:ha.length+(flx (lit xs x) gap inner).length<=1048576:=by
   have:=congrArg List.length h1
   rw [zqe,zqe]at this
   omega
  obtain⟨M,hM⟩:=nmE (vw ag.c (lit xs x));(try rw [<-hM]at cI);(try rw [<-hM]at cX)
  obtain⟨X,hX⟩:=nmE (vw ak (flx (lit xs x) gap inner));(try rw [<-hX]at cX)
  have kX:=kmV (k:=1) hX fun _=>rfl
  have ht:E.length+X.length<=1048576:=by rw [hi,hX,aq,aq];exact hb
  obtain⟨L,hL⟩:=nmE (vw ak x)
  rw [<-hL]at cI
  have hr:W[z.toNat]? =some [.view L]:=by rw [hL];exact hy
  obtain⟨E2,hf⟩:=nmE (E++X)
  have aE:E2=vw ak (ha++flx (lit xs x) gap inner):=by rw [hf,hi,hX];simp [vw]
  have hs:=pmV aE
  cbv
  rw [hc]
  cbv
  refine goX hg _ z0 hr rfl ?_
  cbv
  (repeat'((first|rw [e1]|refine ad hg cI ?_|refine ad hg cX ?_|refine goN hg ⟨kX,(by show(E.length+X.length)*8<=_;omega),(by show E.length+X.length<=_;omega)⟩ ?_;cbv;rw [gd hg];dsimp only;rw [<-hf]);cbv))
  exact hB ((ha++flx (lit xs x) gap inner,E2)) _ _ ⟨h1,aE⟩ (Wk.weak (wkG [some 1] zr6 ⟨wqE rfl hs,trivial⟩ (by decide) aD))
theorem pf(xs:List ag)(gap room:Int)(wr:Bool)(inner:Int)(hl:xs.length<=1048576):PC0 238 [.c (.view (vw ag.c xs)),ai gap,ai room,abl wr,ai inner] (.t (.c (.view (vw ak (lsz xs gap room wr inner))))):=wx (pg xs gap room wr inner hl) fun _=>rfl
theorem oX(xs:List ag)(gap room:Int)(wr:Bool)(inner:Int)(hl:xs.length<=1048576):PC0 257 [.c (.view (vw ag.c xs)),ai gap,ai room,abl wr,ai inner] (.t (.c (.view (vw ak (lsz xs gap room wr inner))))):=wx (oY xs gap room wr inner hl) fun _=>rfl
theorem xZ{sides:List ar}{i:Int}{r:List Int}{x:ar}(h0:0<=i)(hx:sides[i.toNat]? =some x):pck sides (i::r)=x::pck sides r:=by
 simp only [pck,List.filterMap_cons,if_pos h0,hx]
def pt(i:Int):Int->List (List Int)->Int
 |_,[]=> -1
 |k,l::r=>if 0<cnt l i then k else pt i (k+1) r
theorem o8(xs:List ar)(ln:List Int)(hl:xs.length<=1048576)(hn:ln.length<=1048576)(hb:∀i∈ln,0<=i/\i<(xs.length:Int)):dc prog 186 [.c (.view (vw ar.c xs)),.c (.view (vw ak ln))] fun res hf=>res= .o 0/\hf=[⟨210,7,vw ar.c (pck xs ln)⟩]:=by
 obtain⟨R,hR⟩:=nmE (pck xs ln)
 rw [<-hR]
 have ho:∀i∈ln,0<=i/\∃y,xs[i.toNat]? =some y:=fun i hi=>⟨(hb i hi).1,⟨_,zqc (by have:=hb i hi;omega)⟩⟩
 have hj:=fun{i:Int}{x:ar}(h:xs[i.toNat]? =some x)=>bf (c:=ar.c) h
 obtain⟨V,hV⟩:=nmE (vw ar.c xs);(try rw [<-hV]at hj);(try rw [<-hV]at⊢)
 obtain⟨S,hS⟩:=nmE (vw ar.c R);(try rw [<-hS]at⊢)
 obtain⟨W,hW⟩:=nmE (vw ak ln)
 have ht:=lmV hW
 have iW:=imV hW
 have kW:=kmV (k:=1) hW fun _=>rfl
 have dW:=dmV hW
 rw [<-hW]
 refine ae (aJ f186) ay func186 fun g F hg hF=> ?_
 cbv
 refine aY hg ay (by kernel_rfl) W (fun x=>lc (ak x)) ln hW hn (fun z(s:List ar×LLA)=>[(0,.v V),(5,.o 0),(8,.v W),(9,.i (g .ln W)),(10,.i (z))]) (fun z(s:List ar×LLA)=>[.rw ⟨210,7,s.2⟩]) (fun z(s:List ar×LLA)=>s.2=vw ar.c s.1/\(s.1.length:Int)<=z) (fun(s:List ar×LLA) rest=>s.1++pck xs rest) (R) ([],[]) (by rw [hR];rfl) ⟨rfl,Int.le_refl 0⟩ (Wk.weak (wkG [none] zr5 ⟨⟨_,rfl,rfl⟩,trivial⟩ (by decide) aD)) (fun z s B hz h0 hi he=> ?_) (fun z s x rest B z0 z1 z2 hx hy h0 hi hc e1 hB=> ?_)
 ·obtain⟨ha,E⟩:=s
  obtain⟨i1,i2⟩:=hi
  dsimp only at i1 i2 h0
  have pE:=pmV i1
  obtain rfl:ha=R:=by simpa [pck]using h0
  rw [hS,<-i1]at hF
  cbv;rw [he];cbv
  exact bR hF rfl pE
 ·obtain⟨ha,E⟩:=s
  obtain⟨i1,i2⟩:=hi
  dsimp only at i1 i2 h0
  have hm:E.length<=1048576:=by rw [i1,aq];omega
  have hd:=ho x (zqd hx)
  obtain⟨y,hk⟩:=hd.2
  have hr:=hj hk
  have h3:(ha++[y])++pck xs rest=R:=by rw [<-h0,xZ hd.1 hk];simp
  have nl:((ha++[y]).length:Int)<=z+1:=by simp;omega
  have aE:E++[lc (ar.c y)]=vw ar.c (ha++[y]):=by rw [i1,bv]
  obtain⟨y0,y1,y2,y3,y4,y5,y6⟩:=y
  have hq:V[x.toNat]? =some [.J y0,.J y1,.J y2,.B y3,.B y4,.J y5,.J y6]:=hr
  replace aE:E++[[.J y0,.J y1,.J y2,.B y3,.B y4,.J y5,.J y6]]=vw ar.c (ha++[⟨y0,y1,y2,y3,y4,y5,y6⟩]):=aE
  obtain⟨E2,hh⟩:∃E2,E2=E++[[.J y0,.J y1,.J y2,.B y3,.B y4,.J y5,.J y6]]:=⟨_,rfl⟩
  rw [<-hh]at aE
  have hs:=pmV aE
  have hp:=hd.1
  cbv;rw [hc];cbv;refine goX hg _ z0 hy rfl ?_;cbv
  (repeat'((first|rw [e1]|refine goX hg _ hp hq rfl ?_|refine dg hg rfl (by decide) hm ?_;cbv;rw [gd hg,<-hh]);cbv))
  exact hB ((ha++[⟨y0,y1,y2,y3,y4,y5,y6⟩],E2)) _ _ ⟨h3,⟨aE,nl⟩⟩ (Wk.weak (wkG [some 2] zr5 ⟨wqE rfl hs,trivial⟩ (by decide) aD))
theorem j8(xs:List ar)(ln:List Int)(hl:xs.length<=1048576)(hn:ln.length<=1048576)(hb:∀i∈ln,0<=i/\i<(xs.length:Int)):PC0 186 [.c (.view (vw ar.c xs)),.c (.view (vw ak ln))] (.t (.c (.view (vw ar.c (pck xs ln))))):=wx (o8 xs ln hl hn hb) fun _=>rfl
theorem vg(xs:List ar)(ln:List Int)(hl:xs.length<=1048576)(hn:ln.length<=1048576)(hb:∀i∈ln,0<=i/\i<(xs.length:Int)):dc prog 221 [.c (.view (vw ar.c xs)),.c (.view (vw ak ln))] fun res hf=>res= .o 0/\hf=[⟨210,7,vw ar.c (pck xs ln)⟩]:=by
 obtain⟨R,hR⟩:=nmE (pck xs ln)
 rw [<-hR]
 have ho:∀i∈ln,0<=i/\∃y,xs[i.toNat]? =some y:=fun i hi=>⟨(hb i hi).1,⟨_,zqc (by have:=hb i hi;omega)⟩⟩
 have hj:=fun{i:Int}{x:ar}(h:xs[i.toNat]? =some x)=>bf (c:=ar.c) h
 obtain⟨V,hV⟩:=nmE (vw ar.c xs);(try rw [<-hV]at hj);(try rw [<-hV]at⊢)
 obtain⟨S,hS⟩:=nmE (vw ar.c R);(try rw [<-hS]at⊢)
 obtain⟨W,hW⟩:=nmE (vw ak ln)
 have ht:=lmV hW
 have iW:=imV hW
 have kW:=kmV (k:=1) hW fun _=>rfl
 have dW:=dmV hW
 rw [<-hW]
 refine ae (aJ f221) ay func221 fun g F hg hF=> ?_
 cbv
 refine aY hg ay (by kernel_rfl) W (fun x=>lc (ak x)) ln hW hn (fun z(s:List ar×LLA)=>[(0,.v V),(1,.v W),(5,.o 0),(6,.i (z))]) (fun z(s:List ar×LLA)=>[.rw ⟨210,7,s.2⟩]) (fun z(s:List ar×LLA)=>s.2=vw ar.c s.1/\(s.1.length:Int)<=z) (fun(s:List ar×LLA) rest=>s.1++pck xs rest) (R) ([],[]) (by rw [hR];rfl) ⟨rfl,Int.le_refl 0⟩ (Wk.weak (wkG [some 0] zr4 ⟨wqE rfl rfl,trivial⟩ (by decide) aD)) (fun z s B hz h0 hi he=> ?_) (fun z s x rest B z0 z1 z2 hx hy h0 hi hc e1 hB=> ?_)
 ·obtain⟨ha,E⟩:=s
  obtain⟨i1,i2⟩:=hi
  dsimp only at i1 i2 h0
  have pE:=pmV i1
  obtain rfl:ha=R:=by simpa [pck]using h0
  rw [hS,<-i1]at hF
  cbv;rw [he];cbv
  exact bR hF rfl pE
 ·obtain⟨ha,E⟩:=s
  obtain⟨i1,i2⟩:=hi
  dsimp only at i1 i2 h0
  have hm:E.length<=1048576:=by rw [i1,aq];omega
  have hd:=ho x (zqd hx)
  obtain⟨y,hk⟩:=hd.2
  have hr:=hj hk
  have h3:(ha++[y])++pck xs rest=R:=by rw [<-h0,xZ hd.1 hk];simp
  have nl:((ha++[y]).length:Int)<=z+1:=by simp;omega
  have aE:E++[lc (ar.c y)]=vw ar.c (ha++[y]):=by rw [i1,bv]
  obtain⟨y0,y1,y2,y3,y4,y5,y6⟩:=y
  have hq:V[x.toNat]? =some [.J y0,.J y1,.J y2,.B y3,.B y4,.J y5,.J y6]:=hr
  replace aE:E++[[.J y0,.J y1,.J y2,.B y3,.B y4,.J y5,.J y6]]=vw ar.c (ha++[⟨y0,y1,y2,y3,y4,y5,y6⟩]):=aE
  obtain⟨E2,hh⟩:∃E2,E2=E++[[.J y0,.J y1,.J y2,.B y3,.B y4,.J y5,.J y6]]:=⟨_,rfl⟩
  rw [<-hh]at aE
  have hs:=pmV aE
  have hp:=hd.1
  cbv
  rw [hc]
  cbv
  (repeat'((first|rw [e1]|refine goX hg _ (by omega) hy rfl ?_|refine goX hg _ hp hq rfl ?_|refine dg hg rfl (by decide) hm ?_;cbv;rw [gd hg,<-hh]);cbv))
  exact hB ((ha++[⟨y0,y1,y2,y3,y4,y5,y6⟩],E2)) _ _ ⟨h3,⟨aE,nl⟩⟩ (Wk.weak (wkG [some 2] zr4 ⟨wqE rfl hs,trivial⟩ (by decide) aD))
theorem oC(xs:List ar)(ln:List Int)(hl:xs.length<=1048576)(hn:ln.length<=1048576)(hb:∀i∈ln,0<=i/\i<(xs.length:Int)):PC0 221 [.c (.view (vw ar.c xs)),.c (.view (vw ak ln))] (.t (.c (.view (vw ar.c (pck xs ln))))):=wx (vg xs ln hl hn hb) fun _=>rfl
theorem nY(ls:List (List Int))(i:Int)(hl:ls.length<=1048576)(hb:∀l∈ls,l.length<=1048576):PC0 270 [.c (.view (vwA lnA ls)),ai i] (.i (pt i 0 ls)):=by
 obtain⟨R,hR⟩:=nmE (pt i 0 ls)
 rw [<-hR]
 obtain⟨W,hW⟩:=nmE (vwA lnA ls);(try rw [<-hW]at⊢)
 refine ae (aJ f270) ay func270 fun g F hg hF=> ?_
 cbv
 refine aY hg ay (by kernel_rfl) W (lnA) ls hW hl (fun z(s:Int)=>[(0,.v W),(1,.i (i)),(5,.i (z))]) (fun z(s:Int)=>[]) (fun z(s:Int)=>s=z) (fun(s:Int) rest=>pt i s rest) (R) (0:Int) hR.symm rfl (Wk.weak (wkG [] zr3 trivial (by decide) aD)) (fun z s B hz h0 hi he=> ?_) (fun z s x rest B z0 z1 z2 hx hy h0 hi hc e1 hB=> ?_)
 ·cbv;rw [he];cbv
  exact aV hF h0
 ·subst hi
  have cH:=jz x i (hb x (zqd hx))
  simp only [pt]at h0
  obtain⟨C,hC⟩:=nmE (cnt x i);(try rw [<-hC]at cH);(try rw [<-hC]at h0)
  obtain⟨L,hL⟩:=nmE (vw ak x)
  rw [<-hL]at cH
  have ha:W[s.toNat]? =some [.view L]:=by rw [hL];exact hy
  have t1:g .q .gtr (C) (0)=decide ((0)<(C)):=cu hg _ _
  cbv
  rw [hc]
  cbv
  refine goX hg _ z0 ha rfl ?_
  cbv
  by_cases h1:0<C
  ·(first|rw [zqu h1]at t1|rw [zqt h1]at t1|rw [zqu (Classical.not_not.2 h1)]at t1|rw [zqt (Classical.not_not.2 h1)]at t1)
   (repeat'((first|rw [t1]|refine ad hg cH ?_);cbv))
   exact aV hF (by simpa [h1]using h0)
  ·(first|rw [zqu h1]at t1|rw [zqt h1]at t1|rw [zqu (Classical.not_not.2 h1)]at t1|rw [zqt (Classical.not_not.2 h1)]at t1)
   (repeat'((first|rw [t1]|rw [e1]|refine ad hg cH ?_);cbv))
   exact hB ((s+1)) _ _ ⟨(by simpa [h1]using h0),rfl⟩ (Wk.weak (wkG [] zr3 trivial (by decide) aD))
def zw(s:aj)(ac:aI)(xs:List ar)(ln:List Int):Int:=if s.wrap=1/\ac.mode=3 then ac.n else cro (pck xs ln)
def CL(s:aj)(row:Bool)(ac:aI)(ls:List (List Int))(xs:List ar):List Int:=
 if¬s.wrap=1/\ac.mode=3 then wu (ls.map (zw s ac xs)) (jd s (!row)) ac.n s.content else ls.map (zw s ac xs)
theorem tS(xs:List ar)(ln:List Int):(pck xs ln).length<=ln.length:=List.length_filterMap_le _ _
theorem oe(n:Int)(sy:aj)(wd hgh:aI)(row:Bool)(iw ih al ac:aI)(K:LLA)(ls:List (List Int))(xs:List ar)(hl:xs.length<=1048576)(hn:ls.length<=64)(hb:∀l∈ls,l.length<=1048576/\∀i∈l,0<=i/\i<(xs.length:Int)):dc prog 176 [.agg (plL n sy wd hgh row iw ih al ac (.view K)),.c (.view (vwA lnA ls)),.c (.view (vw ar.c xs))] fun res hk=>res= .o 0/\hk=[⟨3,1,vw ak (CL sy row ac ls xs)⟩]:=by
 obtain⟨am,an⟩:=ac
 have cG:=iJ sy (!row)
 have hp:=fun l(h:l∈ls)=>j8 xs l hl (hb l h).1 (hb l h).2
 have ht:=fun l(h:l∈ls)=>sq (pck xs l) (Nat.le_trans (tS xs l) (hb l h).1)
 have cS:=mN (ls.map (zw sy ⟨am,an⟩ xs)) (jd sy (!row)) an sy.content (by rw [zql];exact hn)
 obtain⟨R,hR⟩:=nmE (CL sy row ⟨am,an⟩ ls xs)
 obtain⟨Q,hQ⟩:=nmE (ls.map (zw sy ⟨am,an⟩ xs))
 have hA:Q.length<=64:=by rw [hQ,zql];exact hn
 rw [<-hR]
 unfold CL at hR
 rw [<-hQ]at cS hR
 obtain⟨G,hG⟩:=nmE (jd sy (!row));(try rw [<-hG]at cG);(try rw [<-hG]at cS);(try rw [<-hG]at hR)
 obtain⟨wr,hd⟩:=nmE (decide (sy.wrap=1))
 obtain⟨ex,hj⟩:=nmE (decide (am=3))
 have hm:R=if(!wr&&ex)=true then wu Q G an sy.content else Q:=by rw [hR,hd,hj];simp
 have ho:∀l,zw sy ⟨am,an⟩ xs l=if(wr&&ex)=true then an else cro (pck xs l):=fun l=>by rw [hd,hj];simp [zw]
 clear hR
 obtain⟨c1,ha⟩:=nmE (zw sy ⟨am,an⟩ xs)
 rw [<-ha]at ho hQ
 obtain⟨V,hV⟩:=nmE (vw ar.c xs);(try rw [<-hV]at hp);(try rw [<-hV]at⊢)
 obtain⟨S,hS⟩:=nmE (vw ak R);(try rw [<-hS]at⊢)
 obtain⟨U,hU⟩:=nmE (vw ak Q);(try rw [<-hU]at cS)
 obtain⟨X,hX⟩:=nmE (vw ak (wu Q G an sy.content));(try rw [<-hX]at cS)
 have iX:=imV hX
 have kU:=kmV (k:=1) hU fun _=>rfl
 have dU:=dmV hU
 obtain⟨W,hW⟩:=nmE (vwA lnA ls);(try rw [<-hW]at⊢)
 have t0:∀g:Gd,g=G0 prog 0 f176.ntmps->g .q .neq sy.wrap 1= !wr:=fun g hg=>by rw [bn hg,hd];exact(dN _ _).trans (by simp)
 have t1:∀g:Gd,g=G0 prog 0 f176.ntmps->g .q .eql sy.wrap 1=wr:=fun g hg=>by rw [bj hg,hd];exact zqn _ _
 have t2:∀g:Gd,g=G0 prog 0 f176.ntmps->g .q .eql am 3=ex:=fun g hg=>by rw [bj hg,hj];exact zqn _ _
 clear hd hj ha hG
 have hu:ls.length<=1048576:=by omega
 refine ae (aJ f176) ay func176 fun g F hg hF=> ?_
 have t0:=t0 g hg
 have t1:=t1 g hg
 have t2:=t2 g hg
 cbv
 refine aY hg ay (by kernel_rfl) W (lnA) ls hW hu (fun z(s:List Int×LLA)=>[(2,.v V),(3,.p 0),(7,.o 1),(11,.v W),(12,.i (g .ln W)),(13,.i (z))]) (fun z(s:List Int×LLA)=>[.bx 196 75 (plL n sy wd hgh row iw ih al ⟨am,an⟩ (.view K)),.rw ⟨3,1,s.2⟩]) (fun z(s:List Int×LLA)=>s.2=vw ak s.1) (fun(s:List Int×LLA) rest=>s.1++rest.map c1) (Q) ([],[]) (by rw [hQ];rfl) rfl (Wk.weak (wkG [some _,none] zr6 ⟨wqE rfl rfl,⟨_,rfl,rfl⟩,trivial⟩ (by decide) aD)) (fun z s B hz h0 hi he=> ?_) (fun z s x rest B z0 z1 z2 hx hy h0 hi hc e1 hB=> ?_)
 ·obtain⟨hf,E⟩:=s
  dsimp only at hi h0
  have pE:=pmV hi
  obtain rfl:hf=Q:=by simpa using h0
  rw [<-hU]at hi
  replace hi:=hi.symm
  subst hi
  cbv;rw [he];cbv
  cases wr<;>cases ex
  all_goals
   (try cbv)
   ((repeat'((first|rw [t0]|rw [t2]|refine aa hg cG ?_);cbv)))
  all_goals first
   |exact bR (by rw [hF,hS,hm,hU];rfl) rfl pE
   |((refine bO hg cS (ah (aZ (ab:=⟨_,_,U⟩) rfl kU dU) (ah (ao rfl) (ah (ao rfl) (ah (ao rfl) (av))))) iX ?_;cbv);exact bR (by rw [hF,hS,hm,hX];rfl) rfl (by rw [hX];exact aF _ _))
 ·obtain⟨hf,E⟩:=s
  dsimp only at hi h0
  have hr:x∈ls:=zqd hx
  have cP:=hp x hr
  have cC:=ht x hr
  have hq:=ho x
  obtain⟨C,hC⟩:=nmE (cro (pck xs x));(try rw [<-hC]at cC);(try rw [<-hC]at hq)
  obtain⟨M,hM⟩:=nmE (vw ar.c (pck xs x));(try rw [<-hM]at cP);(try rw [<-hM]at cC)
  have hs:E.length<=1048576:=by
   have:=congrArg List.length h0
   rw [zqe]at this
   rw [hi,aq];omega
  obtain⟨L,hL⟩:=nmE (vw ak x)
  rw [<-hL]at cP
  have hv:W[z.toNat]? =some [.view L]:=by rw [hL];exact hy
  have h3:(hf++[c1 x])++rest.map c1=Q:=by rw [<-h0];simp
  have aE:E++[[.J (c1 x)]]=vw ak (hf++[c1 x]):=by rw [hi,bv];rfl
  obtain⟨E2,hh⟩:∃E2,E2=E++[[.J (c1 x)]]:=⟨_,rfl⟩
  rw [<-hh]at aE
  have hw:=pmV aE
  rw [hq]at hh
  cbv
  rw [hc]
  cbv
  refine goX hg _ z0 hv rfl ?_
  cbv
  cases wr<;>cases ex
  all_goals
   simp only [Bool.and_self,Bool.and_true,Bool.and_false,Bool.false_eq_true,if_false,if_true]at hh
   (try cbv)
   ((repeat'((first|rw [t1]|rw [t2]|rw [e1]|refine ad hg cP ?_|refine ad hg cC ?_|refine dg hg rfl (by decide) hs ?_;cbv;rw [gd hg,<-hh]);cbv)))
   exact hB ((hf++[c1 x],E2)) _ _ ⟨h3,aE⟩ (Wk.weak (wkG [some _,some 3] zr6 ⟨wqE rfl rfl,wqE rfl hw,trivial⟩ (by decide) aD))
theorem nU(n:Int)(sy:aj)(row:Bool)(al ac:aI)(kn:Int)(K:LLA)(ls:List (List Int))(xs:List ar)(hl:xs.length<=1048576)(hn:ls.length<=64)(hb:∀l∈ls,l.length<=1048576/\∀i∈l,0<=i/\i<(xs.length:Int)):dc prog 214 [.agg (nwL n sy row al ac kn (.view K)),.c (.view (vwA lnA ls)),.c (.view (vw ar.c xs))] fun res hk=>res= .o 0/\hk=[⟨3,1,vw ak (CL sy row ac ls xs)⟩]:=by
 obtain⟨am,an⟩:=ac
 have cG:=gF sy (!row)
 have hp:=fun l(h:l∈ls)=>oC xs l hl (hb l h).1 (hb l h).2
 have ht:=fun l(h:l∈ls)=>rK (pck xs l) (Nat.le_trans (tS xs l) (hb l h).1)
 have cS:=mD (ls.map (zw sy ⟨am,an⟩ xs)) (jd sy (!row)) an sy.content (by rw [zql];exact hn)
 obtain⟨R,hR⟩:=nmE (CL sy row ⟨am,an⟩ ls xs)
 obtain⟨Q,hQ⟩:=nmE (ls.map (zw sy ⟨am,an⟩ xs))
 have hA:Q.length<=64:=by rw [hQ,zql];exact hn
 rw [<-hR]
 unfold CL at hR
 rw [<-hQ]at cS hR
 obtain⟨G,hG⟩:=nmE (jd sy (!row));(try rw [<-hG]at cG);(try rw [<-hG]at cS);(try rw [<-hG]at hR)
 obtain⟨wr,hd⟩:=nmE (decide (sy.wrap=1))
 obtain⟨ex,hj⟩:=nmE (decide (am=3))
 have hm:R=if(!wr&&ex)=true then wu Q G an sy.content else Q:=by rw [hR,hd,hj];simp
 have ho:∀l,zw sy ⟨am,an⟩ xs l=if(wr&&ex)=true then an else cro (pck xs l):=fun l=>by rw [hd,hj];simp [zw]
 clear hR
 obtain⟨c1,ha⟩:=nmE (zw sy ⟨am,an⟩ xs)
 rw [<-ha]at ho hQ
 obtain⟨V,hV⟩:=nmE (vw ar.c xs);(try rw [<-hV]at hp);(try rw [<-hV]at⊢)
 obtain⟨S,hS⟩:=nmE (vw ak R);(try rw [<-hS]at⊢)
 obtain⟨U,hU⟩:=nmE (vw ak Q);(try rw [<-hU]at cS)
 obtain⟨X,hX⟩:=nmE (vw ak (wu Q G an sy.content));(try rw [<-hX]at cS)
 have iX:=imV hX
 have kU:=kmV (k:=1) hU fun _=>rfl
 have dU:=dmV hU
 obtain⟨W,hW⟩:=nmE (vwA lnA ls);(try rw [<-hW]at⊢)
 have t0:∀g:Gd,g=G0 prog 0 f214.ntmps->g .q .neq sy.wrap 1= !wr:=fun g hg=>by rw [bn hg,hd];exact(dN _ _).trans (by simp)
 have t1:∀g:Gd,g=G0 prog 0 f214.ntmps->g .q .eql sy.wrap 1=wr:=fun g hg=>by rw [bj hg,hd];exact zqn _ _
 have t2:∀g:Gd,g=G0 prog 0 f214.ntmps->g .q .eql am 3=ex:=fun g hg=>by rw [bj hg,hj];exact zqn _ _
 clear hd hj ha hG
 have hu:ls.length<=1048576:=by omega
 refine ae (aJ f214) ay func214 fun g F hg hF=> ?_
 have t0:=t0 g hg
 have t1:=t1 g hg
 have t2:=t2 g hg
 cbv
 rw [t2]
 cbv
 refine aY hg ay (by kernel_rfl) W (lnA) ls hW hu (fun z(s:List Int×LLA)=>[(1,.v W),(2,.v V),(3,.p 0),(7,.o 1),(8,.t (abl (ex))),(9,.i (z))]) (fun z(s:List Int×LLA)=>[.bx 180 68 (nwL n sy row al ⟨am,an⟩ kn (.view K)),.rw ⟨3,1,s.2⟩]) (fun z(s:List Int×LLA)=>s.2=vw ak s.1) (fun(s:List Int×LLA) rest=>s.1++rest.map c1) (Q) ([],[]) (by rw [hQ];rfl) rfl (Wk.weak (wkG [some _,some _] zr6 ⟨wqE rfl rfl,wqE rfl rfl,trivial⟩ (by decide) aD)) (fun z s B hz h0 hi he=> ?_) (fun z s x rest B z0 z1 z2 hx hy h0 hi hc e1 hB=> ?_)
 ·obtain⟨hf,E⟩:=s
  dsimp only at hi h0
  have pE:=pmV hi
  obtain rfl:hf=Q:=by simpa using h0
  rw [<-hU]at hi
  replace hi:=hi.symm
  subst hi
  cbv;rw [he];cbv
  cases wr<;>cases ex
  all_goals
   (try cbv)
   ((repeat'((first|rw [t0]|refine aa hg cG ?_);cbv)))
  all_goals first
   |exact bR (by rw [hF,hS,hm,hU];rfl) rfl pE
   |((refine bO hg cS (ah (aZ (ab:=⟨_,_,U⟩) rfl kU dU) (ah (ao rfl) (ah (ao rfl) (ah (ao rfl) (av))))) iX ?_;cbv);exact bR (by rw [hF,hS,hm,hX];rfl) rfl (by rw [hX];exact aF _ _))
 ·obtain⟨hf,E⟩:=s
  dsimp only at hi h0
  have hr:x∈ls:=zqd hx
  have cP:=hp x hr
  have cC:=ht x hr
  have hq:=ho x
  obtain⟨C,hC⟩:=nmE (cro (pck xs x));(try rw [<-hC]at cC);(try rw [<-hC]at hq)
  obtain⟨M,hM⟩:=nmE (vw ar.c (pck xs x));(try rw [<-hM]at cP);(try rw [<-hM]at cC)
  have hs:E.length<=1048576:=by
   have:=congrArg List.length h0
   rw [zqe]at this
   rw [hi,aq];omega
  obtain⟨L,hL⟩:=nmE (vw ak x)
  rw [<-hL]at cP
  have hv:W[z.toNat]? =some [.view L]:=by rw [hL];exact hy
  have h3:(hf++[c1 x])++rest.map c1=Q:=by rw [<-h0];simp
  have aE:E++[[.J (c1 x)]]=vw ak (hf++[c1 x]):=by rw [hi,bv];rfl
  obtain⟨E2,hh⟩:∃E2,E2=E++[[.J (c1 x)]]:=⟨_,rfl⟩
  rw [<-hh]at aE
  have hw:=pmV aE
  rw [hq]at hh
  cbv
  rw [hc]
  cbv
  refine goX hg _ z0 hv rfl ?_
  cbv
  cases wr<;>cases ex
  all_goals
   simp only [Bool.and_self,Bool.and_true,Bool.and_false,Bool.false_eq_true,if_false,if_true]at hh
   (try cbv)
   ((repeat'((first|rw [t1]|rw [e1]|refine ad hg cP ?_|refine ad hg cC ?_|refine dg hg rfl (by decide) hs ?_;cbv;rw [gd hg,<-hh]);cbv)))
   exact hB ((hf++[c1 x],E2)) _ _ ⟨h3,aE⟩ (Wk.weak (wkG [some _,some 3] zr6 ⟨wqE rfl rfl,wqE rfl hw,trivial⟩ (by decide) aD))
theorem nT(n:Int)(sy:aj)(row:Bool)(al ac:aI)(kn:Int)(K:LLA)(ls:List (List Int))(xs:List ar)(hl:xs.length<=1048576)(hn:ls.length<=64)(hb:∀l∈ls,l.length<=1048576/\∀i∈l,0<=i/\i<(xs.length:Int)):PC0 214 [.agg (nwL n sy row al ac kn (.view K)),.c (.view (vwA lnA ls)),.c (.view (vw ar.c xs))] (.t (.c (.view (vw ak (CL sy row ac ls xs))))):=wx (nU n sy row al ac kn K ls xs hl hn hb) fun _=>rfl
variable {w h b:Int}
theorem Aj{P:Program}{f:FuncId}{args:List AT}{t k:Nat}{V:LLA}(hc:dc P f args fun res ha=>res= .t (.agg [.J w,.J h,.J b,.own 0])/\ha=[⟨t,k,V⟩])(hk:∀x∈V,x.length=k)(hd:∀x∈V,x.all dat=true):
  dc P f args fun res ha=>res= .t (.agg [.J w,.J h,.J b,.view V])/\ha=[]:=
 vH hc fun res ha⟨e1,e2⟩=>by
  subst e1 e2
  exact⟨.t (.agg [.J w,.J h,.J b,.view V]),[],bH (sl1 0 V) (jh rfl hk hd) (Wk.weak (wkG [] ⟨.inl ⟨rfl,rfl⟩,trivial⟩ trivial (by decide) aD)),rfl,rfl⟩
theorem Cy{F:List AT->EH->Prop}{t k:Nat}{eh:EH}(hF:F=mA 0 (fun res h'=>∃rows,h'=rows.map .live/\(res= .t (.agg [.J w,.J h,.J b,.own 0])/\rows=[⟨t,k,[]⟩]))):F [.agg [.J w,.J h,.J b,.N]] eh:=by
 subst hF
 refine .inl ⟨.t (.agg [.J w,.J h,.J b,.own 0]),[.live ⟨t,k,[]⟩],[none],⟨Nat.zero_le _,fun i hi=>absurd hi (Nat.not_lt_zero _),by simp,?_,?_⟩,[⟨t,k,[]⟩],rfl,rfl,rfl⟩
 ·simp only [rnH,zqw]
  exact⟨fun h=>absurd h (Nat.not_lt_zero _),rfl,trivial⟩
 ·exact⟨.inr zr4,trivial⟩
theorem vG(n:Int)(s:aj)(wd hgh:aI)(row:Bool)(iw ih al ac:aI)(K:LLA)(a b:Int):dc prog 170 [.agg (plL n s wd hgh row iw ih al ac (.view K)),ai a,ai b] fun res hi=>res= .t (.agg [.imm (.int .i64 (zc s wd hgh (a,b)).wide),.imm (.int .i64 (zc s wd hgh (a,b)).high),.imm (.int .i64 (zc s wd hgh (a,b)).base),.own 0])/\hi=[⟨45,5,vw aM.c (zc s wd hgh (a,b)).frames⟩]:=by
 have cF:=eU s
 obtain⟨w0,w1⟩:=wd
 obtain⟨h0,h1⟩:=hgh
 obtain⟨f,hf⟩:=nmE (lw s)
 have hj:zc s ⟨w0,w1⟩ ⟨h0,h1⟩ (a,b)=⟨tak ⟨w0,w1⟩ (wrap64 (a+adE f.left f.right)),tak ⟨h0,h1⟩ (wrap64 (b+adE f.top f.bottom)),tak ⟨h0,h1⟩ (wrap64 (b+adE f.top f.bottom)),[]⟩:=by rw [hf];rfl
 rw [hj]
 rw [<-hf]at cF
 clear hf hj
 obtain⟨f0,f1,f2,f3⟩:=f
 have cW:=ec f0 f1 f2 f3
 have cH:=ei f0 f1 f2 f3
 dsimp only
 obtain⟨A1,ha⟩:=nmE (adE f0 f2);(try rw [<-ha]at cW);(try rw [<-ha]at⊢)
 obtain⟨A2,hb⟩:=nmE (adE f1 f3);(try rw [<-hb]at cH);(try rw [<-hb]at⊢)
 have cT:=fH w0 w1 (wrap64 (a+A1))
 have cU:=fH h0 h1 (wrap64 (b+A2))
 obtain⟨E1,hc⟩:=nmE (wrap64 (a+A1))
 obtain⟨E2,hd⟩:=nmE (wrap64 (b+A2))
 rw [<-hc]at cT⊢
 rw [<-hd]at cU⊢
 obtain⟨T1,he⟩:=nmE (tak ⟨w0,w1⟩ E1);(try rw [<-he]at cT);(try rw [<-he]at⊢)
 obtain⟨T2,hh⟩:=nmE (tak ⟨h0,h1⟩ E2);(try rw [<-hh]at cU);(try rw [<-hh]at⊢)
 have t1:∀g:Gd,g=G0 prog 0 f170.ntmps->g .w .add .i64 a A1=E1:=fun g hg=>by rw [aN hg,hc]
 have t2:∀g:Gd,g=G0 prog 0 f170.ntmps->g .w .add .i64 b A2=E2:=fun g hg=>by rw [aN hg,hd]
 clear ha hb hc hd he hh
 rw [show vw aM.c ([]:List aM)=[]from rfl]
 refine ae (aJ f170) ay func170 fun g F hg hF=> ?_
 have t1:=t1 g hg
 have t2:=t2 g hg
 cbv
 (repeat'((first|rw [t1]|rw [t2]|refine ad hg cF ?_|refine aa hg cW ?_|refine aa hg cH ?_|refine aa hg cT ?_|refine aa hg cU ?_);cbv))
 exact Cy hF
theorem gU{ns:List af}{k:Int}{y:af}(h:ns[(k-1).toNat]? =some y):kst ns k=y.style:=by
 unfold kst;rw [h]
def mo(V:LLA)(rtl:Bool):List AC:=[.view V,.B rtl,.imm (.pointer none)]
def wt(V:LLA)(rtl:Bool)(b:Bv)(kid:Int):Prop:=∀w0 w1 h0 h1:Int,PC0 83 [.agg (mo V rtl),ai kid,agP ⟨w0,w1⟩,agP ⟨h0,h1⟩] (.t (.agg (ju.ac (b kid ⟨w0,w1⟩ ⟨h0,h1⟩))))
theorem j7(row:Bool)(b:ju):PC0 242 [abl row,.agg (ju.ac b)] (.i (alB row b)):=by
 obtain⟨w,h,bs,fr⟩:=b
 have e:ju.ac ⟨w,h,bs,fr⟩=[.J w,.J h,.J bs,.view (vw aM.c fr)]:=rfl
 rw [e]
 obtain⟨V,hV⟩:=nmE (vw aM.c fr);(try rw [<-hV]at⊢)
 cases row
 all_goals
  refine ae (aJ f242) ay func242 fun g F hg hF=> ?_
  cbv
  exact aV hF rfl
theorem nx(V:LLA)(rtl:Bool)(b:Bv)(kid:Int)(hbx:wt V rtl b kid)(n:Int)(s:aj)(wd hgh:aI)(row:Bool)(iw ih al ac:aI)(K:LLA)(a0 a1 c0 c1:Int):PC0 241 [.agg (mo V rtl),.agg (plL n s wd hgh row iw ih al ac (.view K)),ai kid,agP ⟨a0,a1⟩,agP ⟨c0,c1⟩] (.t (.agg (ju.ac (BG b row kid ⟨a0,a1⟩ ⟨c0,c1⟩)))):=by
 unfold BG
 have ha:=hbx a0 a1 c0 c1
 have hb:=hbx c0 c1 a0 a1
 obtain⟨b1,hc⟩:=nmE (b kid ⟨a0,a1⟩ ⟨c0,c1⟩)
 obtain⟨b2,hd⟩:=nmE (b kid ⟨c0,c1⟩ ⟨a0,a1⟩)
 rw [<-hc]at ha
 rw [<-hd]at hb
 rw [<-hc,<-hd]
 clear hc hd hbx
 have e:∀q:ju,ju.ac q=[.J q.wide,.J q.high,.J q.base,.view (vw aM.c q.frames)]:=fun q=>rfl
 rw [e]at ha hb
 cases row
 ·simp only [Bool.false_eq_true,if_false]
  rw [e]
  obtain⟨F2,hf⟩:=nmE (vw aM.c b2.frames);(try rw [<-hf]at hb);(try rw [<-hf]at⊢)
  refine ae (aJ f241) ay func241 fun g F hg hF=> ?_
  cbv
  repeat'(refine fQ hg hb rfl rfl ?_;cbv)
  exact fg hF rfl ⟨rfl,rfl⟩
 ·simp only [if_true]
  rw [e]
  obtain⟨F1,he⟩:=nmE (vw aM.c b1.frames);(try rw [<-he]at ha);(try rw [<-he]at⊢)
  refine ae (aJ f241) ay func241 fun g F hg hF=> ?_
  cbv
  repeat'(refine fQ hg ha rfl rfl ?_;cbv)
  exact fg hF rfl ⟨rfl,rfl⟩
end Go.Proofs.YtckchgoblpgpbaaGreat
