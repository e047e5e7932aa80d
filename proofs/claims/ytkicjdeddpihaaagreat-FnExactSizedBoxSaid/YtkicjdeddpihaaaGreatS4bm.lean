/- A child laid out, its base: the program, by what its box is. -/
import Derived.Test.YtkicjdeddpihaaaGreatS4bl
set_option linter.unusedVariables false
set_option linter.unusedSimpArgs false
set_option maxHeartbeats 8000000
namespace Go.Proofs.YtkicjdeddpihaaaGreat
open Go.ChangeShapes Go.WideShapes Go.ChangeAt Go.RowKit Am Go.Proofs.Tryz
set_option maxRecDepth 100000
theorem jg(xs:List af)(gap room:Int)(wr:Bool)(hl:xs.length<=1048576):PC0 128 [.c (.view (vw af.c xs)),ai gap,ai room,abl wr] (.t (.c (.view (vwA lnA (lns xs gap room wr))))):=uV (sH xs gap room wr hl) (H5 _) (Cl _)
theorem qe(xs:List af)(gap room:Int)(wr:Bool)(hl:xs.length<=1048576):PC0 85 [.c (.view (vw af.c xs)),ai gap,ai room,abl wr] (.i (lng xs gap room wr)):=by
 have cL:=jn xs gap room wr hl
 have hb:=fun l hn=>ib xs l hl hn
 have hd:=fun l hl=>jS (xs:=xs) (gap:=gap) (room:=room) (wr:=wr) (l:=l) hl
 have hh:=lx xs gap room wr
 obtain⟨R,hR⟩:=nmE (lng xs gap room wr)
 rw [<-hR]
 unfold lng at hR
 obtain⟨ls,hf⟩:=nmE (lns xs gap room wr)
 rw [<-hf]at cL hR hd hh
 obtain⟨V,hV⟩:=nmE (vw af.c xs)
 have hp:=lmV hV
 have iV:=imV hV
 have kV:=kmV (k:=9) hV fun _=>rfl
 have dV:=dmV hV
 rw [<-hV]at cL hb
 rw [<-hV]
 obtain⟨W,hW⟩:=nmE (vwA lnA ls);(try rw [<-hW]at cL)
 refine ad (aM f85) ay func85 fun g F hg hF=> ?_
 cbv
 repeat'(refine ae hg cL ?_;cbv)
 refine aY hg ay (by kernel_rfl) W (lnA) ls hW (by omega) (fun z(s:Int)=>[(0,.v V),(1,.i (gap)),(9,.i (s)),(17,.v W),(18,.i (g .ln W)),(19,.i (z))]) (fun z(s:Int)=>[]) (fun z(s:Int)=>True) (fun(s:Int) rest=>rest.foldl (fun m l=>mx2 m (lou xs gap l)) s) (R) (0:Int) hR.symm trivial (Wk.weak (wkG [] zr6 trivial (by decide) aG)) (fun z s B hz h0 hi he=> ?_) (fun z s x rest B z0 z1 z2 hx hy h0 hi hc e1 hB=> ?_)
 ·cbv;rw [he];cbv
  exact aV hF h0
 ·have hk:x∈ls:=zqd hx
  have hq:=hd x hk
  have cI:=hb x (by omega)
  have hm:(lit xs x).length<=1048576:=Nat.le_trans rC (by omega)
  have cH:=vB (lit xs x) hm
  have cO:=fo (lit xs x) ((lit xs x).map hyp) gap hm (by rw [zql];exact hm)
  have hj:lou xs gap x=wrap64 (iv (lit xs x) ((lit xs x).map hyp) gap):=rfl
  rw [List.foldl_cons]at h0
  rw [<-hj]at cO
  obtain⟨OU,ha⟩:=nmE (lou xs gap x);(try rw [<-ha]at cO);(try rw [<-ha]at h0)
  obtain⟨M,hM⟩:=nmE (vw af.c (lit xs x));(try rw [<-hM]at cI);(try rw [<-hM]at cH);(try rw [<-hM]at cO)
  obtain⟨H,hH⟩:=nmE (vw aj ((lit xs x).map hyp));(try rw [<-hH]at cH);(try rw [<-hH]at cO)
  obtain⟨L,hL⟩:=nmE (vw aj x)
  rw [<-hL]at cI
  have ho:W[z.toNat]? =some [.view L]:=by rw [hL];exact hy
  have eM:g .mx s OU=mx2 s OU:=by rw [Fy hg];rfl
  cbv
  rw [hc]
  cbv
  refine goX hg _ z0 ho rfl ?_
  cbv
  (repeat'((first|rw [eM]|rw [e1]|refine ae hg cI ?_|refine ae hg cH ?_|refine ae hg cO ?_);cbv))
  exact hB ((mx2 s OU)) _ _ ⟨h0,trivial⟩ (Wk.weak (wkG [] zr6 trivial (by decide) aG))
theorem py(xs:List af)(gap room:Int)(wr:Bool)(hl:xs.length<=1048576):PC0 132 [.c (.view (vw af.c xs)),ai gap,ai room,abl wr] (.i (lng xs gap room wr)):=by
 have cL:=jg xs gap room wr hl
 have hb:=fun l hn=>k8 xs l gap hl hn
 have hd:=fun l hl=>jS (xs:=xs) (gap:=gap) (room:=room) (wr:=wr) (l:=l) hl
 have hk:=lx xs gap room wr
 obtain⟨R,hR⟩:=nmE (lng xs gap room wr)
 rw [<-hR]
 unfold lng at hR
 obtain⟨ls,hf⟩:=nmE (lns xs gap room wr)
 rw [<-hf]at cL hR hd hk
 obtain⟨V,hV⟩:=nmE (vw af.c xs)
 have hp:=lmV hV
 have iV:=imV hV
 have kV:=kmV (k:=9) hV fun _=>rfl
 have dV:=dmV hV
 rw [<-hV]at cL hb
 rw [<-hV]
 obtain⟨W,hW⟩:=nmE (vwA lnA ls);(try rw [<-hW]at cL)
 refine ad (aM f132) ay func132 fun g F hg hF=> ?_
 cbv
 repeat'(refine ae hg cL ?_;cbv)
 refine aY hg ay (by kernel_rfl) W (lnA) ls hW (by omega) (fun z(s:Int)=>[(0,.v V),(1,.i (gap)),(9,.i (s)),(10,.v W),(11,.i (z))]) (fun z(s:Int)=>[]) (fun z(s:Int)=>True) (fun(s:Int) rest=>rest.foldl (fun m l=>mx2 m (lou xs gap l)) s) (R) (0:Int) hR.symm trivial (Wk.weak (wkG [] zr5 trivial (by decide) aG)) (fun z s B hz h0 hi he=> ?_) (fun z s x rest B z0 z1 z2 hx hy h0 hi hc e1 hB=> ?_)
 ·cbv;rw [he];cbv
  exact aV hF h0
 ·have hm:x∈ls:=zqd hx
  have hq:=hd x hm
  have cI:=hb x (by omega)
  rw [List.foldl_cons]at h0
  obtain⟨OU,ha⟩:=nmE (lou xs gap x);(try rw [<-ha]at cI);(try rw [<-ha]at h0)
  obtain⟨L,hL⟩:=nmE (vw aj x)
  rw [<-hL]at cI
  have ho:W[z.toNat]? =some [.view L]:=by rw [hL];exact hy
  have hj:mx2 s OU=if s<OU then OU else s:=rfl
  rw [hj]at h0
  have t0:g .q .gtr (OU) (s)=decide ((s)<(OU)):=cj hg _ _
  cbv
  rw [hc]
  cbv
  refine goX hg _ z0 ho rfl ?_
  cbv
  by_cases hh:s<OU
  ·rw [if_pos hh]at h0
   (first|rw [zqu hh]at t0|rw [zqt hh]at t0|rw [zqu (Classical.not_not.2 hh)]at t0|rw [zqt (Classical.not_not.2 hh)]at t0)
   (repeat'((first|rw [t0]|rw [e1]|refine ae hg cI ?_);cbv))
   exact hB (OU) _ _ ⟨h0,trivial⟩ (Wk.weak (wkG [] zr5 trivial (by decide) aG))
  ·rw [if_neg hh]at h0
   (first|rw [zqu hh]at t0|rw [zqt hh]at t0|rw [zqu (Classical.not_not.2 hh)]at t0|rw [zqt (Classical.not_not.2 hh)]at t0)
   (repeat'((first|rw [t0]|rw [e1]|refine ae hg cI ?_);cbv))
   exact hB (s) _ _ ⟨h0,trivial⟩ (Wk.weak (wkG [] zr5 trivial (by decide) aG))
theorem qg(xs:List af)(gap room:Int)(wr:Bool)(inner:Int)(hl:xs.length<=1048576):da prog 87 [.c (.view (vw af.c xs)),ai gap,ai room,abl wr,ai inner] fun res hd=>res= .o 0/\hd=[⟨3,1,vw aj (lsz xs gap room wr inner)⟩]:=by
 have cL:=jn xs gap room wr hl
 have hh:=fun l hn=>ib xs l hl hn
 have hj:=fun l hl=>jS (xs:=xs) (gap:=gap) (room:=room) (wr:=wr) (l:=l) hl
 have hp:=lx xs gap room wr
 have hk:=yg xs gap room wr inner
 obtain⟨R,hR⟩:=nmE (lsz xs gap room wr inner)
 rw [<-hR]at hk⊢
 unfold lsz at hR
 obtain⟨ls,ho⟩:=nmE (lns xs gap room wr)
 rw [<-ho]at cL hR hj hp
 obtain⟨V,hV⟩:=nmE (vw af.c xs)
 have hu:=lmV hV
 have iV:=imV hV
 have kV:=kmV (k:=9) hV fun _=>rfl
 have dV:=dmV hV
 rw [<-hV]at cL hh
 rw [<-hV]
 obtain⟨W,hW⟩:=nmE (vwA lnA ls);(try rw [<-hW]at cL)
 obtain⟨S,hS⟩:=nmE (vw aj R);(try rw [<-hS]at⊢)
 refine ad (aM f87) ay func87 fun g F hg hF=> ?_
 cbv
 repeat'(refine ae hg cL ?_;cbv)
 refine aY hg ay (by kernel_rfl) W (lnA) ls hW (by omega) (fun z(s:List Int×LLA)=>[(0,.v V),(1,.i (gap)),(4,.i (inner)),(11,.o 0),(18,.v W),(19,.i (g .ln W)),(20,.i (z))]) (fun z(s:List Int×LLA)=>[.rw ⟨3,1,s.2⟩]) (fun z(s:List Int×LLA)=>s.2=vw aj s.1) (fun(s:List Int×LLA) rest=>s.1++rest.flatMap (fun l=>flx (lit xs l) gap inner)) (R) ([],[]) (by rw [hR];rfl) rfl (Wk.weak (wkG [none] zr7 ⟨⟨_,rfl,rfl⟩,trivial⟩ (by decide) aG)) (fun z s B hz h0 hi he=> ?_) (fun z s x rest B z0 z1 z2 hx hy h0 hi hc e1 hB=> ?_)
 ·obtain⟨ha,E⟩:=s
  dsimp only at hi h0
  have pE:=pmV hi
  obtain rfl:ha=R:=by simpa using h0
  rw [hS,<-hi]at hF
  cbv;rw [he];cbv
  exact bV hF rfl pE
 ·obtain⟨ha,E⟩:=s
  dsimp only at hi h0
  have hq:x∈ls:=zqd hx
  have hv:=hj x hq
  have cI:=hh x (by omega)
  have hm:(lit xs x).length<=1048576:=Nat.le_trans rC (by omega)
  have cX:=rQ (lit xs x) gap inner hm
  have h1:(ha++flx (lit xs x) gap inner)++rest.flatMap (fun l=>flx (lit xs l) gap inner)=R:=by rw [<-h0,List.flatMap_cons,zqC]
  have hb:ha.length+(flx (lit xs x) gap inner).length<=1048576:=by
   have:=congrArg List.length h1
   rw [zqe,zqe]at this
   omega
  obtain⟨M,hM⟩:=nmE (vw af.c (lit xs x));(try rw [<-hM]at cI);(try rw [<-hM]at cX)
  obtain⟨X,hX⟩:=nmE (vw aj (flx (lit xs x) gap inner));(try rw [<-hX]at cX)
  have kX:=kmV (k:=1) hX fun _=>rfl
  have ht:E.length+X.length<=1048576:=by rw [hi,hX,ar,ar];exact hb
  obtain⟨L,hL⟩:=nmE (vw aj x)
  rw [<-hL]at cI
  have hr:W[z.toNat]? =some [.view L]:=by rw [hL];exact hy
  obtain⟨E2,hf⟩:=nmE (E++X)
  have aE:E2=vw aj (ha++flx (lit xs x) gap inner):=by rw [hf,hi,hX];simp [vw]
  have hs:=pmV aE
  cbv
  rw [hc]
  cbv
  refine goX hg _ z0 hr rfl ?_
  cbv
  (repeat'((first|rw [e1]|refine ae hg cI ?_|refine ae hg cX ?_|refine goN hg ⟨kX,(by show(E.length+X.length)*8<=_;omega),(by show E.length+X.length<=_;omega)⟩ ?_;cbv;rw [gW hg];dsimp only;rw [<-hf]);cbv))
  exact hB ((ha++flx (lit xs x) gap inner,E2)) _ _ ⟨h1,aE⟩ (Wk.weak (wkG [some 1] zr7 ⟨wqE rfl hs,trivial⟩ (by decide) aG))
theorem pB(xs:List af)(gap room:Int)(wr:Bool)(inner:Int)(hl:xs.length<=1048576):da prog 63 [.c (.view (vw af.c xs)),ai gap,ai room,abl wr,ai inner] fun res hd=>res= .o 0/\hd=[⟨3,1,vw aj (lsz xs gap room wr inner)⟩]:=by
 have cL:=jg xs gap room wr hl
 have hh:=fun l hn=>gZ xs l hl hn
 have hj:=fun l hl=>jS (xs:=xs) (gap:=gap) (room:=room) (wr:=wr) (l:=l) hl
 have hp:=lx xs gap room wr
 have hk:=yg xs gap room wr inner
 obtain⟨R,hR⟩:=nmE (lsz xs gap room wr inner)
 rw [<-hR]at hk⊢
 unfold lsz at hR
 obtain⟨ls,ho⟩:=nmE (lns xs gap room wr)
 rw [<-ho]at cL hR hj hp
 obtain⟨V,hV⟩:=nmE (vw af.c xs)
 have hu:=lmV hV
 have iV:=imV hV
 have kV:=kmV (k:=9) hV fun _=>rfl
 have dV:=dmV hV
 rw [<-hV]at cL hh
 rw [<-hV]
 obtain⟨W,hW⟩:=nmE (vwA lnA ls);(try rw [<-hW]at cL)
 obtain⟨S,hS⟩:=nmE (vw aj R);(try rw [<-hS]at⊢)
 refine ad (aM f63) ay func63 fun g F hg hF=> ?_
 cbv
 repeat'(refine ae hg cL ?_;cbv)
 refine aY hg ay (by kernel_rfl) W (lnA) ls hW (by omega) (fun z(s:List Int×LLA)=>[(0,.v V),(1,.i (gap)),(4,.i (inner)),(11,.o 0),(12,.v W),(13,.i (z))]) (fun z(s:List Int×LLA)=>[.rw ⟨3,1,s.2⟩]) (fun z(s:List Int×LLA)=>s.2=vw aj s.1) (fun(s:List Int×LLA) rest=>s.1++rest.flatMap (fun l=>flx (lit xs l) gap inner)) (R) ([],[]) (by rw [hR];rfl) rfl (Wk.weak (wkG [some 0] zr6 ⟨wqE rfl rfl,trivial⟩ (by decide) aG)) (fun z s B hz h0 hi he=> ?_) (fun z s x rest B z0 z1 z2 hx hy h0 hi hc e1 hB=> ?_)
 ·obtain⟨ha,E⟩:=s
  dsimp only at hi h0
  have pE:=pmV hi
  obtain rfl:ha=R:=by simpa using h0
  rw [hS,<-hi]at hF
  cbv;rw [he];cbv
  exact bV hF rfl pE
 ·obtain⟨ha,E⟩:=s
  dsimp only at hi h0
  have hq:x∈ls:=zqd hx
  have hv:=hj x hq
  have cI:=hh x (by omega)
  have hm:(lit xs x).length<=1048576:=Nat.le_trans rC (by omega)
  have cX:=qL (lit xs x) gap inner hm
  have h1:(ha++flx (lit xs x) gap inner)++rest.flatMap (fun l=>flx (lit xs l) gap inner)=R:=by rw [<-h0,List.flatMap_cons,zqC]
  have hb:ha.length+(flx (lit xs x) gap inner).length<=1048576:=by
   have:=congrArg List.length h1
   rw [zqe,zqe]at this
   omega
  obtain⟨M,hM⟩:=nmE (vw af.c (lit xs x));(try rw [<-hM]at cI);(try rw [<-hM]at cX)
  obtain⟨X,hX⟩:=nmE (vw aj (flx (lit xs x) gap inner));(try rw [<-hX]at cX)
  have kX:=kmV (k:=1) hX fun _=>rfl
  have ht:E.length+X.length<=1048576:=by rw [hi,hX,ar,ar];exact hb
  obtain⟨L,hL⟩:=nmE (vw aj x)
  rw [<-hL]at cI
  have hr:W[z.toNat]? =some [.view L]:=by rw [hL];exact hy
  obtain⟨E2,hf⟩:=nmE (E++X)
  have aE:E2=vw aj (ha++flx (lit xs x) gap inner):=by rw [hf,hi,hX];simp [vw]
  have hs:=pmV aE
  cbv
  rw [hc]
  cbv
  refine goX hg _ z0 hr rfl ?_
  cbv
  (repeat'((first|rw [e1]|refine ae hg cI ?_|refine ae hg cX ?_|refine goN hg ⟨kX,(by show(E.length+X.length)*8<=_;omega),(by show E.length+X.length<=_;omega)⟩ ?_;cbv;rw [gW hg];dsimp only;rw [<-hf]);cbv))
  exact hB ((ha++flx (lit xs x) gap inner,E2)) _ _ ⟨h1,aE⟩ (Wk.weak (wkG [some 1] zr6 ⟨wqE rfl hs,trivial⟩ (by decide) aG))
theorem qf(xs:List af)(gap room:Int)(wr:Bool)(inner:Int)(hl:xs.length<=1048576):PC0 87 [.c (.view (vw af.c xs)),ai gap,ai room,abl wr,ai inner] (.t (.c (.view (vw aj (lsz xs gap room wr inner))))):=xE (qg xs gap room wr inner hl) fun _=>rfl
theorem pz(xs:List af)(gap room:Int)(wr:Bool)(inner:Int)(hl:xs.length<=1048576):PC0 63 [.c (.view (vw af.c xs)),ai gap,ai room,abl wr,ai inner] (.t (.c (.view (vw aj (lsz xs gap room wr inner))))):=xE (pB xs gap room wr inner hl) fun _=>rfl
theorem zp{sides:List av}{i:Int}{r:List Int}{x:av}(h0:0<=i)(hx:sides[i.toNat]? =some x):pck sides (i::r)=x::pck sides r:=by
 simp only [pck,List.filterMap_cons,if_pos h0,hx]
def qt(i:Int):Int->List (List Int)->Int
 |_,[]=> -1
 |k,l::r=>if 0<cnt l i then k else qt i (k+1) r
theorem qa(xs:List av)(ln:List Int)(hl:xs.length<=1048576)(hn:ln.length<=1048576)(hb:∀i∈ln,0<=i/\i<(xs.length:Int)):da prog 183 [.c (.view (vw av.c xs)),.c (.view (vw aj ln))] fun res hf=>res= .o 0/\hf=[⟨96,7,vw av.c (pck xs ln)⟩]:=by
 obtain⟨R,hR⟩:=nmE (pck xs ln)
 rw [<-hR]
 have ho:∀i∈ln,0<=i/\∃y,xs[i.toNat]? =some y:=fun i hi=>⟨(hb i hi).1,⟨_,zqc (by have:=hb i hi;omega)⟩⟩
 have hj:=fun{i:Int}{x:av}(h:xs[i.toNat]? =some x)=>ba (c:=av.c) h
 obtain⟨V,hV⟩:=nmE (vw av.c xs);(try rw [<-hV]at hj);(try rw [<-hV]at⊢)
 obtain⟨S,hS⟩:=nmE (vw av.c R);(try rw [<-hS]at⊢)
 obtain⟨W,hW⟩:=nmE (vw aj ln)
 have ht:=lmV hW
 have iW:=imV hW
 have kW:=kmV (k:=1) hW fun _=>rfl
 have dW:=dmV hW
 rw [<-hW]
 refine ad (aM f183) ay func183 fun g F hg hF=> ?_
 cbv
 refine aY hg ay (by kernel_rfl) W (fun x=>lc (aj x)) ln hW hn (fun z(s:List av×LLA)=>[(0,.v V),(5,.o 0),(8,.v W),(9,.i (g .ln W)),(10,.i (z))]) (fun z(s:List av×LLA)=>[.rw ⟨96,7,s.2⟩]) (fun z(s:List av×LLA)=>s.2=vw av.c s.1/\(s.1.length:Int)<=z) (fun(s:List av×LLA) rest=>s.1++pck xs rest) (R) ([],[]) (by rw [hR];rfl) ⟨rfl,Int.le_refl 0⟩ (Wk.weak (wkG [none] zr5 ⟨⟨_,rfl,rfl⟩,trivial⟩ (by decide) aG)) (fun z s B hz h0 hi he=> ?_) (fun z s x rest B z0 z1 z2 hx hy h0 hi hc e1 hB=> ?_)
 ·obtain⟨ha,E⟩:=s
  obtain⟨i1,i2⟩:=hi
  dsimp only at i1 i2 h0
  have pE:=pmV i1
  obtain rfl:ha=R:=by simpa [pck]using h0
  rw [hS,<-i1]at hF
  cbv;rw [he];cbv
  exact bV hF rfl pE
 ·obtain⟨ha,E⟩:=s
  obtain⟨i1,i2⟩:=hi
  dsimp only at i1 i2 h0
  have hm:E.length<=1048576:=by rw [i1,ar];omega
  have hd:=ho x (zqd hx)
  obtain⟨y,hk⟩:=hd.2
  have hr:=hj hk
  have h3:(ha++[y])++pck xs rest=R:=by rw [<-h0,zp hd.1 hk];simp
  have nl:((ha++[y]).length:Int)<=z+1:=by simp;omega
  have aE:E++[lc (av.c y)]=vw av.c (ha++[y]):=by rw [i1,br]
  obtain⟨y0,y1,y2,y3,y4,y5,y6⟩:=y
  have hq:V[x.toNat]? =some [.J y0,.J y1,.J y2,.B y3,.B y4,.J y5,.J y6]:=hr
  replace aE:E++[[.J y0,.J y1,.J y2,.B y3,.B y4,.J y5,.J y6]]=vw av.c (ha++[⟨y0,y1,y2,y3,y4,y5,y6⟩]):=aE
  obtain⟨E2,hh⟩:∃E2,E2=E++[[.J y0,.J y1,.J y2,.B y3,.B y4,.J y5,.J y6]]:=⟨_,rfl⟩
  rw [<-hh]at aE
  have hs:=pmV aE
  have hp:=hd.1
  cbv;rw [hc];cbv;refine goX hg _ z0 hy rfl ?_;cbv
  (repeat'((first|rw [e1]|refine goX hg _ hp hq rfl ?_|refine dz hg rfl (by decide) hm ?_;cbv;rw [gW hg,<-hh]);cbv))
  exact hB ((ha++[⟨y0,y1,y2,y3,y4,y5,y6⟩],E2)) _ _ ⟨h3,⟨aE,nl⟩⟩ (Wk.weak (wkG [some 2] zr5 ⟨wqE rfl hs,trivial⟩ (by decide) aG))
theorem kq(xs:List av)(ln:List Int)(hl:xs.length<=1048576)(hn:ln.length<=1048576)(hb:∀i∈ln,0<=i/\i<(xs.length:Int)):PC0 183 [.c (.view (vw av.c xs)),.c (.view (vw aj ln))] (.t (.c (.view (vw av.c (pck xs ln))))):=xE (qa xs ln hl hn hb) fun _=>rfl
theorem wz(xs:List av)(ln:List Int)(hl:xs.length<=1048576)(hn:ln.length<=1048576)(hb:∀i∈ln,0<=i/\i<(xs.length:Int)):da prog 238 [.c (.view (vw av.c xs)),.c (.view (vw aj ln))] fun res hf=>res= .o 0/\hf=[⟨96,7,vw av.c (pck xs ln)⟩]:=by
 obtain⟨R,hR⟩:=nmE (pck xs ln)
 rw [<-hR]
 have ho:∀i∈ln,0<=i/\∃y,xs[i.toNat]? =some y:=fun i hi=>⟨(hb i hi).1,⟨_,zqc (by have:=hb i hi;omega)⟩⟩
 have hj:=fun{i:Int}{x:av}(h:xs[i.toNat]? =some x)=>ba (c:=av.c) h
 obtain⟨V,hV⟩:=nmE (vw av.c xs);(try rw [<-hV]at hj);(try rw [<-hV]at⊢)
 obtain⟨S,hS⟩:=nmE (vw av.c R);(try rw [<-hS]at⊢)
 obtain⟨W,hW⟩:=nmE (vw aj ln)
 have ht:=lmV hW
 have iW:=imV hW
 have kW:=kmV (k:=1) hW fun _=>rfl
 have dW:=dmV hW
 rw [<-hW]
 refine ad (aM f238) ay func238 fun g F hg hF=> ?_
 cbv
 refine aY hg ay (by kernel_rfl) W (fun x=>lc (aj x)) ln hW hn (fun z(s:List av×LLA)=>[(0,.v V),(1,.v W),(5,.o 0),(6,.i (z))]) (fun z(s:List av×LLA)=>[.rw ⟨96,7,s.2⟩]) (fun z(s:List av×LLA)=>s.2=vw av.c s.1/\(s.1.length:Int)<=z) (fun(s:List av×LLA) rest=>s.1++pck xs rest) (R) ([],[]) (by rw [hR];rfl) ⟨rfl,Int.le_refl 0⟩ (Wk.weak (wkG [some 0] zr4 ⟨wqE rfl rfl,trivial⟩ (by decide) aG)) (fun z s B hz h0 hi he=> ?_) (fun z s x rest B z0 z1 z2 hx hy h0 hi hc e1 hB=> ?_)
 ·obtain⟨ha,E⟩:=s
  obtain⟨i1,i2⟩:=hi
  dsimp only at i1 i2 h0
  have pE:=pmV i1
  obtain rfl:ha=R:=by simpa [pck]using h0
  rw [hS,<-i1]at hF
  cbv;rw [he];cbv
  exact bV hF rfl pE
 ·obtain⟨ha,E⟩:=s
  obtain⟨i1,i2⟩:=hi
  dsimp only at i1 i2 h0
  have hm:E.length<=1048576:=by rw [i1,ar];omega
  have hd:=ho x (zqd hx)
  obtain⟨y,hk⟩:=hd.2
  have hr:=hj hk
  have h3:(ha++[y])++pck xs rest=R:=by rw [<-h0,zp hd.1 hk];simp
  have nl:((ha++[y]).length:Int)<=z+1:=by simp;omega
  have aE:E++[lc (av.c y)]=vw av.c (ha++[y]):=by rw [i1,br]
  obtain⟨y0,y1,y2,y3,y4,y5,y6⟩:=y
  have hq:V[x.toNat]? =some [.J y0,.J y1,.J y2,.B y3,.B y4,.J y5,.J y6]:=hr
  replace aE:E++[[.J y0,.J y1,.J y2,.B y3,.B y4,.J y5,.J y6]]=vw av.c (ha++[⟨y0,y1,y2,y3,y4,y5,y6⟩]):=aE
  obtain⟨E2,hh⟩:∃E2,E2=E++[[.J y0,.J y1,.J y2,.B y3,.B y4,.J y5,.J y6]]:=⟨_,rfl⟩
  rw [<-hh]at aE
  have hs:=pmV aE
  have hp:=hd.1
  cbv
  rw [hc]
  cbv
  (repeat'((first|rw [e1]|refine goX hg _ (by omega) hy rfl ?_|refine goX hg _ hp hq rfl ?_|refine dz hg rfl (by decide) hm ?_;cbv;rw [gW hg,<-hh]);cbv))
  exact hB ((ha++[⟨y0,y1,y2,y3,y4,y5,y6⟩],E2)) _ _ ⟨h3,⟨aE,nl⟩⟩ (Wk.weak (wkG [some 2] zr4 ⟨wqE rfl hs,trivial⟩ (by decide) aG))
theorem o1(xs:List av)(ln:List Int)(hl:xs.length<=1048576)(hn:ln.length<=1048576)(hb:∀i∈ln,0<=i/\i<(xs.length:Int)):PC0 238 [.c (.view (vw av.c xs)),.c (.view (vw aj ln))] (.t (.c (.view (vw av.c (pck xs ln))))):=xE (wz xs ln hl hn hb) fun _=>rfl
theorem oD(ls:List (List Int))(i:Int)(hl:ls.length<=1048576)(hb:∀l∈ls,l.length<=1048576):PC0 283 [.c (.view (vwA lnA ls)),ai i] (.i (qt i 0 ls)):=by
 obtain⟨R,hR⟩:=nmE (qt i 0 ls)
 rw [<-hR]
 obtain⟨W,hW⟩:=nmE (vwA lnA ls);(try rw [<-hW]at⊢)
 refine ad (aM f283) ay func283 fun g F hg hF=> ?_
 cbv
 refine aY hg ay (by kernel_rfl) W (lnA) ls hW hl (fun z(s:Int)=>[(0,.v W),(1,.i (i)),(5,.i (z))]) (fun z(s:Int)=>[]) (fun z(s:Int)=>s=z) (fun(s:Int) rest=>qt i s rest) (R) (0:Int) hR.symm rfl (Wk.weak (wkG [] zr3 trivial (by decide) aG)) (fun z s B hz h0 hi he=> ?_) (fun z s x rest B z0 z1 z2 hx hy h0 hi hc e1 hB=> ?_)
 ·cbv;rw [he];cbv
  exact aV hF h0
 ·subst hi
  have cH:=ni x i (hb x (zqd hx))
  simp only [qt]at h0
  obtain⟨C,hC⟩:=nmE (cnt x i);(try rw [<-hC]at cH);(try rw [<-hC]at h0)
  obtain⟨L,hL⟩:=nmE (vw aj x)
  rw [<-hL]at cH
  have ha:W[s.toNat]? =some [.view L]:=by rw [hL];exact hy
  have t1:g .q .gtr (C) (0)=decide ((0)<(C)):=cj hg _ _
  cbv
  rw [hc]
  cbv
  refine goX hg _ z0 ha rfl ?_
  cbv
  by_cases h1:0<C
  ·(first|rw [zqu h1]at t1|rw [zqt h1]at t1|rw [zqu (Classical.not_not.2 h1)]at t1|rw [zqt (Classical.not_not.2 h1)]at t1)
   (repeat'((first|rw [t1]|refine ae hg cH ?_);cbv))
   exact aV hF (by simpa [h1]using h0)
  ·(first|rw [zqu h1]at t1|rw [zqt h1]at t1|rw [zqu (Classical.not_not.2 h1)]at t1|rw [zqt (Classical.not_not.2 h1)]at t1)
   (repeat'((first|rw [t1]|rw [e1]|refine ae hg cH ?_);cbv))
   exact hB ((s+1)) _ _ ⟨(by simpa [h1]using h0),rfl⟩ (Wk.weak (wkG [] zr3 trivial (by decide) aG))
def Bf(s:ao)(ac:az)(xs:List av)(ln:List Int):Int:=if s.wrap=1/\ac.mode=3 then ac.n else cro (pck xs ln)
def Ev(s:ao)(row:Bool)(ac:az)(ls:List (List Int))(xs:List av):List Int:=
 if¬s.wrap=1/\ac.mode=3 then xD (ls.map (Bf s ac xs)) (ju s (!row)) ac.n s.content else ls.map (Bf s ac xs)
theorem uW(xs:List av)(ln:List Int):(pck xs ln).length<=ln.length:=List.length_filterMap_le _ _
theorem oK(n:Int)(sy:ao)(wd hgh:az)(row:Bool)(iw ih al ac:az)(K:LLA)(ls:List (List Int))(xs:List av)(hl:xs.length<=1048576)(hn:ls.length<=64)(hb:∀l∈ls,l.length<=1048576/\∀i∈l,0<=i/\i<(xs.length:Int)):da prog 177 [.agg (plL n sy wd hgh row iw ih al ac (.view K)),.c (.view (vwA lnA ls)),.c (.view (vw av.c xs))] fun res hk=>res= .o 0/\hk=[⟨3,1,vw aj (Ev sy row ac ls xs)⟩]:=by
 obtain⟨am,an⟩:=ac
 have cG:=i9 sy (!row)
 have hp:=fun l(h:l∈ls)=>kq xs l hl (hb l h).1 (hb l h).2
 have ht:=fun l(h:l∈ls)=>tA (pck xs l) (Nat.le_trans (uW xs l) (hb l h).1)
 have cS:=mW (ls.map (Bf sy ⟨am,an⟩ xs)) (ju sy (!row)) an sy.content (by rw [zql];exact hn)
 obtain⟨R,hR⟩:=nmE (Ev sy row ⟨am,an⟩ ls xs)
 obtain⟨Q,hQ⟩:=nmE (ls.map (Bf sy ⟨am,an⟩ xs))
 have hA:Q.length<=64:=by rw [hQ,zql];exact hn
 rw [<-hR]
 unfold Ev at hR
 rw [<-hQ]at cS hR
 obtain⟨G,hG⟩:=nmE (ju sy (!row));(try rw [<-hG]at cG);(try rw [<-hG]at cS);(try rw [<-hG]at hR)
 obtain⟨wr,hd⟩:=nmE (decide (sy.wrap=1))
 obtain⟨ex,hj⟩:=nmE (decide (am=3))
 have hm:R=if(!wr&&ex)=true then xD Q G an sy.content else Q:=by rw [hR,hd,hj];simp
 have ho:∀l,Bf sy ⟨am,an⟩ xs l=if(wr&&ex)=true then an else cro (pck xs l):=fun l=>by rw [hd,hj];simp [Bf]
 clear hR
 obtain⟨c1,ha⟩:=nmE (Bf sy ⟨am,an⟩ xs)
 rw [<-ha]at ho hQ
 obtain⟨V,hV⟩:=nmE (vw av.c xs);(try rw [<-hV]at hp);(try rw [<-hV]at⊢)
 obtain⟨S,hS⟩:=nmE (vw aj R);(try rw [<-hS]at⊢)
 obtain⟨U,hU⟩:=nmE (vw aj Q);(try rw [<-hU]at cS)
 obtain⟨X,hX⟩:=nmE (vw aj (xD Q G an sy.content));(try rw [<-hX]at cS)
 have iX:=imV hX
 have kU:=kmV (k:=1) hU fun _=>rfl
 have dU:=dmV hU
 obtain⟨W,hW⟩:=nmE (vwA lnA ls);(try rw [<-hW]at⊢)
 have t0:∀g:Gd,g=G0 prog 0 f177.ntmps->g .q .neq sy.wrap 1= !wr:=fun g hg=>by rw [bj hg,hd];exact(dX _ _).trans (by simp)
 have t1:∀g:Gd,g=G0 prog 0 f177.ntmps->g .q .eql sy.wrap 1=wr:=fun g hg=>by rw [bn hg,hd];exact zqn _ _
 have t2:∀g:Gd,g=G0 prog 0 f177.ntmps->g .q .eql am 3=ex:=fun g hg=>by rw [bn hg,hj];exact zqn _ _
 clear hd hj ha hG
 have hu:ls.length<=1048576:=by omega
 refine ad (aM f177) ay func177 fun g F hg hF=> ?_
 have t0:=t0 g hg
 have t1:=t1 g hg
 have t2:=t2 g hg
 cbv
 refine aY hg ay (by kernel_rfl) W (lnA) ls hW hu (fun z(s:List Int×LLA)=>[(2,.v V),(3,.p 0),(7,.o 1),(11,.v W),(12,.i (g .ln W)),(13,.i (z))]) (fun z(s:List Int×LLA)=>[.bx 80 75 (plL n sy wd hgh row iw ih al ⟨am,an⟩ (.view K)),.rw ⟨3,1,s.2⟩]) (fun z(s:List Int×LLA)=>s.2=vw aj s.1) (fun(s:List Int×LLA) rest=>s.1++rest.map c1) (Q) ([],[]) (by rw [hQ];rfl) rfl (Wk.weak (wkG [some _,none] zr6 ⟨wqE rfl rfl,⟨_,rfl,rfl⟩,trivial⟩ (by decide) aG)) (fun z s B hz h0 hi he=> ?_) (fun z s x rest B z0 z1 z2 hx hy h0 hi hc e1 hB=> ?_)
 ·obtain⟨hf,E⟩:=s
  dsimp only at hi h0
  have pE:=pmV hi
  obtain rfl:hf=Q:=by simpa using h0
  rw [<-hU]at hi
  replace hi:=hi.symm
  subst hi
  cbv;rw [he];cbv
  cases wr<;>cases ex
  all_goals
   (try cbv)
   ((repeat'((first|rw [t0]|rw [t2]|refine aa hg cG ?_);cbv)))
  all_goals first
   |exact bV (by rw [hF,hS,hm,hU];rfl) rfl pE
   |((refine bW hg cS (aq (bf (ab:=⟨_,_,U⟩) rfl kU dU) (aq (aw rfl) (aq (aw rfl) (aq (aw rfl) (aC))))) iX ?_;cbv);exact bV (by rw [hF,hS,hm,hX];rfl) rfl (by rw [hX];exact aI _ _))
 ·obtain⟨hf,E⟩:=s
  dsimp only at hi h0
  have hr:x∈ls:=zqd hx
  have cP:=hp x hr
  have cC:=ht x hr
  have hq:=ho x
  obtain⟨C,hC⟩:=nmE (cro (pck xs x));(try rw [<-hC]at cC);(try rw [<-hC]at hq)
  obtain⟨M,hM⟩:=nmE (vw av.c (pck xs x));(try rw [<-hM]at cP);(try rw [<-hM]at cC)
  have hs:E.length<=1048576:=by
   have:=congrArg List.length h0
   rw [zqe]at this
   rw [hi,ar];omega
  obtain⟨L,hL⟩:=nmE (vw aj x)
  rw [<-hL]at cP
  have hv:W[z.toNat]? =some [.view L]:=by rw [hL];exact hy
  have h3:(hf++[c1 x])++rest.map c1=Q:=by rw [<-h0];simp
  have aE:E++[[.J (c1 x)]]=vw aj (hf++[c1 x]):=by rw [hi,br];rfl
  obtain⟨E2,hh⟩:∃E2,E2=E++[[.J (c1 x)]]:=⟨_,rfl⟩
  rw [<-hh]at aE
  have hw:=pmV aE
  rw [hq]at hh
  cbv
  rw [hc]
  cbv
  refine goX hg _ z0 hv rfl ?_
  cbv
  cases wr<;>cases ex
  all_goals
   simp only [Bool.and_self,Bool.and_true,Bool.and_false,Bool.false_eq_true,if_false,if_true]at hh
   (try cbv)
   ((repeat'((first|rw [t1]|rw [t2]|rw [e1]|refine ae hg cP ?_|refine ae hg cC ?_|refine dz hg rfl (by decide) hs ?_;cbv;rw [gW hg,<-hh]);cbv)))
   exact hB ((hf++[c1 x],E2)) _ _ ⟨h3,aE⟩ (Wk.weak (wkG [some _,some 3] zr6 ⟨wqE rfl rfl,wqE rfl hw,trivial⟩ (by decide) aG))
theorem oz(n:Int)(sy:ao)(row:Bool)(al ac:az)(kn:Int)(K:LLA)(ls:List (List Int))(xs:List av)(hl:xs.length<=1048576)(hn:ls.length<=64)(hb:∀l∈ls,l.length<=1048576/\∀i∈l,0<=i/\i<(xs.length:Int)):da prog 232 [.agg (nwL n sy row al ac kn (.view K)),.c (.view (vwA lnA ls)),.c (.view (vw av.c xs))] fun res hk=>res= .o 0/\hk=[⟨3,1,vw aj (Ev sy row ac ls xs)⟩]:=by
 obtain⟨am,an⟩:=ac
 have cG:=gR sy (!row)
 have hp:=fun l(h:l∈ls)=>o1 xs l hl (hb l h).1 (hb l h).2
 have ht:=fun l(h:l∈ls)=>sK (pck xs l) (Nat.le_trans (uW xs l) (hb l h).1)
 have cS:=mN (ls.map (Bf sy ⟨am,an⟩ xs)) (ju sy (!row)) an sy.content (by rw [zql];exact hn)
 obtain⟨R,hR⟩:=nmE (Ev sy row ⟨am,an⟩ ls xs)
 obtain⟨Q,hQ⟩:=nmE (ls.map (Bf sy ⟨am,an⟩ xs))
 have hA:Q.length<=64:=by rw [hQ,zql];exact hn
 rw [<-hR]
 unfold Ev at hR
 rw [<-hQ]at cS hR
 obtain⟨G,hG⟩:=nmE (ju sy (!row));(try rw [<-hG]at cG);(try rw [<-hG]at cS);(try rw [<-hG]at hR)
 obtain⟨wr,hd⟩:=nmE (decide (sy.wrap=1))
 obtain⟨ex,hj⟩:=nmE (decide (am=3))
 have hm:R=if(!wr&&ex)=true then xD Q G an sy.content else Q:=by rw [hR,hd,hj];simp
 have ho:∀l,Bf sy ⟨am,an⟩ xs l=if(wr&&ex)=true then an else cro (pck xs l):=fun l=>by rw [hd,hj];simp [Bf]
 clear hR
 obtain⟨c1,ha⟩:=nmE (Bf sy ⟨am,an⟩ xs)
 rw [<-ha]at ho hQ
 obtain⟨V,hV⟩:=nmE (vw av.c xs);(try rw [<-hV]at hp);(try rw [<-hV]at⊢)
 obtain⟨S,hS⟩:=nmE (vw aj R);(try rw [<-hS]at⊢)
 obtain⟨U,hU⟩:=nmE (vw aj Q);(try rw [<-hU]at cS)
 obtain⟨X,hX⟩:=nmE (vw aj (xD Q G an sy.content));(try rw [<-hX]at cS)
 have iX:=imV hX
 have kU:=kmV (k:=1) hU fun _=>rfl
 have dU:=dmV hU
 obtain⟨W,hW⟩:=nmE (vwA lnA ls);(try rw [<-hW]at⊢)
 have t0:∀g:Gd,g=G0 prog 0 f232.ntmps->g .q .neq sy.wrap 1= !wr:=fun g hg=>by rw [bj hg,hd];exact(dX _ _).trans (by simp)
 have t1:∀g:Gd,g=G0 prog 0 f232.ntmps->g .q .eql sy.wrap 1=wr:=fun g hg=>by rw [bn hg,hd];exact zqn _ _
 have t2:∀g:Gd,g=G0 prog 0 f232.ntmps->g .q .eql am 3=ex:=fun g hg=>by rw [bn hg,hj];exact zqn _ _
 clear hd hj ha hG
 have hu:ls.length<=1048576:=by omega
 refine ad (aM f232) ay func232 fun g F hg hF=> ?_
 have t0:=t0 g hg
 have t1:=t1 g hg
 have t2:=t2 g hg
 cbv
 rw [t2]
 cbv
 refine aY hg ay (by kernel_rfl) W (lnA) ls hW hu (fun z(s:List Int×LLA)=>[(1,.v W),(2,.v V),(3,.p 0),(7,.o 1),(8,.t (abl (ex))),(9,.i (z))]) (fun z(s:List Int×LLA)=>[.bx 66 68 (nwL n sy row al ⟨am,an⟩ kn (.view K)),.rw ⟨3,1,s.2⟩]) (fun z(s:List Int×LLA)=>s.2=vw aj s.1) (fun(s:List Int×LLA) rest=>s.1++rest.map c1) (Q) ([],[]) (by rw [hQ];rfl) rfl (Wk.weak (wkG [some _,some _] zr6 ⟨wqE rfl rfl,wqE rfl rfl,trivial⟩ (by decide) aG)) (fun z s B hz h0 hi he=> ?_) (fun z s x rest B z0 z1 z2 hx hy h0 hi hc e1 hB=> ?_)
 ·obtain⟨hf,E⟩:=s
  dsimp only at hi h0
  have pE:=pmV hi
  obtain rfl:hf=Q:=by simpa using h0
  rw [<-hU]at hi
  replace hi:=hi.symm
  subst hi
  cbv;rw [he];cbv
  cases wr<;>cases ex
  all_goals
   (try cbv)
   ((repeat'((first|rw [t0]|refine aa hg cG ?_);cbv)))
  all_goals first
   |exact bV (by rw [hF,hS,hm,hU];rfl) rfl pE
   |((refine bW hg cS (aq (bf (ab:=⟨_,_,U⟩) rfl kU dU) (aq (aw rfl) (aq (aw rfl) (aq (aw rfl) (aC))))) iX ?_;cbv);exact bV (by rw [hF,hS,hm,hX];rfl) rfl (by rw [hX];exact aI _ _))
 ·obtain⟨hf,E⟩:=s
  dsimp only at hi h0
  have hr:x∈ls:=zqd hx
  have cP:=hp x hr
  have cC:=ht x hr
  have hq:=ho x
  obtain⟨C,hC⟩:=nmE (cro (pck xs x));(try rw [<-hC]at cC);(try rw [<-hC]at hq)
  obtain⟨M,hM⟩:=nmE (vw av.c (pck xs x));(try rw [<-hM]at cP);(try rw [<-hM]at cC)
  have hs:E.length<=1048576:=by
   have:=congrArg List.length h0
   rw [zqe]at this
   rw [hi,ar];omega
  obtain⟨L,hL⟩:=nmE (vw aj x)
  rw [<-hL]at cP
  have hv:W[z.toNat]? =some [.view L]:=by rw [hL];exact hy
  have h3:(hf++[c1 x])++rest.map c1=Q:=by rw [<-h0];simp
  have aE:E++[[.J (c1 x)]]=vw aj (hf++[c1 x]):=by rw [hi,br];rfl
  obtain⟨E2,hh⟩:∃E2,E2=E++[[.J (c1 x)]]:=⟨_,rfl⟩
  rw [<-hh]at aE
  have hw:=pmV aE
  rw [hq]at hh
  cbv
  rw [hc]
  cbv
  refine goX hg _ z0 hv rfl ?_
  cbv
  cases wr<;>cases ex
  all_goals
   simp only [Bool.and_self,Bool.and_true,Bool.and_false,Bool.false_eq_true,if_false,if_true]at hh
   (try cbv)
   ((repeat'((first|rw [t1]|rw [e1]|refine ae hg cP ?_|refine ae hg cC ?_|refine dz hg rfl (by decide) hs ?_;cbv;rw [gW hg,<-hh]);cbv)))
   exact hB ((hf++[c1 x],E2)) _ _ ⟨h3,aE⟩ (Wk.weak (wkG [some _,some 3] zr6 ⟨wqE rfl rfl,wqE rfl hw,trivial⟩ (by decide) aG))
theorem oy(n:Int)(sy:ao)(row:Bool)(al ac:az)(kn:Int)(K:LLA)(ls:List (List Int))(xs:List av)(hl:xs.length<=1048576)(hn:ls.length<=64)(hb:∀l∈ls,l.length<=1048576/\∀i∈l,0<=i/\i<(xs.length:Int)):PC0 232 [.agg (nwL n sy row al ac kn (.view K)),.c (.view (vwA lnA ls)),.c (.view (vw av.c xs))] (.t (.c (.view (vw aj (Ev sy row ac ls xs))))):=xE (oz n sy row al ac kn K ls xs hl hn hb) fun _=>rfl
variable {w h b:Int}
theorem wQ{P:Program}{f:FuncId}{args:List AT}{t k:Nat}{V:LLA}(hc:da P f args fun res ha=>res= .t (.agg [.J w,.J h,.J b,.own 0])/\ha=[⟨t,k,V⟩])(hk:∀x∈V,x.length=k)(hd:∀x∈V,x.all dat=true):
  da P f args fun res ha=>res= .t (.agg [.J w,.J h,.J b,.view V])/\ha=[]:=
 wP hc fun res ha⟨e1,e2⟩=>by
  subst e1 e2
  exact⟨.t (.agg [.J w,.J h,.J b,.view V]),[],bG (sl1 0 V) (jy rfl hk hd) (Wk.weak (wkG [] ⟨.inl ⟨rfl,rfl⟩,trivial⟩ trivial (by decide) aG)),rfl,rfl⟩
theorem vO{F:List AT->EH->Prop}{t k:Nat}{eh:EH}(hF:F=m6 0 (fun res h'=>∃rows,h'=rows.map .live/\(res= .t (.agg [.J w,.J h,.J b,.own 0])/\rows=[⟨t,k,[]⟩]))):F [.agg [.J w,.J h,.J b,.N]] eh:=by
 subst hF
 refine .inl ⟨.t (.agg [.J w,.J h,.J b,.own 0]),[.live ⟨t,k,[]⟩],[none],⟨Nat.zero_le _,fun i hi=>absurd hi (Nat.not_lt_zero _),by simp,?_,?_⟩,[⟨t,k,[]⟩],rfl,rfl,rfl⟩
 ·simp only [rnH,zqw]
  exact⟨fun h=>absurd h (Nat.not_lt_zero _),rfl,trivial⟩
 ·exact⟨.inr zr4,trivial⟩
theorem wO(n:Int)(s:ao)(wd hgh:az)(row:Bool)(iw ih al ac:az)(K:LLA)(a b:Int):da prog 175 [.agg (plL n s wd hgh row iw ih al ac (.view K)),ai a,ai b] fun res hi=>res= .t (.agg [.imm (.int .i64 (AJ s wd hgh (a,b)).wide),.imm (.int .i64 (AJ s wd hgh (a,b)).high),.imm (.int .i64 (AJ s wd hgh (a,b)).base),.own 0])/\hi=[⟨156,5,vw aD.c (AJ s wd hgh (a,b)).frames⟩]:=by
 have cF:=fq s
 obtain⟨w0,w1⟩:=wd
 obtain⟨h0,h1⟩:=hgh
 obtain⟨f,hf⟩:=nmE (oc s)
 have hj:AJ s ⟨w0,w1⟩ ⟨h0,h1⟩ (a,b)=⟨tak ⟨w0,w1⟩ (wrap64 (a+adE f.left f.right)),tak ⟨h0,h1⟩ (wrap64 (b+adE f.top f.bottom)),tak ⟨h0,h1⟩ (wrap64 (b+adE f.top f.bottom)),[]⟩:=by rw [hf];rfl
 rw [hj]
 rw [<-hf]at cF
 clear hf hj
 obtain⟨f0,f1,f2,f3⟩:=f
 have cW:=fO f0 f1 f2 f3
 have cH:=fQ f0 f1 f2 f3
 dsimp only
 obtain⟨A1,ha⟩:=nmE (adE f0 f2);(try rw [<-ha]at cW);(try rw [<-ha]at⊢)
 obtain⟨A2,hb⟩:=nmE (adE f1 f3);(try rw [<-hb]at cH);(try rw [<-hb]at⊢)
 have cT:=fE w0 w1 (wrap64 (a+A1))
 have cU:=fE h0 h1 (wrap64 (b+A2))
 obtain⟨E1,hc⟩:=nmE (wrap64 (a+A1))
 obtain⟨E2,hd⟩:=nmE (wrap64 (b+A2))
 rw [<-hc]at cT⊢
 rw [<-hd]at cU⊢
 obtain⟨T1,he⟩:=nmE (tak ⟨w0,w1⟩ E1);(try rw [<-he]at cT);(try rw [<-he]at⊢)
 obtain⟨T2,hh⟩:=nmE (tak ⟨h0,h1⟩ E2);(try rw [<-hh]at cU);(try rw [<-hh]at⊢)
 have t1:∀g:Gd,g=G0 prog 0 f175.ntmps->g .w .add .i64 a A1=E1:=fun g hg=>by rw [aJ hg,hc]
 have t2:∀g:Gd,g=G0 prog 0 f175.ntmps->g .w .add .i64 b A2=E2:=fun g hg=>by rw [aJ hg,hd]
 clear ha hb hc hd he hh
 rw [show vw aD.c ([]:List aD)=[]from rfl]
 refine ad (aM f175) ay func175 fun g F hg hF=> ?_
 have t1:=t1 g hg
 have t2:=t2 g hg
 cbv
 (repeat'((first|rw [t1]|rw [t2]|refine ae hg cF ?_|refine aa hg cW ?_|refine aa hg cH ?_|refine aa hg cT ?_|refine aa hg cU ?_);cbv))
 exact vO hF
theorem km{ns:List ag}{k:Int}{y:ag}(h:ns[(k-1).toNat]? =some y):kst ns k=y.style:=by
 unfold kst;rw [h]
def m7(V:LLA)(rtl:Bool):List AC:=[.view V,.B rtl,.imm (.pointer none)]
def Bc(V:LLA)(rtl:Bool)(b:Bv)(kid:Int):Prop:=∀w0 w1 h0 h1:Int,PC0 45 [.agg (m7 V rtl),ai kid,agP ⟨w0,w1⟩,agP ⟨h0,h1⟩] (.t (.agg (jc.ac (b kid ⟨w0,w1⟩ ⟨h0,h1⟩))))
theorem ko(row:Bool)(b:jc):PC0 115 [abl row,.agg (jc.ac b)] (.i (alB row b)):=by
 obtain⟨w,h,bs,fr⟩:=b
 have e:jc.ac ⟨w,h,bs,fr⟩=[.J w,.J h,.J bs,.view (vw aD.c fr)]:=rfl
 rw [e]
 obtain⟨V,hV⟩:=nmE (vw aD.c fr);(try rw [<-hV]at⊢)
 cases row
 all_goals
  refine ad (aM f115) ay func115 fun g F hg hF=> ?_
  cbv
  exact aV hF rfl
theorem nN(V:LLA)(rtl:Bool)(b:Bv)(kid:Int)(hbx:Bc V rtl b kid)(n:Int)(s:ao)(wd hgh:az)(row:Bool)(iw ih al ac:az)(K:LLA)(a0 a1 c0 c1:Int):PC0 114 [.agg (m7 V rtl),.agg (plL n s wd hgh row iw ih al ac (.view K)),ai kid,agP ⟨a0,a1⟩,agP ⟨c0,c1⟩] (.t (.agg (jc.ac (Ds b row kid ⟨a0,a1⟩ ⟨c0,c1⟩)))):=by
 unfold Ds
 have ha:=hbx a0 a1 c0 c1
 have hb:=hbx c0 c1 a0 a1
 obtain⟨b1,hc⟩:=nmE (b kid ⟨a0,a1⟩ ⟨c0,c1⟩)
 obtain⟨b2,hd⟩:=nmE (b kid ⟨c0,c1⟩ ⟨a0,a1⟩)
 rw [<-hc]at ha
 rw [<-hd]at hb
 rw [<-hc,<-hd]
 clear hc hd hbx
 have e:∀q:jc,jc.ac q=[.J q.wide,.J q.high,.J q.base,.view (vw aD.c q.frames)]:=fun q=>rfl
 rw [e]at ha hb
 cases row
 ·simp only [Bool.false_eq_true,if_false]
  rw [e]
  obtain⟨F2,hf⟩:=nmE (vw aD.c b2.frames);(try rw [<-hf]at hb);(try rw [<-hf]at⊢)
  refine ad (aM f114) ay func114 fun g F hg hF=> ?_
  cbv
  repeat'(refine fU hg hb rfl rfl ?_;cbv)
  exact fw hF rfl ⟨rfl,rfl⟩
 ·simp only [if_true]
  rw [e]
  obtain⟨F1,he⟩:=nmE (vw aD.c b1.frames);(try rw [<-he]at ha);(try rw [<-he]at⊢)
  refine ad (aM f114) ay func114 fun g F hg hF=> ?_
  cbv
  repeat'(refine fU hg ha rfl rfl ?_;cbv)
  exact fw hF rfl ⟨rfl,rfl⟩
end Go.Proofs.YtkicjdeddpihaaaGreat
