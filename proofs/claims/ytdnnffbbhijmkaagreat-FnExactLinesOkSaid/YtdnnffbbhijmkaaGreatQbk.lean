/- A child laid out, its base: the program, by what its box is. -/
import Derived.Test.YtdnnffbbhijmkaaGreatQbj
set_option linter.unusedVariables false
set_option linter.unusedSimpArgs false
set_option maxHeartbeats 8000000
namespace Go.Proofs.YtdnnffbbhijmkaaGreat
open Go.ChangeShapes Go.WideShapes Go.ChangeAt Go.RowKit Am Go.Proofs.Tryz
set_option maxRecDepth 100000
theorem iO(xs:List ah)(gap room:Int)(wr:Bool)(hl:xs.length≤1048576):PC0 246 [.c (.view (vw ah.c xs)),ai gap,ai room,abl wr] (.t (.c (.view (vwA lnA (lns xs gap room wr))))):=iy (rx xs gap room wr hl) (E6 _) (Aa _)
theorem jU(xs:List ah)(gap room:Int)(wr:Bool)(hl:xs.length≤1048576):PC0 177 [.c (.view (vw ah.c xs)),ai gap,ai room,abl wr] (.i (lng xs gap room wr)):=by
 have cL:=gk xs gap room wr hl
 have hcI:=fun l hn=>gM xs l hl hn
 have hn1:=fun l hl=>ju (xs:=xs) (gap:=gap) (room:=room) (wr:=wr) (l:=l) hl
 have hn2:=mw xs gap room wr
 obtain⟨R,hR⟩:=nmE (lng xs gap room wr)
 rw [←hR]
 unfold lng at hR
 obtain⟨ls,hls⟩:=nmE (lns xs gap room wr)
 rw [←hls]at cL hR hn1 hn2
 obtain⟨V,hV⟩:=nmE (vw ah.c xs)
 have hVl:V.length=xs.length:=by rw [hV,af]
 have iV:bR V=true:=by rw [hV];exact aG _ _
 have kV:∀y∈V,y.length=9:=by rw [hV];exact bC (c:=ah.c) (k:=9) fun _=>rfl
 have dV:∀y∈V,y.all dat=true:=by rw [hV];exact az
 rw [←hV]at cL hcI
 rw [←hV]
 obtain⟨W,hW⟩:=nmE (vwA lnA ls);(try rw [←hW]at cL)
 refine ae (aK f177) aD func177 fun g F hg hF=> ?_
 cbv
 repeat'((first|refine ad hg cL ?_|refine aa hg cL ?_);cbv)
 refine aY hg aD (by kernel_rfl) W (lnA) ls hW (by omega) (fun z(s:Int)=>[(0,.v V),(1,.i (gap)),(9,.i (s)),(17,.v W),(18,.i (g .ln W)),(19,.i (z))]) (fun z(s:Int)=>[]) (fun z(s:Int)=>True) (fun(s:Int) rest=>rest.foldl (fun m l=>mx2 m (lou xs gap l)) s) (R) (0:Int) hR.symm trivial (Wk.weak (wkG [] ⟨rfl,rfl,rfl,rfl,rfl,rfl,trivial⟩ trivial (by decide) aI)) (fun z s B hz h0 hi he=> ?_) (fun z s x rest B z0 z1 z2 hx hy h0 hi hc e1 hB=> ?_)
 ·cbv;rw [he];cbv
  exact ba hF h0
 ·have hxm:x∈ls:=zqd hx
  have hxl:=hn1 x hxm
  have cI:=hcI x (by omega)
  have hm:(lit xs x).length≤1048576:=Nat.le_trans qw (by omega)
  have cH:=ul (lit xs x) hm
  have cO:=eX (lit xs x) ((lit xs x).map hyp) gap hm (by rw [zql];exact hm)
  have hou:lou xs gap x=wrap64 (ic (lit xs x) ((lit xs x).map hyp) gap):=rfl
  rw [List.foldl_cons]at h0
  rw [←hou]at cO
  obtain⟨OU,hOU⟩:=nmE (lou xs gap x);(try rw [←hOU]at cO);(try rw [←hOU]at h0)
  obtain⟨M,hM⟩:=nmE (vw ah.c (lit xs x));(try rw [←hM]at cI);(try rw [←hM]at cH);(try rw [←hM]at cO)
  obtain⟨H,hH⟩:=nmE (vw ao ((lit xs x).map hyp));(try rw [←hH]at cH);(try rw [←hH]at cO)
  obtain⟨L,hL⟩:=nmE (vw ao x)
  rw [←hL]at cI
  have hy2:W[z.toNat]? =some [.view L]:=by rw [hL];exact hy
  have eM:g .mx s OU=mx2 s OU:=by rw [C5 hg];rfl
  cbv
  rw [hc]
  cbv
  refine goX hg _ z0 hy2 rfl ?_
  cbv
  (repeat'((first|rw [eM]|rw [e1]|refine ad hg cI ?_|refine aa hg cI ?_|refine ad hg cH ?_|refine aa hg cH ?_|refine ad hg cO ?_|refine aa hg cO ?_);cbv))
  exact hB ((mx2 s OU)) _ _ ⟨h0,trivial⟩ (Wk.weak (wkG [] ⟨rfl,rfl,rfl,rfl,rfl,rfl,trivial⟩ trivial (by decide) aI))
theorem oW(xs:List ah)(gap room:Int)(wr:Bool)(hl:xs.length≤1048576):PC0 250 [.c (.view (vw ah.c xs)),ai gap,ai room,abl wr] (.i (lng xs gap room wr)):=by
 have cL:=iO xs gap room wr hl
 have hcI:=fun l hn=>kr xs l gap hl hn
 have hn1:=fun l hl=>ju (xs:=xs) (gap:=gap) (room:=room) (wr:=wr) (l:=l) hl
 have hn2:=mw xs gap room wr
 obtain⟨R,hR⟩:=nmE (lng xs gap room wr)
 rw [←hR]
 unfold lng at hR
 obtain⟨ls,hls⟩:=nmE (lns xs gap room wr)
 rw [←hls]at cL hR hn1 hn2
 obtain⟨V,hV⟩:=nmE (vw ah.c xs)
 have hVl:V.length=xs.length:=by rw [hV,af]
 have iV:bR V=true:=by rw [hV];exact aG _ _
 have kV:∀y∈V,y.length=9:=by rw [hV];exact bC (c:=ah.c) (k:=9) fun _=>rfl
 have dV:∀y∈V,y.all dat=true:=by rw [hV];exact az
 rw [←hV]at cL hcI
 rw [←hV]
 obtain⟨W,hW⟩:=nmE (vwA lnA ls);(try rw [←hW]at cL)
 refine ae (aK f250) aD func250 fun g F hg hF=> ?_
 cbv
 repeat'((first|refine ad hg cL ?_|refine aa hg cL ?_);cbv)
 refine aY hg aD (by kernel_rfl) W (lnA) ls hW (by omega) (fun z(s:Int)=>[(0,.v V),(1,.i (gap)),(9,.i (s)),(10,.v W),(11,.i (z))]) (fun z(s:Int)=>[]) (fun z(s:Int)=>True) (fun(s:Int) rest=>rest.foldl (fun m l=>mx2 m (lou xs gap l)) s) (R) (0:Int) hR.symm trivial (Wk.weak (wkG [] ⟨rfl,rfl,rfl,rfl,rfl,trivial⟩ trivial (by decide) aI)) (fun z s B hz h0 hi he=> ?_) (fun z s x rest B z0 z1 z2 hx hy h0 hi hc e1 hB=> ?_)
 ·cbv;rw [he];cbv
  exact ba hF h0
 ·have hxm:x∈ls:=zqd hx
  have hxl:=hn1 x hxm
  have cI:=hcI x (by omega)
  rw [List.foldl_cons]at h0
  obtain⟨OU,hOU⟩:=nmE (lou xs gap x);(try rw [←hOU]at cI);(try rw [←hOU]at h0)
  obtain⟨L,hL⟩:=nmE (vw ao x)
  rw [←hL]at cI
  have hy2:W[z.toNat]? =some [.view L]:=by rw [hL];exact hy
  have hm2:mx2 s OU=if s<OU then OU else s:=rfl
  rw [hm2]at h0
  have t0:g .q .gtr (OU) (s)=decide ((s)<(OU)):=cj hg _ _
  cbv
  rw [hc]
  cbv
  refine goX hg _ z0 hy2 rfl ?_
  cbv
  by_cases hh:s<OU
  ·rw [if_pos hh]at h0
   (first|rw [zqu hh]at t0|rw [zqt hh]at t0|rw [zqu (Classical.not_not.2 hh)]at t0|rw [zqt (Classical.not_not.2 hh)]at t0)
   (repeat'((first|rw [t0]|rw [e1]|refine ad hg cI ?_|refine aa hg cI ?_);cbv))
   exact hB (OU) _ _ ⟨h0,trivial⟩ (Wk.weak (wkG [] ⟨rfl,rfl,rfl,rfl,rfl,trivial⟩ trivial (by decide) aI))
  ·rw [if_neg hh]at h0
   (first|rw [zqu hh]at t0|rw [zqt hh]at t0|rw [zqu (Classical.not_not.2 hh)]at t0|rw [zqt (Classical.not_not.2 hh)]at t0)
   (repeat'((first|rw [t0]|rw [e1]|refine ad hg cI ?_|refine aa hg cI ?_);cbv))
   exact hB (s) _ _ ⟨h0,trivial⟩ (Wk.weak (wkG [] ⟨rfl,rfl,rfl,rfl,rfl,trivial⟩ trivial (by decide) aI))
theorem jV(xs:List ah)(gap room:Int)(wr:Bool)(inner:Int)(hl:xs.length≤1048576):cY prog 179 [.c (.view (vw ah.c xs)),ai gap,ai room,abl wr,ai inner] fun res rows=>res= .o 0∧rows=[⟨3,1,vw ao (lsz xs gap room wr inner)⟩]:=by
 have cL:=gk xs gap room wr hl
 have hcI:=fun l hn=>gM xs l hl hn
 have hn1:=fun l hl=>ju (xs:=xs) (gap:=gap) (room:=room) (wr:=wr) (l:=l) hl
 have hn2:=mw xs gap room wr
 have hRl:=wF xs gap room wr inner
 obtain⟨R,hR⟩:=nmE (lsz xs gap room wr inner)
 rw [←hR]at hRl⊢
 unfold lsz at hR
 obtain⟨ls,hls⟩:=nmE (lns xs gap room wr)
 rw [←hls]at cL hR hn1 hn2
 obtain⟨V,hV⟩:=nmE (vw ah.c xs)
 have hVl:V.length=xs.length:=by rw [hV,af]
 have iV:bR V=true:=by rw [hV];exact aG _ _
 have kV:∀y∈V,y.length=9:=by rw [hV];exact bC (c:=ah.c) (k:=9) fun _=>rfl
 have dV:∀y∈V,y.all dat=true:=by rw [hV];exact az
 rw [←hV]at cL hcI
 rw [←hV]
 obtain⟨W,hW⟩:=nmE (vwA lnA ls);(try rw [←hW]at cL)
 obtain⟨S,hS⟩:=nmE (vw ao R);(try rw [←hS]at⊢)
 refine ae (aK f179) aD func179 fun g F hg hF=> ?_
 cbv
 repeat'((first|refine ad hg cL ?_|refine aa hg cL ?_);cbv)
 refine aY hg aD (by kernel_rfl) W (lnA) ls hW (by omega) (fun z(s:List Int×LLA)=>[(0,.v V),(1,.i (gap)),(4,.i (inner)),(11,.o 0),(18,.v W),(19,.i (g .ln W)),(20,.i (z))]) (fun z(s:List Int×LLA)=>[.rw ⟨3,1,s.2⟩]) (fun z(s:List Int×LLA)=>s.2=vw ao s.1) (fun(s:List Int×LLA) rest=>s.1++rest.flatMap (fun l=>flx (lit xs l) gap inner)) (R) ([],[]) (by rw [hR];rfl) rfl (Wk.weak (wkG [none] ⟨rfl,rfl,rfl,rfl,rfl,rfl,rfl,trivial⟩ ⟨⟨_,rfl,rfl⟩,trivial⟩ (by decide) aI)) (fun z s B hz h0 hi he=> ?_) (fun z s x rest B z0 z1 z2 hx hy h0 hi hc e1 hB=> ?_)
 ·obtain⟨out,E⟩:=s
  dsimp only at hi h0
  have pE:aj E=true:=by rw [hi];exact ag _ _
  obtain rfl:out=R:=by simpa using h0
  rw [hS,←hi]at hF
  cbv;rw [he];cbv
  exact bP hF rfl pE
 ·obtain⟨out,E⟩:=s
  dsimp only at hi h0
  have hxm:x∈ls:=zqd hx
  have hxl:=hn1 x hxm
  have cI:=hcI x (by omega)
  have hm:(lit xs x).length≤1048576:=Nat.le_trans qw (by omega)
  have cX:=qH (lit xs x) gap inner hm
  have h1:(out++flx (lit xs x) gap inner)++rest.flatMap (fun l=>flx (lit xs l) gap inner)=R:=by rw [←h0,List.flatMap_cons,zqC]
  have hlen:out.length+(flx (lit xs x) gap inner).length≤1048576:=by
   have:=congrArg List.length h1
   rw [zqe,zqe]at this
   omega
  obtain⟨M,hM⟩:=nmE (vw ah.c (lit xs x));(try rw [←hM]at cI);(try rw [←hM]at cX)
  obtain⟨X,hX⟩:=nmE (vw ao (flx (lit xs x) gap inner));(try rw [←hX]at cX)
  have kX:∀y∈X,y.length=1:=by rw [hX];exact bC (c:=ao) (k:=1) fun _=>rfl
  have hEX:E.length+X.length≤1048576:=by rw [hi,hX,af,af];exact hlen
  obtain⟨L,hL⟩:=nmE (vw ao x)
  rw [←hL]at cI
  have hy2:W[z.toNat]? =some [.view L]:=by rw [hL];exact hy
  obtain⟨E2,hE2⟩:=nmE (E++X)
  have aE:E2=vw ao (out++flx (lit xs x) gap inner):=by rw [hE2,hi,hX];simp [vw]
  have pE2:aj E2=true:=by rw [aE];exact ag _ _
  cbv
  rw [hc]
  cbv
  refine goX hg _ z0 hy2 rfl ?_
  cbv
  (repeat'((first|rw [e1]|refine ad hg cI ?_|refine aa hg cI ?_|refine ad hg cX ?_|refine aa hg cX ?_|refine goN hg ⟨kX,(by show(E.length+X.length)*8≤_;omega),(by show E.length+X.length≤_;omega)⟩ ?_;cbv;rw [gG hg];dsimp only;rw [←hE2]);cbv))
  exact hB ((out++flx (lit xs x) gap inner,E2)) _ _ ⟨h1,aE⟩ (Wk.weak (wkG [some 1] ⟨rfl,rfl,rfl,rfl,rfl,rfl,rfl,trivial⟩ ⟨wqE rfl pE2,trivial⟩ (by decide) aI))
theorem oY(xs:List ah)(gap room:Int)(wr:Bool)(inner:Int)(hl:xs.length≤1048576):cY prog 168 [.c (.view (vw ah.c xs)),ai gap,ai room,abl wr,ai inner] fun res rows=>res= .o 0∧rows=[⟨3,1,vw ao (lsz xs gap room wr inner)⟩]:=by
 have cL:=iO xs gap room wr hl
 have hcI:=fun l hn=>gH xs l hl hn
 have hn1:=fun l hl=>ju (xs:=xs) (gap:=gap) (room:=room) (wr:=wr) (l:=l) hl
 have hn2:=mw xs gap room wr
 have hRl:=wF xs gap room wr inner
 obtain⟨R,hR⟩:=nmE (lsz xs gap room wr inner)
 rw [←hR]at hRl⊢
 unfold lsz at hR
 obtain⟨ls,hls⟩:=nmE (lns xs gap room wr)
 rw [←hls]at cL hR hn1 hn2
 obtain⟨V,hV⟩:=nmE (vw ah.c xs)
 have hVl:V.length=xs.length:=by rw [hV,af]
 have iV:bR V=true:=by rw [hV];exact aG _ _
 have kV:∀y∈V,y.length=9:=by rw [hV];exact bC (c:=ah.c) (k:=9) fun _=>rfl
 have dV:∀y∈V,y.all dat=true:=by rw [hV];exact az
 rw [←hV]at cL hcI
 rw [←hV]
 obtain⟨W,hW⟩:=nmE (vwA lnA ls);(try rw [←hW]at cL)
 obtain⟨S,hS⟩:=nmE (vw ao R);(try rw [←hS]at⊢)
 refine ae (aK f168) aD func168 fun g F hg hF=> ?_
 cbv
 repeat'((first|refine ad hg cL ?_|refine aa hg cL ?_);cbv)
 refine aY hg aD (by kernel_rfl) W (lnA) ls hW (by omega) (fun z(s:List Int×LLA)=>[(0,.v V),(1,.i (gap)),(4,.i (inner)),(11,.o 0),(12,.v W),(13,.i (z))]) (fun z(s:List Int×LLA)=>[.rw ⟨3,1,s.2⟩]) (fun z(s:List Int×LLA)=>s.2=vw ao s.1) (fun(s:List Int×LLA) rest=>s.1++rest.flatMap (fun l=>flx (lit xs l) gap inner)) (R) ([],[]) (by rw [hR];rfl) rfl (Wk.weak (wkG [some 0] ⟨rfl,rfl,rfl,rfl,rfl,rfl,trivial⟩ ⟨wqE rfl rfl,trivial⟩ (by decide) aI)) (fun z s B hz h0 hi he=> ?_) (fun z s x rest B z0 z1 z2 hx hy h0 hi hc e1 hB=> ?_)
 ·obtain⟨out,E⟩:=s
  dsimp only at hi h0
  have pE:aj E=true:=by rw [hi];exact ag _ _
  obtain rfl:out=R:=by simpa using h0
  rw [hS,←hi]at hF
  cbv;rw [he];cbv
  exact bP hF rfl pE
 ·obtain⟨out,E⟩:=s
  dsimp only at hi h0
  have hxm:x∈ls:=zqd hx
  have hxl:=hn1 x hxm
  have cI:=hcI x (by omega)
  have hm:(lit xs x).length≤1048576:=Nat.le_trans qw (by omega)
  have cX:=pK (lit xs x) gap inner hm
  have h1:(out++flx (lit xs x) gap inner)++rest.flatMap (fun l=>flx (lit xs l) gap inner)=R:=by rw [←h0,List.flatMap_cons,zqC]
  have hlen:out.length+(flx (lit xs x) gap inner).length≤1048576:=by
   have:=congrArg List.length h1
   rw [zqe,zqe]at this
   omega
  obtain⟨M,hM⟩:=nmE (vw ah.c (lit xs x));(try rw [←hM]at cI);(try rw [←hM]at cX)
  obtain⟨X,hX⟩:=nmE (vw ao (flx (lit xs x) gap inner));(try rw [←hX]at cX)
  have kX:∀y∈X,y.length=1:=by rw [hX];exact bC (c:=ao) (k:=1) fun _=>rfl
  have hEX:E.length+X.length≤1048576:=by rw [hi,hX,af,af];exact hlen
  obtain⟨L,hL⟩:=nmE (vw ao x)
  rw [←hL]at cI
  have hy2:W[z.toNat]? =some [.view L]:=by rw [hL];exact hy
  obtain⟨E2,hE2⟩:=nmE (E++X)
  have aE:E2=vw ao (out++flx (lit xs x) gap inner):=by rw [hE2,hi,hX];simp [vw]
  have pE2:aj E2=true:=by rw [aE];exact ag _ _
  cbv
  rw [hc]
  cbv
  refine goX hg _ z0 hy2 rfl ?_
  cbv
  (repeat'((first|rw [e1]|refine ad hg cI ?_|refine aa hg cI ?_|refine ad hg cX ?_|refine aa hg cX ?_|refine goN hg ⟨kX,(by show(E.length+X.length)*8≤_;omega),(by show E.length+X.length≤_;omega)⟩ ?_;cbv;rw [gG hg];dsimp only;rw [←hE2]);cbv))
  exact hB ((out++flx (lit xs x) gap inner,E2)) _ _ ⟨h1,aE⟩ (Wk.weak (wkG [some 1] ⟨rfl,rfl,rfl,rfl,rfl,rfl,trivial⟩ ⟨wqE rfl pE2,trivial⟩ (by decide) aI))
theorem o8(xs:List ah)(gap room:Int)(wr:Bool)(inner:Int)(hl:xs.length≤1048576):PC0 179 [.c (.view (vw ah.c xs)),ai gap,ai room,abl wr,ai inner] (.t (.c (.view (vw ao (lsz xs gap room wr inner))))):=wg (jV xs gap room wr inner hl) fun _=>rfl
theorem oX(xs:List ah)(gap room:Int)(wr:Bool)(inner:Int)(hl:xs.length≤1048576):PC0 168 [.c (.view (vw ah.c xs)),ai gap,ai room,abl wr,ai inner] (.t (.c (.view (vw ao (lsz xs gap room wr inner))))):=wg (oY xs gap room wr inner hl) fun _=>rfl
theorem xF{sides:List av}{i:Int}{r:List Int}{x:av}(h0:0≤i)(hx:sides[i.toNat]? =some x):pck sides (i::r)=x::pck sides r:=by
 simp only [pck,List.filterMap_cons,if_pos h0,hx]
def pi(i:Int):Int→List (List Int)→Int
 |_,[]=> -1
 |k,l::r=>if 0<cnt l i then k else pi i (k+1) r
theorem o5(xs:List av)(ln:List Int)(hl:xs.length≤1048576)(hn:ln.length≤1048576)(hb:∀i∈ln,0≤i∧i<(xs.length:Int)):cY prog 269 [.c (.view (vw av.c xs)),.c (.view (vw ao ln))] fun res rows=>res= .o 0∧rows=[⟨126,7,vw av.c (pck xs ln)⟩]:=by
 obtain⟨R,hR⟩:=nmE (pck xs ln)
 rw [←hR]
 have hat:∀i∈ln,0≤i∧∃y,xs[i.toNat]? =some y:=fun i hi=>⟨(hb i hi).1,⟨_,zqc (by have:=hb i hi;omega)⟩⟩
 have hxV:=fun{i:Int}{x:av}(h:xs[i.toNat]? =some x)=>bh (c:=av.c) h
 obtain⟨V,hV⟩:=nmE (vw av.c xs);(try rw [←hV]at hxV);(try rw [←hV]at⊢)
 obtain⟨S,hS⟩:=nmE (vw av.c R);(try rw [←hS]at⊢)
 obtain⟨W,hW⟩:=nmE (vw ao ln)
 have hWl:W.length=ln.length:=by rw [hW,af]
 have iW:bR W=true:=by rw [hW];exact aG _ _
 have kW:∀y∈W,y.length=1:=by rw [hW];exact bC (c:=ao) (k:=1) fun _=>rfl
 have dW:∀y∈W,y.all dat=true:=by rw [hW];exact az
 rw [←hW]
 refine ae (aK f269) aD func269 fun g F hg hF=> ?_
 cbv
 refine aY hg aD (by kernel_rfl) W (fun x=>lc (ao x)) ln hW hn (fun z(s:List av×LLA)=>[(0,.v V),(5,.o 0),(8,.v W),(9,.i (g .ln W)),(10,.i (z))]) (fun z(s:List av×LLA)=>[.rw ⟨126,7,s.2⟩]) (fun z(s:List av×LLA)=>s.2=vw av.c s.1∧(s.1.length:Int)≤z) (fun(s:List av×LLA) rest=>s.1++pck xs rest) (R) ([],[]) (by rw [hR];rfl) ⟨rfl,Int.le_refl 0⟩ (Wk.weak (wkG [none] ⟨rfl,rfl,rfl,rfl,rfl,trivial⟩ ⟨⟨_,rfl,rfl⟩,trivial⟩ (by decide) aI)) (fun z s B hz h0 hi he=> ?_) (fun z s x rest B z0 z1 z2 hx hy h0 hi hc e1 hB=> ?_)
 ·obtain⟨out,E⟩:=s
  obtain⟨i1,i2⟩:=hi
  dsimp only at i1 i2 h0
  have pE:aj E=true:=by rw [i1];exact ag _ _
  obtain rfl:out=R:=by simpa [pck]using h0
  rw [hS,←i1]at hF
  cbv;rw [he];cbv
  exact bP hF rfl pE
 ·obtain⟨out,E⟩:=s
  obtain⟨i1,i2⟩:=hi
  dsimp only at i1 i2 h0
  have hEl:E.length≤1048576:=by rw [i1,af];omega
  have hxb:=hat x (zqd hx)
  obtain⟨y,hyx⟩:=hxb.2
  have hyV:=hxV hyx
  have h3:(out++[y])++pck xs rest=R:=by rw [←h0,xF hxb.1 hyx];simp
  have nl:((out++[y]).length:Int)≤z+1:=by simp;omega
  have aE:E++[lc (av.c y)]=vw av.c (out++[y]):=by rw [i1,bA]
  obtain⟨y0,y1,y2,y3,y4,y5,y6⟩:=y
  have hy2:V[x.toNat]? =some [.J y0,.J y1,.J y2,.B y3,.B y4,.J y5,.J y6]:=hyV
  replace aE:E++[[.J y0,.J y1,.J y2,.B y3,.B y4,.J y5,.J y6]]=vw av.c (out++[⟨y0,y1,y2,y3,y4,y5,y6⟩]):=aE
  obtain⟨E2,hE2⟩:∃E2,E2=E++[[.J y0,.J y1,.J y2,.B y3,.B y4,.J y5,.J y6]]:=⟨_,rfl⟩
  rw [←hE2]at aE
  have pE2:aj E2=true:=by rw [aE];exact ag _ _
  have hx0:=hxb.1
  cbv;rw [hc];cbv;refine goX hg _ z0 hy rfl ?_;cbv
  (repeat'((first|rw [e1]|refine goX hg _ (by omega) hy rfl ?_|refine goX hg _ hx0 hy2 rfl ?_|refine dl hg rfl (by decide) hEl ?_;cbv;rw [gG hg,←hE2]);cbv))
  exact hB ((out++[⟨y0,y1,y2,y3,y4,y5,y6⟩],E2)) _ _ ⟨h3,⟨aE,nl⟩⟩ (Wk.weak (wkG [some 2] ⟨rfl,rfl,rfl,rfl,rfl,trivial⟩ ⟨wqE rfl pE2,trivial⟩ (by decide) aI))
theorem jR(xs:List av)(ln:List Int)(hl:xs.length≤1048576)(hn:ln.length≤1048576)(hb:∀i∈ln,0≤i∧i<(xs.length:Int)):PC0 269 [.c (.view (vw av.c xs)),.c (.view (vw ao ln))] (.t (.c (.view (vw av.c (pck xs ln))))):=wg (o5 xs ln hl hn hb) fun _=>rfl
theorem u7(xs:List av)(ln:List Int)(hl:xs.length≤1048576)(hn:ln.length≤1048576)(hb:∀i∈ln,0≤i∧i<(xs.length:Int)):cY prog 319 [.c (.view (vw av.c xs)),.c (.view (vw ao ln))] fun res rows=>res= .o 0∧rows=[⟨126,7,vw av.c (pck xs ln)⟩]:=by
 obtain⟨R,hR⟩:=nmE (pck xs ln)
 rw [←hR]
 have hat:∀i∈ln,0≤i∧∃y,xs[i.toNat]? =some y:=fun i hi=>⟨(hb i hi).1,⟨_,zqc (by have:=hb i hi;omega)⟩⟩
 have hxV:=fun{i:Int}{x:av}(h:xs[i.toNat]? =some x)=>bh (c:=av.c) h
 obtain⟨V,hV⟩:=nmE (vw av.c xs);(try rw [←hV]at hxV);(try rw [←hV]at⊢)
 obtain⟨S,hS⟩:=nmE (vw av.c R);(try rw [←hS]at⊢)
 obtain⟨W,hW⟩:=nmE (vw ao ln)
 have hWl:W.length=ln.length:=by rw [hW,af]
 have iW:bR W=true:=by rw [hW];exact aG _ _
 have kW:∀y∈W,y.length=1:=by rw [hW];exact bC (c:=ao) (k:=1) fun _=>rfl
 have dW:∀y∈W,y.all dat=true:=by rw [hW];exact az
 rw [←hW]
 refine ae (aK f319) aD func319 fun g F hg hF=> ?_
 cbv
 refine aY hg aD (by kernel_rfl) W (fun x=>lc (ao x)) ln hW hn (fun z(s:List av×LLA)=>[(0,.v V),(1,.v W),(5,.o 0),(6,.i (z))]) (fun z(s:List av×LLA)=>[.rw ⟨126,7,s.2⟩]) (fun z(s:List av×LLA)=>s.2=vw av.c s.1∧(s.1.length:Int)≤z) (fun(s:List av×LLA) rest=>s.1++pck xs rest) (R) ([],[]) (by rw [hR];rfl) ⟨rfl,Int.le_refl 0⟩ (Wk.weak (wkG [some 0] ⟨rfl,rfl,rfl,rfl,trivial⟩ ⟨wqE rfl rfl,trivial⟩ (by decide) aI)) (fun z s B hz h0 hi he=> ?_) (fun z s x rest B z0 z1 z2 hx hy h0 hi hc e1 hB=> ?_)
 ·obtain⟨out,E⟩:=s
  obtain⟨i1,i2⟩:=hi
  dsimp only at i1 i2 h0
  have pE:aj E=true:=by rw [i1];exact ag _ _
  obtain rfl:out=R:=by simpa [pck]using h0
  rw [hS,←i1]at hF
  cbv;rw [he];cbv
  exact bP hF rfl pE
 ·obtain⟨out,E⟩:=s
  obtain⟨i1,i2⟩:=hi
  dsimp only at i1 i2 h0
  have hEl:E.length≤1048576:=by rw [i1,af];omega
  have hxb:=hat x (zqd hx)
  obtain⟨y,hyx⟩:=hxb.2
  have hyV:=hxV hyx
  have h3:(out++[y])++pck xs rest=R:=by rw [←h0,xF hxb.1 hyx];simp
  have nl:((out++[y]).length:Int)≤z+1:=by simp;omega
  have aE:E++[lc (av.c y)]=vw av.c (out++[y]):=by rw [i1,bA]
  obtain⟨y0,y1,y2,y3,y4,y5,y6⟩:=y
  have hy2:V[x.toNat]? =some [.J y0,.J y1,.J y2,.B y3,.B y4,.J y5,.J y6]:=hyV
  replace aE:E++[[.J y0,.J y1,.J y2,.B y3,.B y4,.J y5,.J y6]]=vw av.c (out++[⟨y0,y1,y2,y3,y4,y5,y6⟩]):=aE
  obtain⟨E2,hE2⟩:∃E2,E2=E++[[.J y0,.J y1,.J y2,.B y3,.B y4,.J y5,.J y6]]:=⟨_,rfl⟩
  rw [←hE2]at aE
  have pE2:aj E2=true:=by rw [aE];exact ag _ _
  have hx0:=hxb.1
  cbv
  rw [hc]
  cbv
  (repeat'((first|rw [e1]|refine goX hg _ (by omega) hy rfl ?_|refine goX hg _ hx0 hy2 rfl ?_|refine dl hg rfl (by decide) hEl ?_;cbv;rw [gG hg,←hE2]);cbv))
  exact hB ((out++[⟨y0,y1,y2,y3,y4,y5,y6⟩],E2)) _ _ ⟨h3,⟨aE,nl⟩⟩ (Wk.weak (wkG [some 2] ⟨rfl,rfl,rfl,rfl,trivial⟩ ⟨wqE rfl pE2,trivial⟩ (by decide) aI))
theorem oB(xs:List av)(ln:List Int)(hl:xs.length≤1048576)(hn:ln.length≤1048576)(hb:∀i∈ln,0≤i∧i<(xs.length:Int)):PC0 319 [.c (.view (vw av.c xs)),.c (.view (vw ao ln))] (.t (.c (.view (vw av.c (pck xs ln))))):=wg (u7 xs ln hl hn hb) fun _=>rfl
theorem nZ(ls:List (List Int))(i:Int)(hl:ls.length≤1048576)(hb:∀l∈ls,l.length≤1048576):PC0 350 [.c (.view (vwA lnA ls)),ai i] (.i (pi i 0 ls)):=by
 obtain⟨R,hR⟩:=nmE (pi i 0 ls)
 rw [←hR]
 obtain⟨W,hW⟩:=nmE (vwA lnA ls);(try rw [←hW]at⊢)
 refine ae (aK f350) aD func350 fun g F hg hF=> ?_
 cbv
 refine aY hg aD (by kernel_rfl) W (lnA) ls hW hl (fun z(s:Int)=>[(0,.v W),(1,.i (i)),(5,.i (z))]) (fun z(s:Int)=>[]) (fun z(s:Int)=>s=z) (fun(s:Int) rest=>pi i s rest) (R) (0:Int) hR.symm rfl (Wk.weak (wkG [] ⟨rfl,rfl,rfl,trivial⟩ trivial (by decide) aI)) (fun z s B hz h0 hi he=> ?_) (fun z s x rest B z0 z1 z2 hx hy h0 hi hc e1 hB=> ?_)
 ·cbv;rw [he];cbv
  exact ba hF h0
 ·subst hi
  have cH:=mP x i (hb x (zqd hx))
  simp only [pi]at h0
  obtain⟨C,hC⟩:=nmE (cnt x i);(try rw [←hC]at cH);(try rw [←hC]at h0)
  obtain⟨L,hL⟩:=nmE (vw ao x)
  rw [←hL]at cH
  have hy2:W[s.toNat]? =some [.view L]:=by rw [hL];exact hy
  have t1:g .q .gtr (C) (0)=decide ((0)<(C)):=cj hg _ _
  cbv
  rw [hc]
  cbv
  refine goX hg _ z0 hy2 rfl ?_
  cbv
  by_cases h1:0<C
  ·(first|rw [zqu h1]at t1|rw [zqt h1]at t1|rw [zqu (Classical.not_not.2 h1)]at t1|rw [zqt (Classical.not_not.2 h1)]at t1)
   (repeat'((first|rw [t1]|refine ad hg cH ?_|refine aa hg cH ?_);cbv))
   exact ba hF (by simpa [h1]using h0)
  ·(first|rw [zqu h1]at t1|rw [zqt h1]at t1|rw [zqu (Classical.not_not.2 h1)]at t1|rw [zqt (Classical.not_not.2 h1)]at t1)
   (repeat'((first|rw [t1]|rw [e1]|refine ad hg cH ?_|refine aa hg cH ?_);cbv))
   exact hB ((s+1)) _ _ ⟨(by simpa [h1]using h0),rfl⟩ (Wk.weak (wkG [] ⟨rfl,rfl,rfl,trivial⟩ trivial (by decide) aI))
def yY(s:ar)(ac:aw)(xs:List av)(ln:List Int):Int:=if s.wrap=1∧ac.mode=3 then ac.n else cro (pck xs ln)
def Ci(s:ar)(row:Bool)(ac:aw)(ls:List (List Int))(xs:List av):List Int:=
 if¬s.wrap=1∧ac.mode=3 then we (ls.map (yY s ac xs)) (fP s (!row)) ac.n s.content else ls.map (yY s ac xs)
theorem tJ(xs:List av)(ln:List Int):(pck xs ln).length≤ln.length:=List.length_filterMap_le _ _
theorem od(n:Int)(sy:ar)(wd hgh:aw)(row:Bool)(iw ih al ac:aw)(K:LLA)(ls:List (List Int))(xs:List av)(hl:xs.length≤1048576)(hn:ls.length≤64)(hb:∀l∈ls,l.length≤1048576∧∀i∈l,0≤i∧i<(xs.length:Int)):cY prog 263 [.agg (plL n sy wd hgh row iw ih al ac (.view K)),.c (.view (vwA lnA ls)),.c (.view (vw av.c xs))] fun res rows=>res= .o 0∧rows=[⟨3,1,vw ao (Ci sy row ac ls xs)⟩]:=by
 obtain⟨am,an⟩:=ac
 have cG:=gF sy (!row)
 have hcP:=fun l(h:l∈ls)=>jR xs l hl (hb l h).1 (hb l h).2
 have hcC:=fun l(h:l∈ls)=>r6 (pck xs l) (Nat.le_trans (tJ xs l) (hb l h).1)
 have cS:=mB (ls.map (yY sy ⟨am,an⟩ xs)) (fP sy (!row)) an sy.content (by rw [zql];exact hn)
 obtain⟨R,hR⟩:=nmE (Ci sy row ⟨am,an⟩ ls xs)
 obtain⟨Q,hQ⟩:=nmE (ls.map (yY sy ⟨am,an⟩ xs))
 have hQl:Q.length≤64:=by rw [hQ,zql];exact hn
 rw [←hR]
 unfold Ci at hR
 rw [←hQ]at cS hR
 obtain⟨G,hG⟩:=nmE (fP sy (!row));(try rw [←hG]at cG);(try rw [←hG]at cS);(try rw [←hG]at hR)
 obtain⟨wr,hwr⟩:=nmE (decide (sy.wrap=1))
 obtain⟨ex,hex⟩:=nmE (decide (am=3))
 have hR2:R=if(!wr&&ex)=true then we Q G an sy.content else Q:=by rw [hR,hwr,hex];simp
 have hc1:∀l,yY sy ⟨am,an⟩ xs l=if(wr&&ex)=true then an else cro (pck xs l):=fun l=>by rw [hwr,hex];simp [yY]
 clear hR
 obtain⟨c1,hc1d⟩:=nmE (yY sy ⟨am,an⟩ xs)
 rw [←hc1d]at hc1 hQ
 obtain⟨V,hV⟩:=nmE (vw av.c xs);(try rw [←hV]at hcP);(try rw [←hV]at⊢)
 obtain⟨S,hS⟩:=nmE (vw ao R);(try rw [←hS]at⊢)
 obtain⟨U,hU⟩:=nmE (vw ao Q);(try rw [←hU]at cS)
 obtain⟨X,hX⟩:=nmE (vw ao (we Q G an sy.content));(try rw [←hX]at cS)
 have iX:bR X=true:=by rw [hX];exact aG _ _
 have kU:∀y∈U,y.length=1:=by rw [hU];exact bC (c:=ao) (k:=1) fun _=>rfl
 have dU:∀y∈U,y.all dat=true:=by rw [hU];exact az
 obtain⟨W,hW⟩:=nmE (vwA lnA ls);(try rw [←hW]at⊢)
 have t0:∀g:Gd,g=G0 prog 0 f263.ntmps→g .q .neq sy.wrap 1= !wr:=fun g hg=>by rw [bk hg,hwr];exact(dx _ _).trans (by simp)
 have t1:∀g:Gd,g=G0 prog 0 f263.ntmps→g .q .eql sy.wrap 1=wr:=fun g hg=>by rw [bv hg,hwr];exact zqn _ _
 have t2:∀g:Gd,g=G0 prog 0 f263.ntmps→g .q .eql am 3=ex:=fun g hg=>by rw [bv hg,hex];exact zqn _ _
 clear hwr hex hc1d hG
 have hls:ls.length≤1048576:=by omega
 refine ae (aK f263) aD func263 fun g F hg hF=> ?_
 have t0:=t0 g hg
 have t1:=t1 g hg
 have t2:=t2 g hg
 cbv
 refine aY hg aD (by kernel_rfl) W (lnA) ls hW hls (fun z(s:List Int×LLA)=>[(2,.v V),(3,.p 0),(7,.o 1),(11,.v W),(12,.i (g .ln W)),(13,.i (z))]) (fun z(s:List Int×LLA)=>[.bx 98 75 (plL n sy wd hgh row iw ih al ⟨am,an⟩ (.view K)),.rw ⟨3,1,s.2⟩]) (fun z(s:List Int×LLA)=>s.2=vw ao s.1) (fun(s:List Int×LLA) rest=>s.1++rest.map c1) (Q) ([],[]) (by rw [hQ];rfl) rfl (Wk.weak (wkG [some _,none] ⟨rfl,rfl,rfl,rfl,rfl,rfl,trivial⟩ ⟨wqE rfl rfl,⟨_,rfl,rfl⟩,trivial⟩ (by decide) aI)) (fun z s B hz h0 hi he=> ?_) (fun z s x rest B z0 z1 z2 hx hy h0 hi hc e1 hB=> ?_)
 ·obtain⟨out,E⟩:=s
  dsimp only at hi h0
  have pE:aj E=true:=by rw [hi];exact ag _ _
  obtain rfl:out=Q:=by simpa using h0
  rw [←hU]at hi
  replace hi:=hi.symm
  subst hi
  cbv;rw [he];cbv
  cases wr<;>cases ex
  all_goals
   (try cbv)
   ((repeat'((first|rw [t0]|rw [t2]|refine ad hg cG ?_|refine aa hg cG ?_);cbv)))
  all_goals first
   |exact bP (by rw [hF,hS,hR2,hU];rfl) rfl pE
   |(((first|refine bB hg cS (aq (bi (ab:=⟨_,_,U⟩) rfl kU dU) (aq (ay rfl) (aq (ay rfl) (aq (ay rfl) (aF))))) iX ?_|refine bN hg cS (aq (bi (ab:=⟨_,_,U⟩) rfl kU dU) (aq (ay rfl) (aq (ay rfl) (aq (ay rfl) (aF))))) iX ?_);cbv);exact bP (by rw [hF,hS,hR2,hX];rfl) rfl (by rw [hX];exact ag _ _))
 ·obtain⟨out,E⟩:=s
  dsimp only at hi h0
  have hxm:x∈ls:=zqd hx
  have cP:=hcP x hxm
  have cC:=hcC x hxm
  have hcx:=hc1 x
  obtain⟨C,hC⟩:=nmE (cro (pck xs x));(try rw [←hC]at cC);(try rw [←hC]at hcx)
  obtain⟨M,hM⟩:=nmE (vw av.c (pck xs x));(try rw [←hM]at cP);(try rw [←hM]at cC)
  have hEl:E.length≤1048576:=by
   have:=congrArg List.length h0
   rw [zqe]at this
   rw [hi,af];omega
  obtain⟨L,hL⟩:=nmE (vw ao x)
  rw [←hL]at cP
  have hy2:W[z.toNat]? =some [.view L]:=by rw [hL];exact hy
  have h3:(out++[c1 x])++rest.map c1=Q:=by rw [←h0];simp
  have aE:E++[[.J (c1 x)]]=vw ao (out++[c1 x]):=by rw [hi,bA];rfl
  obtain⟨E2,hE2⟩:∃E2,E2=E++[[.J (c1 x)]]:=⟨_,rfl⟩
  rw [←hE2]at aE
  have pE2:aj E2=true:=by rw [aE];exact ag _ _
  rw [hcx]at hE2
  cbv
  rw [hc]
  cbv
  refine goX hg _ z0 hy2 rfl ?_
  cbv
  cases wr<;>cases ex
  all_goals
   simp only [Bool.and_self,Bool.and_true,Bool.and_false,Bool.false_eq_true,if_false,if_true]at hE2
   (try cbv)
   ((repeat'((first|rw [t1]|rw [t2]|rw [e1]|refine ad hg cP ?_|refine aa hg cP ?_|refine ad hg cC ?_|refine aa hg cC ?_|refine dl hg rfl (by decide) hEl ?_;cbv;rw [gG hg,←hE2]);cbv)))
   exact hB ((out++[c1 x],E2)) _ _ ⟨h3,aE⟩ (Wk.weak (wkG [some _,some 3] ⟨rfl,rfl,rfl,rfl,rfl,rfl,trivial⟩ ⟨wqE rfl rfl,wqE rfl pE2,trivial⟩ (by decide) aI))
theorem nV(n:Int)(sy:ar)(row:Bool)(al ac:aw)(kn:Int)(K:LLA)(ls:List (List Int))(xs:List av)(hl:xs.length≤1048576)(hn:ls.length≤64)(hb:∀l∈ls,l.length≤1048576∧∀i∈l,0≤i∧i<(xs.length:Int)):cY prog 313 [.agg (nwL n sy row al ac kn (.view K)),.c (.view (vwA lnA ls)),.c (.view (vw av.c xs))] fun res rows=>res= .o 0∧rows=[⟨3,1,vw ao (Ci sy row ac ls xs)⟩]:=by
 obtain⟨am,an⟩:=ac
 have cG:=gz sy (!row)
 have hcP:=fun l(h:l∈ls)=>oB xs l hl (hb l h).1 (hb l h).2
 have hcC:=fun l(h:l∈ls)=>rA (pck xs l) (Nat.le_trans (tJ xs l) (hb l h).1)
 have cS:=ml (ls.map (yY sy ⟨am,an⟩ xs)) (fP sy (!row)) an sy.content (by rw [zql];exact hn)
 obtain⟨R,hR⟩:=nmE (Ci sy row ⟨am,an⟩ ls xs)
 obtain⟨Q,hQ⟩:=nmE (ls.map (yY sy ⟨am,an⟩ xs))
 have hQl:Q.length≤64:=by rw [hQ,zql];exact hn
 rw [←hR]
 unfold Ci at hR
 rw [←hQ]at cS hR
 obtain⟨G,hG⟩:=nmE (fP sy (!row));(try rw [←hG]at cG);(try rw [←hG]at cS);(try rw [←hG]at hR)
 obtain⟨wr,hwr⟩:=nmE (decide (sy.wrap=1))
 obtain⟨ex,hex⟩:=nmE (decide (am=3))
 have hR2:R=if(!wr&&ex)=true then we Q G an sy.content else Q:=by rw [hR,hwr,hex];simp
 have hc1:∀l,yY sy ⟨am,an⟩ xs l=if(wr&&ex)=true then an else cro (pck xs l):=fun l=>by rw [hwr,hex];simp [yY]
 clear hR
 obtain⟨c1,hc1d⟩:=nmE (yY sy ⟨am,an⟩ xs)
 rw [←hc1d]at hc1 hQ
 obtain⟨V,hV⟩:=nmE (vw av.c xs);(try rw [←hV]at hcP);(try rw [←hV]at⊢)
 obtain⟨S,hS⟩:=nmE (vw ao R);(try rw [←hS]at⊢)
 obtain⟨U,hU⟩:=nmE (vw ao Q);(try rw [←hU]at cS)
 obtain⟨X,hX⟩:=nmE (vw ao (we Q G an sy.content));(try rw [←hX]at cS)
 have iX:bR X=true:=by rw [hX];exact aG _ _
 have kU:∀y∈U,y.length=1:=by rw [hU];exact bC (c:=ao) (k:=1) fun _=>rfl
 have dU:∀y∈U,y.all dat=true:=by rw [hU];exact az
 obtain⟨W,hW⟩:=nmE (vwA lnA ls);(try rw [←hW]at⊢)
 have t0:∀g:Gd,g=G0 prog 0 f313.ntmps→g .q .neq sy.wrap 1= !wr:=fun g hg=>by rw [bk hg,hwr];exact(dx _ _).trans (by simp)
 have t1:∀g:Gd,g=G0 prog 0 f313.ntmps→g .q .eql sy.wrap 1=wr:=fun g hg=>by rw [bv hg,hwr];exact zqn _ _
 have t2:∀g:Gd,g=G0 prog 0 f313.ntmps→g .q .eql am 3=ex:=fun g hg=>by rw [bv hg,hex];exact zqn _ _
 clear hwr hex hc1d hG
 have hls:ls.length≤1048576:=by omega
 refine ae (aK f313) aD func313 fun g F hg hF=> ?_
 have t0:=t0 g hg
 have t1:=t1 g hg
 have t2:=t2 g hg
 cbv
 rw [t2]
 cbv
 refine aY hg aD (by kernel_rfl) W (lnA) ls hW hls (fun z(s:List Int×LLA)=>[(1,.v W),(2,.v V),(3,.p 0),(7,.o 1),(8,.t (abl (ex))),(9,.i (z))]) (fun z(s:List Int×LLA)=>[.bx 89 68 (nwL n sy row al ⟨am,an⟩ kn (.view K)),.rw ⟨3,1,s.2⟩]) (fun z(s:List Int×LLA)=>s.2=vw ao s.1) (fun(s:List Int×LLA) rest=>s.1++rest.map c1) (Q) ([],[]) (by rw [hQ];rfl) rfl (Wk.weak (wkG [some _,some _] ⟨rfl,rfl,rfl,rfl,rfl,rfl,trivial⟩ ⟨wqE rfl rfl,wqE rfl rfl,trivial⟩ (by decide) aI)) (fun z s B hz h0 hi he=> ?_) (fun z s x rest B z0 z1 z2 hx hy h0 hi hc e1 hB=> ?_)
 ·obtain⟨out,E⟩:=s
  dsimp only at hi h0
  have pE:aj E=true:=by rw [hi];exact ag _ _
  obtain rfl:out=Q:=by simpa using h0
  rw [←hU]at hi
  replace hi:=hi.symm
  subst hi
  cbv;rw [he];cbv
  cases wr<;>cases ex
  all_goals
   (try cbv)
   ((repeat'((first|rw [t0]|rw [t2]|refine ad hg cG ?_|refine aa hg cG ?_);cbv)))
  all_goals first
   |exact bP (by rw [hF,hS,hR2,hU];rfl) rfl pE
   |(((first|refine bB hg cS (aq (bi (ab:=⟨_,_,U⟩) rfl kU dU) (aq (ay rfl) (aq (ay rfl) (aq (ay rfl) (aF))))) iX ?_|refine bN hg cS (aq (bi (ab:=⟨_,_,U⟩) rfl kU dU) (aq (ay rfl) (aq (ay rfl) (aq (ay rfl) (aF))))) iX ?_);cbv);exact bP (by rw [hF,hS,hR2,hX];rfl) rfl (by rw [hX];exact ag _ _))
 ·obtain⟨out,E⟩:=s
  dsimp only at hi h0
  have hxm:x∈ls:=zqd hx
  have cP:=hcP x hxm
  have cC:=hcC x hxm
  have hcx:=hc1 x
  obtain⟨C,hC⟩:=nmE (cro (pck xs x));(try rw [←hC]at cC);(try rw [←hC]at hcx)
  obtain⟨M,hM⟩:=nmE (vw av.c (pck xs x));(try rw [←hM]at cP);(try rw [←hM]at cC)
  have hEl:E.length≤1048576:=by
   have:=congrArg List.length h0
   rw [zqe]at this
   rw [hi,af];omega
  obtain⟨L,hL⟩:=nmE (vw ao x)
  rw [←hL]at cP
  have hy2:W[z.toNat]? =some [.view L]:=by rw [hL];exact hy
  have h3:(out++[c1 x])++rest.map c1=Q:=by rw [←h0];simp
  have aE:E++[[.J (c1 x)]]=vw ao (out++[c1 x]):=by rw [hi,bA];rfl
  obtain⟨E2,hE2⟩:∃E2,E2=E++[[.J (c1 x)]]:=⟨_,rfl⟩
  rw [←hE2]at aE
  have pE2:aj E2=true:=by rw [aE];exact ag _ _
  rw [hcx]at hE2
  cbv
  rw [hc]
  cbv
  refine goX hg _ z0 hy2 rfl ?_
  cbv
  cases wr<;>cases ex
  all_goals
   simp only [Bool.and_self,Bool.and_true,Bool.and_false,Bool.false_eq_true,if_false,if_true]at hE2
   (try cbv)
   ((repeat'((first|rw [t1]|rw [t2]|rw [e1]|refine ad hg cP ?_|refine aa hg cP ?_|refine ad hg cC ?_|refine aa hg cC ?_|refine dl hg rfl (by decide) hEl ?_;cbv;rw [gG hg,←hE2]);cbv)))
   exact hB ((out++[c1 x],E2)) _ _ ⟨h3,aE⟩ (Wk.weak (wkG [some _,some 3] ⟨rfl,rfl,rfl,rfl,rfl,rfl,trivial⟩ ⟨wqE rfl rfl,wqE rfl pE2,trivial⟩ (by decide) aI))
theorem nU(n:Int)(sy:ar)(row:Bool)(al ac:aw)(kn:Int)(K:LLA)(ls:List (List Int))(xs:List av)(hl:xs.length≤1048576)(hn:ls.length≤64)(hb:∀l∈ls,l.length≤1048576∧∀i∈l,0≤i∧i<(xs.length:Int)):PC0 313 [.agg (nwL n sy row al ac kn (.view K)),.c (.view (vwA lnA ls)),.c (.view (vw av.c xs))] (.t (.c (.view (vw ao (Ci sy row ac ls xs))))):=wg (nV n sy row al ac kn K ls xs hl hn hb) fun _=>rfl
theorem zU{P:Program}{f:FuncId}{args:List AT}{t k:Nat}{V:LLA}{w h b:Int}(hc:cY P f args fun res rows=>res= .t (.agg [.J w,.J h,.J b,.own 0])∧rows=[⟨t,k,V⟩])(hk:∀x∈V,x.length=k)(hd:∀x∈V,x.all dat=true):
  cY P f args fun res rows=>res= .t (.agg [.J w,.J h,.J b,.view V])∧rows=[]:=
 vu hc fun res rows⟨e1,e2⟩=>by
  subst e1 e2
  exact⟨.t (.agg [.J w,.J h,.J b,.view V]),[],bH (sl1 0 V) (jb rfl hk hd) (Wk.weak (wkG [] ⟨.inl ⟨rfl,rfl⟩,trivial⟩ trivial (by decide) aI)),rfl,rfl⟩
theorem B8{F:List AT→EH→Prop}{w h b:Int}{t k:Nat}{eh:EH}(hF:F=nR 0 (fun res h'=>∃rows,h'=rows.map .live∧(res= .t (.agg [.J w,.J h,.J b,.own 0])∧rows=[⟨t,k,[]⟩]))):F [.agg [.J w,.J h,.J b,.N]] eh:=by
 subst hF
 refine .inl ⟨.t (.agg [.J w,.J h,.J b,.own 0]),[.live ⟨t,k,[]⟩],[none],⟨Nat.zero_le _,fun i hi=>absurd hi (Nat.not_lt_zero _),by simp,?_,?_⟩,[⟨t,k,[]⟩],rfl,rfl,rfl⟩
 ·simp only [rnH,zqw]
  exact⟨fun h=>absurd h (Nat.not_lt_zero _),rfl,trivial⟩
 ·exact⟨.inr ⟨rfl,rfl,rfl,rfl,trivial⟩,trivial⟩
theorem vt(n:Int)(s:ar)(wd hgh:aw)(row:Bool)(iw ih al ac:aw)(K:LLA)(a b:Int):cY prog 261 [.agg (plL n s wd hgh row iw ih al ac (.view K)),ai a,ai b] fun res rows=>res= .t (.agg [.imm (.int .i64 (yJ s wd hgh (a,b)).wide),.imm (.int .i64 (yJ s wd hgh (a,b)).high),.imm (.int .i64 (yJ s wd hgh (a,b)).base),.own 0])∧rows=[⟨45,5,vw aV.c (yJ s wd hgh (a,b)).frames⟩]:=by
 have cF:=eY s
 obtain⟨w0,w1⟩:=wd
 obtain⟨h0,h1⟩:=hgh
 obtain⟨f,hf⟩:=nmE (nL s)
 have hlf:yJ s ⟨w0,w1⟩ ⟨h0,h1⟩ (a,b)=⟨tak ⟨w0,w1⟩ (wrap64 (a+adE f.left f.right)),tak ⟨h0,h1⟩ (wrap64 (b+adE f.top f.bottom)),tak ⟨h0,h1⟩ (wrap64 (b+adE f.top f.bottom)),[]⟩:=by rw [hf];rfl
 rw [hlf]
 rw [←hf]at cF
 clear hf hlf
 obtain⟨f0,f1,f2,f3⟩:=f
 have cW:=fD f0 f1 f2 f3
 have cH:=fF f0 f1 f2 f3
 dsimp only
 obtain⟨A1,hA1⟩:=nmE (adE f0 f2);(try rw [←hA1]at cW);(try rw [←hA1]at⊢)
 obtain⟨A2,hA2⟩:=nmE (adE f1 f3);(try rw [←hA2]at cH);(try rw [←hA2]at⊢)
 have cT:=eI w0 w1 (wrap64 (a+A1))
 have cU:=eI h0 h1 (wrap64 (b+A2))
 obtain⟨E1,hE1⟩:=nmE (wrap64 (a+A1))
 obtain⟨E2,hE2⟩:=nmE (wrap64 (b+A2))
 rw [←hE1]at cT⊢
 rw [←hE2]at cU⊢
 obtain⟨T1,hT1⟩:=nmE (tak ⟨w0,w1⟩ E1);(try rw [←hT1]at cT);(try rw [←hT1]at⊢)
 obtain⟨T2,hT2⟩:=nmE (tak ⟨h0,h1⟩ E2);(try rw [←hT2]at cU);(try rw [←hT2]at⊢)
 have t1:∀g:Gd,g=G0 prog 0 f261.ntmps→g .w .add .i64 a A1=E1:=fun g hg=>by rw [aM hg,hE1]
 have t2:∀g:Gd,g=G0 prog 0 f261.ntmps→g .w .add .i64 b A2=E2:=fun g hg=>by rw [aM hg,hE2]
 clear hA1 hA2 hE1 hE2 hT1 hT2
 rw [show vw aV.c ([]:List aV)=[]from rfl]
 refine ae (aK f261) aD func261 fun g F hg hF=> ?_
 have t1:=t1 g hg
 have t2:=t2 g hg
 cbv
 (repeat'((first|rw [t1]|rw [t2]|refine ad hg cF ?_|refine aa hg cF ?_|refine ad hg cW ?_|refine aa hg cW ?_|refine ad hg cH ?_|refine aa hg cH ?_|refine ad hg cT ?_|refine aa hg cT ?_|refine ad hg cU ?_|refine aa hg cU ?_);cbv))
 exact B8 hF
theorem iz{ns:List ak}{k:Int}{y:ak}(h:ns[(k-1).toNat]? =some y):kst ns k=y.style:=by
 unfold kst;rw [h]
def mA(V:LLA)(rtl:Bool):List AC:=[.view V,.B rtl,.imm (.pointer none)]
def xc(V:LLA)(rtl:Bool)(b:Bv)(kid:Int):Prop:=∀w0 w1 h0 h1:Int,PC0 100 [.agg (mA V rtl),ai kid,agP ⟨w0,w1⟩,agP ⟨h0,h1⟩] (.t (.agg (jK.ac (b kid ⟨w0,w1⟩ ⟨h0,h1⟩))))
theorem jQ(row:Bool)(b:jK):PC0 146 [abl row,.agg (jK.ac b)] (.i (alB row b)):=by
 obtain⟨w,h,bs,fr⟩:=b
 have e:jK.ac ⟨w,h,bs,fr⟩=[.J w,.J h,.J bs,.view (vw aV.c fr)]:=rfl
 rw [e]
 obtain⟨V,hV⟩:=nmE (vw aV.c fr);(try rw [←hV]at⊢)
 cases row
 all_goals
  refine ae (aK f146) aD func146 fun g F hg hF=> ?_
  cbv
  exact ba hF rfl
theorem nt(V:LLA)(rtl:Bool)(b:Bv)(kid:Int)(hbx:xc V rtl b kid)(n:Int)(s:ar)(wd hgh:aw)(row:Bool)(iw ih al ac:aw)(K:LLA)(a0 a1 c0 c1:Int):PC0 147 [.agg (mA V rtl),.agg (plL n s wd hgh row iw ih al ac (.view K)),ai kid,agP ⟨a0,a1⟩,agP ⟨c0,c1⟩] (.t (.agg (jK.ac (Bg b row kid ⟨a0,a1⟩ ⟨c0,c1⟩)))):=by
 unfold Bg
 have c1':=hbx a0 a1 c0 c1
 have c2':=hbx c0 c1 a0 a1
 obtain⟨b1,hb1⟩:=nmE (b kid ⟨a0,a1⟩ ⟨c0,c1⟩)
 obtain⟨b2,hb2⟩:=nmE (b kid ⟨c0,c1⟩ ⟨a0,a1⟩)
 rw [←hb1]at c1'
 rw [←hb2]at c2'
 rw [←hb1,←hb2]
 clear hb1 hb2 hbx
 have e:∀q:jK,jK.ac q=[.J q.wide,.J q.high,.J q.base,.view (vw aV.c q.frames)]:=fun q=>rfl
 rw [e]at c1' c2'
 cases row
 ·simp only [Bool.false_eq_true,if_false]
  rw [e]
  obtain⟨F2,hF2⟩:=nmE (vw aV.c b2.frames);(try rw [←hF2]at c2');(try rw [←hF2]at⊢)
  refine ae (aK f147) aD func147 fun g F hg hF=> ?_
  cbv
  repeat'((first|refine fH hg c2' rfl rfl ?_|refine dI hg c2' rfl rfl ?_);cbv)
  exact dY hF rfl ⟨rfl,rfl⟩
 ·simp only [if_true]
  rw [e]
  obtain⟨F1,hF1⟩:=nmE (vw aV.c b1.frames);(try rw [←hF1]at c1');(try rw [←hF1]at⊢)
  refine ae (aK f147) aD func147 fun g F hg hF=> ?_
  cbv
  repeat'((first|refine fH hg c1' rfl rfl ?_|refine dI hg c1' rfl rfl ?_);cbv)
  exact dY hF rfl ⟨rfl,rfl⟩
end Go.Proofs.YtdnnffbbhijmkaaGreat
