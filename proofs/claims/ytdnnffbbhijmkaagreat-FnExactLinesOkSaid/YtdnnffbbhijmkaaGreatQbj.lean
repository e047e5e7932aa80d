/- The lines of items: the reference. -/
import Derived.Test.YtdnnffbbhijmkaaGreatQbi
set_option linter.unusedVariables false
set_option linter.unusedSimpArgs false
set_option maxHeartbeats 8000000
namespace Go.Proofs.YtdnnffbbhijmkaaGreat
open Go.ChangeShapes Go.WideShapes Go.ChangeAt Go.RowKit Am Go.Proofs.Tryz
set_option maxRecDepth 100000
def Ae(xs:List ah)(i:Int):Option ah:=if 0≤i then xs[i.toNat]? else none
theorem Ac(xs:List ah)(ln:List Int):lit xs ln=ln.filterMap (Ae xs):=rfl
theorem Ad{xs:List ah}{i:Int}{n:Int}(hn:n=(xs.length:Int)):(decide (0≤i)&&decide (i≤n-1))=true→∃x,xs[i.toNat]? =some x∧Ae xs i=some x∧0≤i:=fun h=>by
 simp only [zqs,zqp]at h
 have hx:=zqc (show i.toNat<xs.length by omega)
 exact⟨_,hx,by unfold Ae;rw [if_pos h.1,hx],h.1⟩
theorem xN{xs:List ah}{i:Int}{n:Int}(hn:n=(xs.length:Int)):(decide (0≤i)&&decide (i≤n-1))=false→Ae xs i=none:=fun h=>by
 simp only [Bool.and_eq_false_iff,zqo]at h
 unfold Ae
 split
 ·exact zqz (by omega)
 ·rfl
theorem jW(xs:List ah)(ln:List Int)(hl:xs.length≤1048576)(hn:ln.length≤1048576):cY prog 251 [.c (.view (vw ah.c xs)),.c (.view (vw ao ln))] fun res rows=>res= .o 0∧rows=[⟨121,9,vw ah.c (lit xs ln)⟩]:=by
 obtain⟨R,hR⟩:=nmE (lit xs ln)
 rw [←hR]
 rw [Ac]at hR
 have hxV:=fun{i:Int}{x:ah}(h:xs[i.toNat]? =some x)=>bh (c:=ah.c) h
 obtain⟨V,hV⟩:=nmE (vw ah.c xs);(try rw [←hV]at hxV);(try rw [←hV]at⊢)
 obtain⟨n,hn_1⟩:∃n:Int,n=(xs.length:Int):=⟨_,rfl⟩
 have hVx:bg V=n:=by rw [hV,aN,hn_1]
 obtain⟨W,hW⟩:=nmE (vw ao ln)
 have hWl:W.length=ln.length:=by rw [hW,af]
 have iW:bR W=true:=by rw [hW];exact aG _ _
 have kW:∀y∈W,y.length=1:=by rw [hW];exact bC (c:=ao) (k:=1) fun _=>rfl
 have dW:∀y∈W,y.all dat=true:=by rw [hW];exact az
 rw [←hW]
 have cI:=fun i=>da i 0 (n-1)
 refine ae (aK f251) aD func251 fun g F hg hF=> ?_
 have t4:g .ln V=n:=by rw [bD hg,hVx]
 have e0:g .w .sub .i64 n 1=n-1:=by rw [dd hg];exact wr1 (by omega) (by omega)
 cbv
 refine aY hg aD (by kernel_rfl) W (fun x=>lc (ao x)) ln hW hn (fun z(s:List ah×LLA)=>[(0,.v V),(5,.o 0),(8,.v W),(9,.i (g .ln W)),(10,.i (z))]) (fun z(s:List ah×LLA)=>[.rw ⟨121,9,s.2⟩]) (fun z(s:List ah×LLA)=>s.2=vw ah.c s.1∧(s.1.length:Int)≤z) (fun(s:List ah×LLA) rest=>s.1++rest.filterMap (Ae xs)) (R) ([],[]) (by rw [hR];rfl) ⟨rfl,Int.le_refl 0⟩ (Wk.weak (wkG [none] ⟨rfl,rfl,rfl,rfl,rfl,trivial⟩ ⟨⟨_,rfl,rfl⟩,trivial⟩ (by decide) aI)) (fun z s B hz h0 hi he=> ?_) (fun z s x rest B z0 z1 z2 hx hy h0 hi hc e1 hB=> ?_)
 ·obtain⟨out,E⟩:=s
  obtain⟨i1,i2⟩:=hi
  dsimp only at i1 i2 h0
  have pE:aj E=true:=by rw [i1];exact ag _ _
  obtain rfl:out=R:=by simpa using h0
  rw [←i1]at hF
  cbv;rw [he];cbv
  exact bP hF rfl pE
 ·obtain⟨out,E⟩:=s
  obtain⟨i1,i2⟩:=hi
  dsimp only at i1 i2 h0
  have hEl:E.length≤1048576:=by rw [i1,af];omega
  have pE:aj E=true:=by rw [i1];exact ag _ _
  have cx:=cI x
  have h1:= @Ad xs x n hn_1
  have h2:= @xN xs x n hn_1
  obtain⟨b,hb⟩:=nmE ((decide (0≤x)&&decide (x≤n-1)))
  rw [←hb]at h1 h2 cx
  clear hb
  generalize n-1=n1 at *
  cases b
  ·have h3:out++rest.filterMap (Ae xs)=R:=by rw [←h0,List.filterMap_cons,h2 rfl]
   cbv;rw [hc];cbv;refine goX hg _ z0 hy rfl ?_;cbv
   (repeat'((first|rw [t4]|rw [e0]|rw [e1]|refine ad hg cx ?_|refine aa hg cx ?_);cbv))
   exact hB ((out,E)) _ _ ⟨h3,⟨i1,by dsimp only;omega⟩⟩ (Wk.weak (wkG [some _] ⟨rfl,rfl,rfl,rfl,rfl,trivial⟩ ⟨wqE rfl pE,trivial⟩ (by decide) aI))
  ·obtain⟨⟨y0,y1,y2,y3,y4,y5,y6,y7,y8⟩,hx1,hx2,hx3⟩:=h1 rfl
   have hyV:=hxV hx1
   have h3:(out++[⟨y0,y1,y2,y3,y4,y5,y6,y7,y8⟩])++rest.filterMap (Ae xs)=R:=by rw [←h0,List.filterMap_cons,hx2];simp
   have aE:E++[[.J y0,.J y1,.J y2,.J y3,.J y4,.J y5,.J y6,.B y7,.B y8]]=vw ah.c (out++[⟨y0,y1,y2,y3,y4,y5,y6,y7,y8⟩]):=by rw [i1,bA];rfl
   obtain⟨E2,hE2⟩:∃E2,E2=E++[[.J y0,.J y1,.J y2,.J y3,.J y4,.J y5,.J y6,.B y7,.B y8]]:=⟨_,rfl⟩
   rw [←hE2]at aE
   have pE2:aj E2=true:=by rw [aE];exact ag _ _
   have nl:((out++[(⟨y0,y1,y2,y3,y4,y5,y6,y7,y8⟩:ah)]).length:Int)≤z+1:=by simp;omega
   cbv;rw [hc];cbv;refine goX hg _ z0 hy rfl ?_;cbv
   (repeat'((first|rw [t4]|rw [e0]|rw [e1]|refine ad hg cx ?_|refine aa hg cx ?_|refine goX hg _ hx3 hyV rfl ?_|refine dl hg rfl (by decide) hEl ?_;cbv;rw [gG hg,←hE2]);cbv))
   exact hB ((out++[⟨y0,y1,y2,y3,y4,y5,y6,y7,y8⟩],E2)) _ _ ⟨h3,⟨aE,nl⟩⟩ (Wk.weak (wkG [some 2] ⟨rfl,rfl,rfl,rfl,rfl,trivial⟩ ⟨wqE rfl pE2,trivial⟩ (by decide) aI))
theorem oZ(xs:List ah)(ln:List Int)(hl:xs.length≤1048576)(hn:ln.length≤1048576):cY prog 248 [.c (.view (vw ah.c xs)),.c (.view (vw ao ln))] fun res rows=>res= .o 0∧rows=[⟨121,9,vw ah.c (lit xs ln)⟩]:=by
 obtain⟨R,hR⟩:=nmE (lit xs ln)
 rw [←hR]
 rw [Ac]at hR
 have hxV:=fun{i:Int}{x:ah}(h:xs[i.toNat]? =some x)=>bh (c:=ah.c) h
 obtain⟨V,hV⟩:=nmE (vw ah.c xs);(try rw [←hV]at hxV);(try rw [←hV]at⊢)
 obtain⟨n,hn_1⟩:∃n:Int,n=(xs.length:Int):=⟨_,rfl⟩
 have hVx:bg V=n:=by rw [hV,aN,hn_1]
 obtain⟨W,hW⟩:=nmE (vw ao ln)
 have hWl:W.length=ln.length:=by rw [hW,af]
 have iW:bR W=true:=by rw [hW];exact aG _ _
 have kW:∀y∈W,y.length=1:=by rw [hW];exact bC (c:=ao) (k:=1) fun _=>rfl
 have dW:∀y∈W,y.all dat=true:=by rw [hW];exact az
 rw [←hW]
 have cI:=fun i=>bI i 0 (n-1)
 refine ae (aK f248) aD func248 fun g F hg hF=> ?_
 have t4:g .ln V=n:=by rw [bD hg,hVx]
 have e0:g .w .sub .i64 n 1=n-1:=by rw [dd hg];exact wr1 (by omega) (by omega)
 cbv
 refine aY hg aD (by kernel_rfl) W (fun x=>lc (ao x)) ln hW hn (fun z(s:List ah×LLA)=>[(0,.v V),(1,.v W),(5,.o 0),(6,.i (z))]) (fun z(s:List ah×LLA)=>[.rw ⟨121,9,s.2⟩]) (fun z(s:List ah×LLA)=>s.2=vw ah.c s.1∧(s.1.length:Int)≤z) (fun(s:List ah×LLA) rest=>s.1++rest.filterMap (Ae xs)) (R) ([],[]) (by rw [hR];rfl) ⟨rfl,Int.le_refl 0⟩ (Wk.weak (wkG [some 0] ⟨rfl,rfl,rfl,rfl,trivial⟩ ⟨wqE rfl rfl,trivial⟩ (by decide) aI)) (fun z s B hz h0 hi he=> ?_) (fun z s x rest B z0 z1 z2 hx hy h0 hi hc e1 hB=> ?_)
 ·obtain⟨out,E⟩:=s
  obtain⟨i1,i2⟩:=hi
  dsimp only at i1 i2 h0
  have pE:aj E=true:=by rw [i1];exact ag _ _
  obtain rfl:out=R:=by simpa using h0
  rw [←i1]at hF
  cbv;rw [he];cbv
  exact bP hF rfl pE
 ·obtain⟨out,E⟩:=s
  obtain⟨i1,i2⟩:=hi
  dsimp only at i1 i2 h0
  have hEl:E.length≤1048576:=by rw [i1,af];omega
  have pE:aj E=true:=by rw [i1];exact ag _ _
  have cx:=cI x
  have h1:= @Ad xs x n hn_1
  have h2:= @xN xs x n hn_1
  obtain⟨b,hb⟩:=nmE ((decide (0≤x)&&decide (x≤n-1)))
  rw [←hb]at h1 h2 cx
  clear hb
  generalize n-1=n1 at *
  cases b
  ·have h3:out++rest.filterMap (Ae xs)=R:=by rw [←h0,List.filterMap_cons,h2 rfl]
   cbv;rw [hc];cbv;refine goX hg _ z0 hy rfl ?_;cbv
   (repeat'((first|rw [t4]|rw [e0]|rw [e1]|refine ad hg cx ?_|refine aa hg cx ?_);cbv))
   exact hB ((out,E)) _ _ ⟨h3,⟨i1,by dsimp only;omega⟩⟩ (Wk.weak (wkG [some _] ⟨rfl,rfl,rfl,rfl,trivial⟩ ⟨wqE rfl pE,trivial⟩ (by decide) aI))
  ·obtain⟨⟨y0,y1,y2,y3,y4,y5,y6,y7,y8⟩,hx1,hx2,hx3⟩:=h1 rfl
   have hyV:=hxV hx1
   have h3:(out++[⟨y0,y1,y2,y3,y4,y5,y6,y7,y8⟩])++rest.filterMap (Ae xs)=R:=by rw [←h0,List.filterMap_cons,hx2];simp
   have aE:E++[[.J y0,.J y1,.J y2,.J y3,.J y4,.J y5,.J y6,.B y7,.B y8]]=vw ah.c (out++[⟨y0,y1,y2,y3,y4,y5,y6,y7,y8⟩]):=by rw [i1,bA];rfl
   obtain⟨E2,hE2⟩:∃E2,E2=E++[[.J y0,.J y1,.J y2,.J y3,.J y4,.J y5,.J y6,.B y7,.B y8]]:=⟨_,rfl⟩
   rw [←hE2]at aE
   have pE2:aj E2=true:=by rw [aE];exact ag _ _
   have nl:((out++[(⟨y0,y1,y2,y3,y4,y5,y6,y7,y8⟩:ah)]).length:Int)≤z+1:=by simp;omega
   cbv;rw [hc];cbv;refine goX hg _ z0 hy rfl ?_;cbv
   (repeat'((first|rw [t4]|rw [e0]|rw [e1]|refine ad hg cx ?_|refine aa hg cx ?_|refine goX hg _ (by omega) hy rfl ?_|refine goX hg _ hx3 hyV rfl ?_|refine dl hg rfl (by decide) hEl ?_;cbv;rw [gG hg,←hE2]);cbv))
   exact hB ((out++[⟨y0,y1,y2,y3,y4,y5,y6,y7,y8⟩],E2)) _ _ ⟨h3,⟨aE,nl⟩⟩ (Wk.weak (wkG [some 2] ⟨rfl,rfl,rfl,rfl,trivial⟩ ⟨wqE rfl pE2,trivial⟩ (by decide) aI))
theorem gM(xs:List ah)(ln:List Int)(hl:xs.length≤1048576)(hn:ln.length≤1048576):PC0 251 [.c (.view (vw ah.c xs)),.c (.view (vw ao ln))] (.t (.c (.view (vw ah.c (lit xs ln))))):=wg (jW xs ln hl hn) fun _=>rfl
theorem gH(xs:List ah)(ln:List Int)(hl:xs.length≤1048576)(hn:ln.length≤1048576):PC0 248 [.c (.view (vw ah.c xs)),.c (.view (vw ao ln))] (.t (.c (.view (vw ah.c (lit xs ln))))):=wg (oZ xs ln hl hn) fun _=>rfl
def lnA(l:List Int):List AC:=[.view (vw ao l)]
theorem E6(ls:List (List Int)):∀y∈vwA lnA ls,y.length=1:=yt (c:=lnA) (k:=1) fun _=>rfl
theorem Aa(ls:List (List Int)):∀y∈vwA lnA ls,y.all dat=true:=nT (c:=lnA) fun _=>rfl
theorem jf(ls:List (List Int)):aj (vwA lnA ls)=true:=kh (c:=lnA) (fun _=>rfl) ls
theorem nS{α:Type}(c:α→List AC)(xs:List α)(x:α):vwA c (xs++[x])=vwA c xs++[c x]:=by simp [vwA]
theorem xw{E V:LLA}{q:Nat}(hp:aj E=true):E++[[AC.view V]]=(E++[[AC.own q]]).map (·.map (AC.seal (sl1 q V))):=by
 rw [List.map_append,←(bG hp).1]
 simp [AC.seal,sl1]
theorem xv{E V:LLA}{q j:Nat}(hp:aj E=true):E.set j [AC.view V]=(E.set j [AC.own q]).map (·.map (AC.seal (sl1 q V))):=by
 rw [List.map_set,←(bG hp).1]
 simp [AC.seal,sl1]
theorem z9(xs:List ah)(gap room:Int)(one:Bool)(i:Int):lnS xs gap room one [] i=[[i]]:=rfl
theorem xM(xs:List ah)(gap room:Int)(one:Bool)(o:List (List Int))(l:List Int)(i:Int):lnS xs gap room one (o++[l]) i=if one=true∨lou xs gap (l++[i])≤room then o++[l++[i]]else(o++[l])++[[i]]:=by
 unfold lnS
 rw [List.getLast?_append,List.getLast?_singleton]
 simp only [Option.some_or,List.dropLast_concat]
theorem xt{α:Type}(o:List α)(x y:α):(o++[x]).set o.length y=o++[y]:=by simp
theorem rY(xs:List ah)(gap room:Int)(wr:Bool)(hl:xs.length≤1048576):cY prog 178 [.c (.view (vw ah.c xs)),ai gap,ai room,abl wr] fun res rows=>res= .o 0∧rows=[⟨49,1,vwA lnA (lns xs gap room wr)⟩]:=by
 have cO:=iY xs hl
 have cI:=fun ln hn=>jW xs ln hl hn
 have cH:=fun(ys:List ah) hy=>ig ys hy
 have cU:=fun(ys:List ah) hy=>eX ys (ys.map hyp) gap hy (by rw [zql];exact hy)
 have cC:=fun l hl=>il l hl
 obtain⟨R,hR⟩:=nmE (lns xs gap room wr)
 rw [←hR]
 unfold lns at hR
 obtain⟨I,hI⟩:=nmE (dT xs);(try rw [←hI]at cO);(try rw [←hI]at hR)
 obtain⟨S,hS⟩:=nmE (vwA lnA R);(try rw [←hS]at⊢)
 obtain⟨V,hV⟩:=nmE (vw ah.c xs)
 have hVl:V.length=xs.length:=by rw [hV,af]
 have iV:bR V=true:=by rw [hV];exact aG _ _
 have kV:∀y∈V,y.length=9:=by rw [hV];exact bC (c:=ah.c) (k:=9) fun _=>rfl
 have dV:∀y∈V,y.all dat=true:=by rw [hV];exact az
 rw [←hV]at cO cI
 rw [←hV]
 obtain⟨n,hn⟩:∃n:Int,n=(xs.length:Int):=⟨_,rfl⟩
 have hVx:bg V=n:=by rw [hV,aN,hn]
 obtain⟨one,hone⟩:=nmE ((!wr||(decide (room<0)|| !I)))
 rw [←hone]at hR
 refine ae (aK f178) aD func178 fun g F hg hF=> ?_
 have q0:g .q .lss (room) (0)=decide ((room)<(0)):=bn hg _ _
 cases wr
 case' false=>
  have hone2:one=true:=hone
  cbv
 case' true=>
  by_cases h0:room<0
  case' pos=>
   have hone2:one=true:=by rw [hone,zqu h0];rfl
   (first|rw [zqu h0]at q0|rw [zqt h0]at q0|rw [zqu (Classical.not_not.2 h0)]at q0|rw [zqt (Classical.not_not.2 h0)]at q0)
   cbv
   (repeat'(rw [q0];cbv))
  case' neg=>
   (first|rw [zqu h0]at q0|rw [zqt h0]at q0|rw [zqu (Classical.not_not.2 h0)]at q0|rw [zqt (Classical.not_not.2 h0)]at q0)
   cases I
   case' false=>
    have hone2:one=true:=by rw [hone];simp
    cbv
    (repeat'((first|rw [q0]|refine ad hg cO ?_|refine aa hg cO ?_);cbv))
   case' true=>
    have hone2:one=false:=by rw [hone,zqt h0];rfl
    cbv
    (repeat'((first|rw [q0]|refine ad hg cO ?_|refine aa hg cO ?_);cbv))
 all_goals
  refine aY hg aD (by kernel_rfl) V (fun x=>lc (ah.c x)) xs hV hl (fun z(s:List (List Int)×LLA)=>[(0,.v V),(1,.i (gap)),(2,.i (room)),(9,.o 0),(10,.t (abl (one))),(26,.v V),(27,.i (g .ln V)),(28,.i (z))]) (fun z(s:List (List Int)×LLA)=>[.rw ⟨49,1,s.2⟩]) (fun z(s:List (List Int)×LLA)=>s.2=vwA lnA s.1∧(s.1.flatten.length:Int)=z∧∀l∈s.1,l≠[]) (fun(s:List (List Int)×LLA) rest=>lnG xs gap room one s.1 (s.1.flatten.length:Int) rest) (R) ([],[]) (by rw [hR];rfl) ⟨rfl,rfl,by simp⟩ (Wk.weak (wkG [none] ⟨rfl,rfl,rfl,rfl,by rw [hone2];rfl,rfl,rfl,rfl,trivial⟩ ⟨⟨_,rfl,rfl⟩,trivial⟩ (by decide) aI)) (fun z s B hz h0 hi he=> ?_) (fun z s x rest B z0 z1 z2 hx hy h0 hi hc e1 hB=> ?_)
  ·obtain⟨out,E⟩:=s
   obtain⟨i1,i2,i3⟩:=hi
   dsimp only at i1 i2 i3 h0
   have pE:aj E=true:=by rw [i1];exact jf _
   obtain rfl:out=R:=h0
   rw [hS,←i1]at hF
   cbv;rw [he];cbv
   exact bP hF rfl pE
  ·obtain⟨out,E⟩:=s
   obtain⟨i1,i2,i3⟩:=hi
   dsimp only at i1 i2 i3 h0
   have pE:aj E=true:=by rw [i1];exact jf _
   have hflat:=tQ xs gap room one out z
   have h1:lnG xs gap room one (lnS xs gap room one out z) ((lnS xs gap room one out z).flatten.length:Int) rest=R:=by
    rw [←h0,i2]
    simp only [lnG]
    rw [hflat.1,zqe,zqm]
    congr 1
    omega
   have n1:((lnS xs gap room one out z).flatten.length:Int)=z+1:=by rw [hflat.1,zqe,zqm];omega
   have n2:=hflat.2 i3
   have hol:out.length≤1048576:=by have:=jF out i3;omega
   have hEl:E.length≤1048576:=by rw [i1,bE];exact hol
   have hlE:bg E=(out.length:Int):=by rw [aB,i1,bE]
   clear hflat h0
   rcases List.eq_nil_or_concat out with rfl|⟨o,l,rfl⟩
   ·have hE:E=[]:=i1
    subst hE
    rw [z9]at h1 n1 n2
    have eL:g .ln ([]:LLA)=0:=by rw [bD hg];rfl
    have eK:g .w .sub .i64 0 1= -1:=by rw [dd hg];exact wr1 (by omega) (by omega)
    have tK:g .q .geq (-1) 0=false:=by rw [gO hg];rfl
    cbv
    rw [hc]
    cbv
    (repeat'((first|rw [eL]|rw [eK]|rw [tK]|rw [e1]);cbv))
    refine dl hg rfl (by decide) (by decide) ?_
    cbv
    rw [gG hg,e1]
    exact hB (([[z]],[[.view [[.J z]]]])) _ _ ⟨h1,⟨rfl,n1,n2⟩⟩ (bH (sl1 1 [[.J z]]) (jb rfl (by intro x hx;simp only [List.mem_singleton]at hx;subst hx;rfl) (by intro x hx;simp only [List.mem_singleton]at hx;subst hx;rfl)) (Wk.weak (wkG [some 3] ⟨rfl,rfl,rfl,rfl,rfl,rfl,rfl,rfl,trivial⟩ ⟨wqE rfl rfl,trivial⟩ (by decide) aI)))
   ·rw [List.concat_eq_append]at *
    have eL:g .ln E=(o.length:Int)+1:=by rw [bD hg,hlE];simp
    have eK:g .w .sub .i64 ((o.length:Int)+1) 1=(o.length:Int):=by rw [dd hg,show(o.length:Int)+1-1=o.length by omega];exact wr1 (by omega) (by simp at hol;omega)
    have tK:g .q .geq (o.length:Int) 0=true:=by rw [gO hg];exact zqu (by omega)
    have hkE:(o.length:Int)<bg E:=by rw [hlE,zqe,zqm];omega
    have hk0:0≤(o.length:Int):=by omega
    have hcell:E[(o.length:Int).toNat]? =some [.view (vw ao l)]:=by rw [i1,Int.toNat_natCast];exact gV (c:=lnA) (by simp)
    generalize (o.length:Int)+1=k1 at eL eK
    obtain⟨k,hk⟩:∃k:Int,k=(o.length:Int):=⟨_,rfl⟩
    rw [←hk]at eK tK hkE hk0 hcell
    have hll:l.length+1≤1048576:=by have:=mz (ls:=o++[l]) (l:=l) (by simp);omega
    have cCl:=cC l (by omega)
    have hlz:(l++[z]).length≤1048576:=by rw [zqe,zqm];exact hll
    have cIl:=cI (l++[z]) hlz
    have hlm:(lit xs (l++[z])).length≤1048576:=Nat.le_trans qw hlz
    have cHl:=cH _ hlm
    have cUl:=cU _ hlm
    have hou:lou xs gap (l++[z])=wrap64 (ic (lit xs (l++[z])) ((lit xs (l++[z])).map hyp) gap):=rfl
    rw [xM,hou]at h1 n1 n2
    obtain⟨L,hL⟩:=nmE (vw ao l)
    have iL:bR L=true:=by rw [hL];exact aG _ _
    rw [←hL]at cCl hcell
    have hLl:L.length≤1048576:=by rw [hL,af];omega
    have aL:L++[[.J z]]=vw ao (l++[z]):=by rw [hL,bA];rfl
    obtain⟨L2,hL2⟩:∃L2,L2=L++[[.J z]]:=⟨_,rfl⟩
    rw [←hL2]at aL
    rw [←aL]at cIl
    have kL2:∀y∈L2,y.length=1:=by rw [aL];exact bC (c:=ao) (k:=1) fun _=>rfl
    have dL2:∀y∈L2,y.all dat=true:=by rw [aL];exact az
    obtain⟨OU,hOU⟩:=nmE (wrap64 (ic (lit xs (l++[z])) ((lit xs (l++[z])).map hyp) gap));(try rw [←hOU]at cUl);(try rw [←hOU]at h1);(try rw [←hOU]at n1);(try rw [←hOU]at n2)
    obtain⟨H,hH⟩:=nmE (vw ao ((lit xs (l++[z])).map hyp))
    have hHl:H.length=((lit xs (l++[z])).map hyp).length:=by rw [hH,af]
    have iH:bR H=true:=by rw [hH];exact aG _ _
    have kH:∀y∈H,y.length=1:=by rw [hH];exact bC (c:=ao) (k:=1) fun _=>rfl
    have dH:∀y∈H,y.all dat=true:=by rw [hH];exact az
    rw [←hH]at cHl cUl
    obtain⟨M,hM⟩:=nmE (vw ah.c (lit xs (l++[z])))
    have hMl:M.length=(lit xs (l++[z])).length:=by rw [hM,af]
    have iM:bR M=true:=by rw [hM];exact aG _ _
    have kM:∀y∈M,y.length=9:=by rw [hM];exact bC (c:=ah.c) (k:=9) fun _=>rfl
    have dM:∀y∈M,y.all dat=true:=by rw [hM];exact az
    rw [←hM]at cIl cHl cUl
    have aS:E.set k.toNat [.view L2]=vwA lnA (o++[l++[z]]):=by
     rw [i1,hk,Int.toNat_natCast,nS,nS]
     have:=xt (vwA lnA o) (lnA l) (lnA (l++[z]))
     rw [bE]at this
     rw [←this,aL];rfl
    have aA:E++[[.view [[.J z]]]]=vwA lnA ((o++[l])++[[z]]):=by rw [i1,nS lnA (o++[l])];rfl
    have tO:g .q .leq OU room=decide (OU≤room):=ip hg _ _
    have sS:=fun q=>xv (V:=L2) (q:=q) (j:=k.toNat) pE
    have sA:=fun q=>xw (V:=[[.J z]]) (q:=q) pE
    have pS:aj (E.set k.toNat [.view L2])=true:=qn pE rfl
    obtain⟨ES,hES⟩:∃ES,ES=E.set k.toNat [.view L2]:=⟨_,rfl⟩
    obtain⟨EA,hEA⟩:∃EA,EA=E++[[.view [[.J z]]]]:=⟨_,rfl⟩
    rw [←hES]at aS sS pS
    rw [←hEA]at aA sA
    have pA:aj EA=true:=by rw [aA];exact jf _
    clear hL hou
    cbv
    rw [hc]
    cbv
    (repeat'((first|rw [eL]|rw [eK]|rw [tK]|rw [e1]|refine goY hg hk0 hkE fun j hj hjl=> ?_;cbv;refine⟨_,by rw [hj];exact hcell,?_⟩|refine bB hg cCl (bp rfl) iL ?_|refine dl hg rfl (by decide) hLl ?_;cbv;rw [gG hg,←hL2]);cbv))
    repeat'((first|refine bB hg cIl (aq (ay rfl) (aq (bi (ab:=⟨_,_,L2⟩) rfl kL2 dL2) aF)) iM ?_|refine bB hg cHl (aq (bi (ab:=⟨_,_,M⟩) rfl kM dM) aF) iH ?_|refine gR hg cUl (aq (bi (ab:=⟨_,_,M⟩) rfl kM dM) (aq (bi (ab:=⟨_,_,H⟩) rfl kH dH) (aq (ay rfl) (aF)))) rfl ?_|refine eN hg cUl (aq (bi (ab:=⟨_,_,M⟩) rfl kM dM) (aq (bi (ab:=⟨_,_,H⟩) rfl kH dH) (aq (ay rfl) (aF)))) rfl ?_);cbv)
    by_cases hcnd:one=true∨OU≤room
    ·rw [if_pos hcnd]at h1 n1 n2
     by_cases hfit:OU≤room
     all_goals
      first|rw [zqu hfit]at tO|rw [zqt hfit]at tO
      (try exact absurd (show true=false from((hcnd.resolve_right (by assumption)).symm.trans (by assumption))) Bool.noConfusion)
      all_goals(subst hone2;try cbv)
      all_goals(repeat'((first|refine bB hg cHl (aq (bi (ab:=⟨_,_,M⟩) rfl kM dM) aF) iH ?_|refine gR hg cUl (aq (bi (ab:=⟨_,_,M⟩) rfl kM dM) (aq (bi (ab:=⟨_,_,H⟩) rfl kH dH) (aq (ay rfl) (aF)))) rfl ?_|refine eN hg cUl (aq (bi (ab:=⟨_,_,M⟩) rfl kM dM) (aq (bi (ab:=⟨_,_,H⟩) rfl kH dH) (aq (ay rfl) (aF)))) rfl ?_|rw [tO]|rw [e1]|refine goY hg hk0 hkE fun j2 hj2 hjl2=> ?_;cbv;refine goN hg ⟨_,by rw [hj2];exact hcell,rfl⟩ ?_;cbv;rw [mH hg,hj2];dsimp only [AT.cells]);cbv))
      all_goals exact hB ((o++[l++[z]],ES)) _ _ ⟨h1,⟨aS,n1,n2⟩⟩ (bH (sl1 3 L2) (jb rfl kL2 dL2) (Wk.weak (wkG [some 0] ⟨rfl,rfl,rfl,rfl,rfl,rfl,rfl,rfl,trivial⟩ ⟨⟨_,_,rfl,rfl,rfl,rfl,.inl ⟨sS 3,by rw [sS 3]at pS;exact pS⟩⟩,trivial⟩ (by decide) aI)))
    ·rw [if_neg hcnd]at h1 n1 n2
     have hfit:¬OU≤room:=fun h=>hcnd (.inr h)
     rw [zqt hfit]at tO
     (try exact(hcnd (.inl (by assumption))).elim)
     all_goals(subst hone2;try cbv)
     all_goals(repeat'((first|refine bB hg cHl (aq (bi (ab:=⟨_,_,M⟩) rfl kM dM) aF) iH ?_|refine gR hg cUl (aq (bi (ab:=⟨_,_,M⟩) rfl kM dM) (aq (bi (ab:=⟨_,_,H⟩) rfl kH dH) (aq (ay rfl) (aF)))) rfl ?_|refine eN hg cUl (aq (bi (ab:=⟨_,_,M⟩) rfl kM dM) (aq (bi (ab:=⟨_,_,H⟩) rfl kH dH) (aq (ay rfl) (aF)))) rfl ?_|rw [tO]|rw [e1]|refine dl hg rfl (by decide) hEl ?_;cbv;rw [gG hg]);cbv))
     all_goals exact hB (((o++[l])++[[z]],EA)) _ _ ⟨h1,⟨aA,n1,n2⟩⟩ (bH (sl1 6 [[.J z]]) (jb rfl (by intro x hx;simp only [List.mem_singleton]at hx;subst hx;rfl) (by intro x hx;simp only [List.mem_singleton]at hx;subst hx;rfl)) (Wk.weak (wkG [some 8] ⟨rfl,rfl,rfl,rfl,rfl,rfl,rfl,rfl,trivial⟩ ⟨⟨_,_,rfl,rfl,rfl,rfl,.inl ⟨sA 6,by rw [sA 6]at pA;exact pA⟩⟩,trivial⟩ (by decide) aI)))
theorem gk(xs:List ah)(gap room:Int)(wr:Bool)(hl:xs.length≤1048576):PC0 178 [.c (.view (vw ah.c xs)),ai gap,ai room,abl wr] (.t (.c (.view (vwA lnA (lns xs gap room wr))))):=iy (rY xs gap room wr hl) (E6 _) (Aa _)
theorem ul(xs:List ah)(hl:xs.length≤1048576):PC0 253 [.c (.view (vw ah.c xs))] (.t (.c (.view (vw ao (xs.map hyp))))):=wg (ig xs hl) fun _=>rfl
theorem rh(xs:List ah)(hl:xs.length≤1048576):PC0 339 [.c (.view (vw ah.c xs))] (.t (.c (.view (vw ao (xs.map hyp))))):=wg (iJ xs hl) fun _=>rfl
theorem qH(xs:List ah)(gap inner:Int)(hl:xs.length≤1048576):PC0 256 [.c (.view (vw ah.c xs)),ai gap,ai inner] (.t (.c (.view (vw ao (flx xs gap inner))))):=wg (qI xs gap inner hl) fun _=>rfl
theorem pK(xs:List ah)(gap inner:Int)(hl:xs.length≤1048576):PC0 247 [.c (.view (vw ah.c xs)),ai gap,ai inner] (.t (.c (.view (vw ao (flx xs gap inner))))):=wg (pQ xs gap inner hl) fun _=>rfl
theorem kr(xs:List ah)(ln:List Int)(gap:Int)(hl:xs.length≤1048576)(hn:ln.length≤1048576):PC0 308 [.c (.view (vw ah.c xs)),.c (.view (vw ao ln)),ai gap] (.i (lou xs gap ln)):=by
 have hm:(lit xs ln).length≤1048576:=Nat.le_trans qw hn
 have c1:=gH xs ln hl hn
 have c2:=rh (lit xs ln) hm
 have c3:=fV (lit xs ln) ((lit xs ln).map hyp) gap hm (by simpa using hm)
 have hR:lou xs gap ln=wrap64 (ic (lit xs ln) ((lit xs ln).map hyp) gap):=rfl
 rw [hR]
 clear hR
 obtain⟨V,hV⟩:=nmE (vw ah.c xs)
 have hVl:V.length=xs.length:=by rw [hV,af]
 have iV:bR V=true:=by rw [hV];exact aG _ _
 have kV:∀y∈V,y.length=9:=by rw [hV];exact bC (c:=ah.c) (k:=9) fun _=>rfl
 have dV:∀y∈V,y.all dat=true:=by rw [hV];exact az
 obtain⟨W,hW⟩:=nmE (vw ao ln)
 have hWl:W.length=ln.length:=by rw [hW,af]
 have iW:bR W=true:=by rw [hW];exact aG _ _
 have kW:∀y∈W,y.length=1:=by rw [hW];exact bC (c:=ao) (k:=1) fun _=>rfl
 have dW:∀y∈W,y.all dat=true:=by rw [hW];exact az
 rw [←hV,←hW]at c1
 rw [←hV,←hW]
 obtain⟨M,hM⟩:=nmE (vw ah.c (lit xs ln));(try rw [←hM]at c1);(try rw [←hM]at c2);(try rw [←hM]at c3)
 obtain⟨H,hH⟩:=nmE (vw ao ((lit xs ln).map hyp));(try rw [←hH]at c2);(try rw [←hH]at c3)
 obtain⟨OU,hOU⟩:=nmE (wrap64 (ic (lit xs ln) ((lit xs ln).map hyp) gap));(try rw [←hOU]at c3);(try rw [←hOU]at⊢)
 refine ae (aK f308) aD func308 fun g F hg hF=> ?_
 cbv
 repeat'((first|refine ad hg c1 ?_|refine aa hg c1 ?_|refine ad hg c2 ?_|refine aa hg c2 ?_|refine ad hg c3 ?_|refine aa hg c3 ?_);cbv)
 exact ba hF rfl
theorem rx(xs:List ah)(gap room:Int)(wr:Bool)(hl:xs.length≤1048576):cY prog 246 [.c (.view (vw ah.c xs)),ai gap,ai room,abl wr] fun res rows=>res= .o 0∧rows=[⟨49,1,vwA lnA (lns xs gap room wr)⟩]:=by
 have cO:=iQ xs hl
 have cI:=fun ln hn=>kr xs ln gap hl hn
 obtain⟨R,hR⟩:=nmE (lns xs gap room wr)
 rw [←hR]
 unfold lns at hR
 obtain⟨I,hI⟩:=nmE (dT xs);(try rw [←hI]at cO);(try rw [←hI]at hR)
 obtain⟨S,hS⟩:=nmE (vwA lnA R);(try rw [←hS]at⊢)
 obtain⟨V,hV⟩:=nmE (vw ah.c xs)
 have hVl:V.length=xs.length:=by rw [hV,af]
 have iV:bR V=true:=by rw [hV];exact aG _ _
 have kV:∀y∈V,y.length=9:=by rw [hV];exact bC (c:=ah.c) (k:=9) fun _=>rfl
 have dV:∀y∈V,y.all dat=true:=by rw [hV];exact az
 rw [←hV]at cO cI
 rw [←hV]
 obtain⟨n,hn⟩:∃n:Int,n=(xs.length:Int):=⟨_,rfl⟩
 have hVx:bg V=n:=by rw [hV,aN,hn]
 obtain⟨one,hone⟩:=nmE ((!wr||(decide (room<0)|| !I)))
 rw [←hone]at hR
 refine ae (aK f246) aD func246 fun g F hg hF=> ?_
 have q0:g .q .lss (room) (0)=decide ((room)<(0)):=bn hg _ _
 cbv
 refine aY hg aD (by kernel_rfl) V (fun x=>lc (ah.c x)) xs hV hl (fun z(s:List (List Int)×LLA)=>[(0,.v V),(1,.i (gap)),(2,.i (room)),(3,.t (abl (wr))),(9,.o 0),(10,.i (z))]) (fun z(s:List (List Int)×LLA)=>[.rw ⟨49,1,s.2⟩]) (fun z(s:List (List Int)×LLA)=>s.2=vwA lnA s.1∧(s.1.flatten.length:Int)=z∧∀l∈s.1,l≠[]) (fun(s:List (List Int)×LLA) rest=>lnG xs gap room one s.1 (s.1.flatten.length:Int) rest) (R) ([],[]) (by rw [hR];rfl) ⟨rfl,rfl,by simp⟩ (Wk.weak (wkG [some 0] ⟨rfl,rfl,rfl,rfl,rfl,rfl,trivial⟩ ⟨wqE rfl rfl,trivial⟩ (by decide) aI)) (fun z s B hz h0 hi he=> ?_) (fun z s x rest B z0 z1 z2 hx hy h0 hi hc e1 hB=> ?_)
 ·obtain⟨out,E⟩:=s
  obtain⟨i1,i2,i3⟩:=hi
  dsimp only at i1 i2 i3 h0
  have pE:aj E=true:=by rw [i1];exact jf _
  obtain rfl:out=R:=h0
  rw [hS,←i1]at hF
  cbv;rw [he];cbv
  exact bP hF rfl pE
 ·obtain⟨out,E⟩:=s
  obtain⟨i1,i2,i3⟩:=hi
  dsimp only at i1 i2 i3 h0
  have pE:aj E=true:=by rw [i1];exact jf _
  have hflat:=tQ xs gap room one out z
  have h1:lnG xs gap room one (lnS xs gap room one out z) ((lnS xs gap room one out z).flatten.length:Int) rest=R:=by
   rw [←h0,i2]
   simp only [lnG]
   rw [hflat.1,zqe,zqm]
   congr 1
   omega
  have n1:((lnS xs gap room one out z).flatten.length:Int)=z+1:=by rw [hflat.1,zqe,zqm];omega
  have n2:=hflat.2 i3
  have hol:out.length≤1048576:=by have:=jF out i3;omega
  have hEl:E.length≤1048576:=by rw [i1,bE];exact hol
  have hlE:bg E=(out.length:Int):=by rw [aB,i1,bE]
  clear hflat h0
  rcases List.eq_nil_or_concat out with rfl|⟨o,l,rfl⟩
  ·have hE:E=[]:=i1
   subst hE
   rw [z9]at h1 n1 n2
   have eL:g .ln ([]:LLA)=0:=by rw [bD hg];rfl
   have eK:g .w .sub .i64 0 1= -1:=by rw [dd hg];exact wr1 (by omega) (by omega)
   have tK:g .q .geq (-1) 0=false:=by rw [gO hg];rfl
   cbv
   rw [hc]
   cbv
   (repeat'((first|rw [eL]|rw [eK]|rw [tK]|rw [e1]);cbv))
   refine dl hg rfl (by decide) (by decide) ?_
   cbv
   (repeat'((first|rw [e1]|rw [gG hg]);cbv))
   exact hB (([[z]],[[.view [[.J z]]]])) _ _ ⟨h1,⟨rfl,n1,n2⟩⟩ (bH (sl1 1 [[.J z]]) (jb rfl (by intro x hx;simp only [List.mem_singleton]at hx;subst hx;rfl) (by intro x hx;simp only [List.mem_singleton]at hx;subst hx;rfl)) (Wk.weak (wkG [some 3] ⟨rfl,rfl,rfl,rfl,rfl,rfl,trivial⟩ ⟨wqE rfl rfl,trivial⟩ (by decide) aI)))
  ·rw [List.concat_eq_append]at *
   have eL:g .ln E=(o.length:Int)+1:=by rw [bD hg,hlE];simp
   have eK:g .w .sub .i64 ((o.length:Int)+1) 1=(o.length:Int):=by rw [dd hg,show(o.length:Int)+1-1=o.length by omega];exact wr1 (by omega) (by simp at hol;omega)
   have tK:g .q .geq (o.length:Int) 0=true:=by rw [gO hg];exact zqu (by omega)
   have hkE:(o.length:Int)<bg E:=by rw [hlE,zqe,zqm];omega
   have hk0:0≤(o.length:Int):=by omega
   have hcell:E[(o.length:Int).toNat]? =some [.view (vw ao l)]:=by rw [i1,Int.toNat_natCast];exact gV (c:=lnA) (by simp)
   generalize (o.length:Int)+1=k1 at eL eK
   obtain⟨k,hk⟩:∃k:Int,k=(o.length:Int):=⟨_,rfl⟩
   rw [←hk]at eK tK hkE hk0 hcell
   have hll:l.length+1≤1048576:=by have:=mz (ls:=o++[l]) (l:=l) (by simp);omega
   have hlz:(l++[z]).length≤1048576:=by rw [zqe,zqm];exact hll
   have cIl:=cI (l++[z]) hlz
   rw [xM]at h1 n1 n2
   obtain⟨L,hL⟩:=nmE (vw ao l)
   have iL:bR L=true:=by rw [hL];exact aG _ _
   rw [←hL]at hcell
   have hLl:L.length≤1048576:=by rw [hL,af];omega
   have kL:∀y∈L,y.length=1:=by rw [hL];exact bC (c:=ao) (k:=1) fun _=>rfl
   have aL:L++[[.J z]]=vw ao (l++[z]):=by rw [hL,bA];rfl
   obtain⟨L2,hL2⟩:∃L2,L2=L++[[.J z]]:=⟨_,rfl⟩
   rw [←hL2]at aL
   rw [←aL]at cIl
   have kL2:∀y∈L2,y.length=1:=by rw [aL];exact bC (c:=ao) (k:=1) fun _=>rfl
   have dL2:∀y∈L2,y.all dat=true:=by rw [aL];exact az
   obtain⟨OU,hOU⟩:=nmE (lou xs gap (l++[z]));(try rw [←hOU]at cIl);(try rw [←hOU]at h1);(try rw [←hOU]at n1);(try rw [←hOU]at n2)
   have aS:E.set k.toNat [.view L2]=vwA lnA (o++[l++[z]]):=by
    rw [i1,hk,Int.toNat_natCast,nS,nS]
    have:=xt (vwA lnA o) (lnA l) (lnA (l++[z]))
    rw [bE]at this
    rw [←this,aL];rfl
   have aA:E++[[.view [[.J z]]]]=vwA lnA ((o++[l])++[[z]]):=by rw [i1,nS lnA (o++[l])];rfl
   have tO:g .q .leq OU room=decide (OU≤room):=ip hg _ _
   have sS:=fun q=>xv (V:=L2) (q:=q) (j:=k.toNat) pE
   have sA:=fun q=>xw (V:=[[.J z]]) (q:=q) pE
   have pS:aj (E.set k.toNat [.view L2])=true:=qn pE rfl
   obtain⟨ES,hES⟩:∃ES,ES=E.set k.toNat [.view L2]:=⟨_,rfl⟩
   obtain⟨EA,hEA⟩:∃EA,EA=E++[[.view [[.J z]]]]:=⟨_,rfl⟩
   rw [←hES]at aS sS pS
   rw [←hEA]at aA sA
   have pA:aj EA=true:=by rw [aA];exact jf _
   clear hL hOU
   cbv
   rw [hc]
   cbv
   (repeat'((first|rw [eL]|rw [eK]|rw [tK]|rw [e1]|refine goY hg hk0 hkE fun j hj hjl=> ?_;cbv;refine⟨_,by rw [hj];exact hcell,?_⟩|refine goN hg ⟨kL,(by show(0+L.length)*8≤_;omega),(by show 0+L.length≤_;omega)⟩ ?_;cbv;rw [gG hg];dsimp only [List.nil_append]|refine dl (t:=0) hg rfl (by decide) hLl ?_;cbv;rw [gG hg,←hL2]);cbv))
   by_cases hcnd:one=true∨OU≤room
   ·rw [if_pos hcnd]at h1 n1 n2
    cases wr
    case' true=>
     by_cases h0:room<0
     case' neg=>
      cases I
      case' true=>
       have hfit:OU≤room:=hcnd.resolve_left (by rw [hone,zqt h0];decide)
       rw [zqu hfit]at tO
    all_goals
     (try first|rw [zqu (by assumption)]at q0|rw [zqt (by assumption)]at q0)
     cbv
     (repeat'((first|refine gR hg cIl (aq (ay rfl) (aq (bi (ab:=⟨_,_,L2⟩) rfl kL2 dL2) (aq (ay rfl) (aF)))) rfl ?_|refine eN hg cIl (aq (ay rfl) (aq (bi (ab:=⟨_,_,L2⟩) rfl kL2 dL2) (aq (ay rfl) (aF)))) rfl ?_|rw [tO]|rw [q0]|rw [e1]|refine ad hg cO ?_|refine aa hg cO ?_|refine goY hg hk0 hkE fun j2 hj2 hjl2=> ?_;cbv;refine goN hg ⟨_,by rw [hj2];exact hcell,rfl⟩ ?_;cbv;rw [mH hg,hj2];dsimp only [AT.cells]);cbv))
     exact hB ((o++[l++[z]],ES)) _ _ ⟨h1,⟨aS,n1,n2⟩⟩ (bH (sl1 4 L2) (jb rfl kL2 dL2) (Wk.weak (wkG [some 0] ⟨rfl,rfl,rfl,rfl,rfl,rfl,trivial⟩ ⟨⟨_,_,rfl,rfl,rfl,rfl,.inl ⟨sS 4,by rw [sS 4]at pS;exact pS⟩⟩,trivial⟩ (by decide) aI)))
   ·rw [if_neg hcnd]at h1 n1 n2
    have hfit:¬OU≤room:=fun h=>hcnd (.inr h)
    rw [zqt hfit]at tO
    have ho:one=false:=by cases one<;>simp_all
    rw [hone]at ho
    simp only [Bool.or_eq_false_iff,Bool.not_eq_false',zqo]at ho
    obtain⟨w1,w2,w3⟩:=ho
    subst w1 w3
    rw [zqt w2]at q0
    cbv
    (repeat'((first|refine gR hg cIl (aq (ay rfl) (aq (bi (ab:=⟨_,_,L2⟩) rfl kL2 dL2) (aq (ay rfl) (aF)))) rfl ?_|refine eN hg cIl (aq (ay rfl) (aq (bi (ab:=⟨_,_,L2⟩) rfl kL2 dL2) (aq (ay rfl) (aF)))) rfl ?_|rw [tO]|rw [q0]|rw [e1]|refine ad hg cO ?_|refine aa hg cO ?_|refine dl hg rfl (by decide) hEl ?_;cbv;rw [gG hg]);cbv))
    exact hB (((o++[l])++[[z]],EA)) _ _ ⟨h1,⟨aA,n1,n2⟩⟩ (bH (sl1 5 [[.J z]]) (jb rfl (by intro x hx;simp only [List.mem_singleton]at hx;subst hx;rfl) (by intro x hx;simp only [List.mem_singleton]at hx;subst hx;rfl)) (Wk.weak (wkG [some 7] ⟨rfl,rfl,rfl,rfl,rfl,rfl,trivial⟩ ⟨⟨_,_,rfl,rfl,rfl,rfl,.inl ⟨sA 5,by rw [sA 5]at pA;exact pA⟩⟩,trivial⟩ (by decide) aI)))
end Go.Proofs.YtdnnffbbhijmkaaGreat
