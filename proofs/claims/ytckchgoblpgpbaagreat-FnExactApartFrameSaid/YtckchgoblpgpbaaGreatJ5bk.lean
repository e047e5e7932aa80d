/- The lines of items: the reference. -/
import Derived.Test.YtckchgoblpgpbaaGreatJ5bj
set_option linter.unusedVariables false
set_option linter.unusedSimpArgs false
set_option maxHeartbeats 8000000
namespace Go.Proofs.YtckchgoblpgpbaaGreat
open Go.ChangeShapes Go.WideShapes Go.ChangeAt Go.RowKit Am Go.Proofs.Tryz
set_option maxRecDepth 100000
def AD(xs:List ag)(i:Int):Option ag:=if 0<=i then xs[i.toNat]? else none
theorem Az(xs:List ag)(ln:List Int):lit xs ln=ln.filterMap (AD xs):=rfl
theorem AA{xs:List ag}{i:Int}{n:Int}(hn:n=(xs.length:Int)):(decide (0<=i)&&decide (i<=n-1))=true->∃x,xs[i.toNat]? =some x/\AD xs i=some x/\0<=i:=fun h=>by
 simp only [zqs,zqp]at h
 have hx:=zqc (show i.toNat<xs.length by omega)
 exact⟨_,hx,by unfold AD;rw [if_pos h.1,hx],h.1⟩
theorem yi{xs:List ag}{i:Int}{n:Int}(hn:n=(xs.length:Int)):(decide (0<=i)&&decide (i<=n-1))=false->AD xs i=none:=fun h=>by
 simp only [Bool.and_eq_false_iff,zqo]at h
 unfold AD
 split
 ·exact zqz (by omega)
 ·rfl
theorem kf(xs:List ag)(ln:List Int)(hl:xs.length<=1048576)(hn:ln.length<=1048576):dc prog 184 [.c (.view (vw ag.c xs)),.c (.view (vw ak ln))] fun res hf=>res= .o 0/\hf=[⟨237,9,vw ag.c (lit xs ln)⟩]:=by
 obtain⟨R,hR⟩:=nmE (lit xs ln)
 rw [<-hR]
 rw [Az]at hR
 have hj:=fun{i:Int}{x:ag}(h:xs[i.toNat]? =some x)=>bf (c:=ag.c) h
 obtain⟨V,hV⟩:=nmE (vw ag.c xs);(try rw [<-hV]at hj);(try rw [<-hV]at⊢)
 obtain⟨n,hd⟩:∃n:Int,n=(xs.length:Int):=⟨_,rfl⟩
 have hm:aX V=n:=by rw [hV,aQ,hd]
 obtain⟨W,hW⟩:=nmE (vw ak ln)
 have ht:=lmV hW
 have iW:=imV hW
 have kW:=kmV (k:=1) hW fun _=>rfl
 have dW:=dmV hW
 rw [<-hW]
 have cI:=fun i=>db i 0 (n-1)
 refine ae (aJ f184) ay func184 fun g F hg hF=> ?_
 have t4:g .ln V=n:=by rw [bF hg,hm]
 have e0:g .w .sub .i64 n 1=n-1:=by rw [bZ hg];exact wr1 (by omega) (by omega)
 cbv
 refine aY hg ay (by kernel_rfl) W (fun x=>lc (ak x)) ln hW hn (fun z(s:List ag×LLA)=>[(0,.v V),(5,.o 0),(8,.v W),(9,.i (g .ln W)),(10,.i (z))]) (fun z(s:List ag×LLA)=>[.rw ⟨237,9,s.2⟩]) (fun z(s:List ag×LLA)=>s.2=vw ag.c s.1/\(s.1.length:Int)<=z) (fun(s:List ag×LLA) rest=>s.1++rest.filterMap (AD xs)) (R) ([],[]) (by rw [hR];rfl) ⟨rfl,Int.le_refl 0⟩ (Wk.weak (wkG [none] zr5 ⟨⟨_,rfl,rfl⟩,trivial⟩ (by decide) aD)) (fun z s B hz h0 hi he=> ?_) (fun z s x rest B z0 z1 z2 hx hy h0 hi hc e1 hB=> ?_)
 ·obtain⟨ha,E⟩:=s
  obtain⟨i1,i2⟩:=hi
  dsimp only at i1 i2 h0
  have pE:=pmV i1
  obtain rfl:ha=R:=by simpa using h0
  rw [<-i1]at hF
  cbv;rw [he];cbv
  exact bR hF rfl pE
 ·obtain⟨ha,E⟩:=s
  obtain⟨i1,i2⟩:=hi
  dsimp only at i1 i2 h0
  have hk:E.length<=1048576:=by rw [i1,aq];omega
  have pE:=pmV i1
  have cx:=cI x
  have h1:= @AA xs x n hd
  have h2:= @yi xs x n hd
  obtain⟨b,hb⟩:=nmE ((decide (0<=x)&&decide (x<=n-1)))
  rw [<-hb]at h1 h2 cx
  clear hb
  generalize n-1=n1 at *
  cases b
  ·have h3:ha++rest.filterMap (AD xs)=R:=by rw [<-h0,List.filterMap_cons,h2 rfl]
   cbv;rw [hc];cbv;refine goX hg _ z0 hy rfl ?_;cbv
   (repeat'((first|rw [t4]|rw [e0]|rw [e1]|refine ad hg cx ?_);cbv))
   exact hB ((ha,E)) _ _ ⟨h3,⟨i1,by dsimp only;omega⟩⟩ (Wk.weak (wkG [some _] zr5 ⟨wqE rfl pE,trivial⟩ (by decide) aD))
  ·obtain⟨⟨y0,y1,y2,y3,y4,y5,y6,y7,y8⟩,ho,hp,hq⟩:=h1 rfl
   have hr:=hj ho
   have h3:(ha++[⟨y0,y1,y2,y3,y4,y5,y6,y7,y8⟩])++rest.filterMap (AD xs)=R:=by rw [<-h0,List.filterMap_cons,hp];simp
   have aE:E++[[.J y0,.J y1,.J y2,.J y3,.J y4,.J y5,.J y6,.B y7,.B y8]]=vw ag.c (ha++[⟨y0,y1,y2,y3,y4,y5,y6,y7,y8⟩]):=by rw [i1,bv];rfl
   obtain⟨E2,hh⟩:∃E2,E2=E++[[.J y0,.J y1,.J y2,.J y3,.J y4,.J y5,.J y6,.B y7,.B y8]]:=⟨_,rfl⟩
   rw [<-hh]at aE
   have hs:=pmV aE
   have nl:((ha++[(⟨y0,y1,y2,y3,y4,y5,y6,y7,y8⟩:ag)]).length:Int)<=z+1:=by simp;omega
   cbv;rw [hc];cbv;refine goX hg _ z0 hy rfl ?_;cbv
   (repeat'((first|rw [t4]|rw [e0]|rw [e1]|refine ad hg cx ?_|refine goX hg _ hq hr rfl ?_|refine dg hg rfl (by decide) hk ?_;cbv;rw [gd hg,<-hh]);cbv))
   exact hB ((ha++[⟨y0,y1,y2,y3,y4,y5,y6,y7,y8⟩],E2)) _ _ ⟨h3,⟨aE,nl⟩⟩ (Wk.weak (wkG [some 2] zr5 ⟨wqE rfl hs,trivial⟩ (by decide) aD))
theorem oZ(xs:List ag)(ln:List Int)(hl:xs.length<=1048576)(hn:ln.length<=1048576):dc prog 219 [.c (.view (vw ag.c xs)),.c (.view (vw ak ln))] fun res hf=>res= .o 0/\hf=[⟨237,9,vw ag.c (lit xs ln)⟩]:=by
 obtain⟨R,hR⟩:=nmE (lit xs ln)
 rw [<-hR]
 rw [Az]at hR
 have hj:=fun{i:Int}{x:ag}(h:xs[i.toNat]? =some x)=>bf (c:=ag.c) h
 obtain⟨V,hV⟩:=nmE (vw ag.c xs);(try rw [<-hV]at hj);(try rw [<-hV]at⊢)
 obtain⟨n,hd⟩:∃n:Int,n=(xs.length:Int):=⟨_,rfl⟩
 have hm:aX V=n:=by rw [hV,aQ,hd]
 obtain⟨W,hW⟩:=nmE (vw ak ln)
 have ht:=lmV hW
 have iW:=imV hW
 have kW:=kmV (k:=1) hW fun _=>rfl
 have dW:=dmV hW
 rw [<-hW]
 have cI:=fun i=>bI i 0 (n-1)
 refine ae (aJ f219) ay func219 fun g F hg hF=> ?_
 have t4:g .ln V=n:=by rw [bF hg,hm]
 have e0:g .w .sub .i64 n 1=n-1:=by rw [bZ hg];exact wr1 (by omega) (by omega)
 cbv
 refine aY hg ay (by kernel_rfl) W (fun x=>lc (ak x)) ln hW hn (fun z(s:List ag×LLA)=>[(0,.v V),(1,.v W),(5,.o 0),(6,.i (z))]) (fun z(s:List ag×LLA)=>[.rw ⟨237,9,s.2⟩]) (fun z(s:List ag×LLA)=>s.2=vw ag.c s.1/\(s.1.length:Int)<=z) (fun(s:List ag×LLA) rest=>s.1++rest.filterMap (AD xs)) (R) ([],[]) (by rw [hR];rfl) ⟨rfl,Int.le_refl 0⟩ (Wk.weak (wkG [some 0] zr4 ⟨wqE rfl rfl,trivial⟩ (by decide) aD)) (fun z s B hz h0 hi he=> ?_) (fun z s x rest B z0 z1 z2 hx hy h0 hi hc e1 hB=> ?_)
 ·obtain⟨ha,E⟩:=s
  obtain⟨i1,i2⟩:=hi
  dsimp only at i1 i2 h0
  have pE:=pmV i1
  obtain rfl:ha=R:=by simpa using h0
  rw [<-i1]at hF
  cbv;rw [he];cbv
  exact bR hF rfl pE
 ·obtain⟨ha,E⟩:=s
  obtain⟨i1,i2⟩:=hi
  dsimp only at i1 i2 h0
  have hk:E.length<=1048576:=by rw [i1,aq];omega
  have pE:=pmV i1
  have cx:=cI x
  have h1:= @AA xs x n hd
  have h2:= @yi xs x n hd
  obtain⟨b,hb⟩:=nmE ((decide (0<=x)&&decide (x<=n-1)))
  rw [<-hb]at h1 h2 cx
  clear hb
  generalize n-1=n1 at *
  cases b
  ·have h3:ha++rest.filterMap (AD xs)=R:=by rw [<-h0,List.filterMap_cons,h2 rfl]
   cbv;rw [hc];cbv;refine goX hg _ z0 hy rfl ?_;cbv
   (repeat'((first|rw [t4]|rw [e0]|rw [e1]|refine ad hg cx ?_);cbv))
   exact hB ((ha,E)) _ _ ⟨h3,⟨i1,by dsimp only;omega⟩⟩ (Wk.weak (wkG [some _] zr4 ⟨wqE rfl pE,trivial⟩ (by decide) aD))
  ·obtain⟨⟨y0,y1,y2,y3,y4,y5,y6,y7,y8⟩,ho,hp,hq⟩:=h1 rfl
   have hr:=hj ho
   have h3:(ha++[⟨y0,y1,y2,y3,y4,y5,y6,y7,y8⟩])++rest.filterMap (AD xs)=R:=by rw [<-h0,List.filterMap_cons,hp];simp
   have aE:E++[[.J y0,.J y1,.J y2,.J y3,.J y4,.J y5,.J y6,.B y7,.B y8]]=vw ag.c (ha++[⟨y0,y1,y2,y3,y4,y5,y6,y7,y8⟩]):=by rw [i1,bv];rfl
   obtain⟨E2,hh⟩:∃E2,E2=E++[[.J y0,.J y1,.J y2,.J y3,.J y4,.J y5,.J y6,.B y7,.B y8]]:=⟨_,rfl⟩
   rw [<-hh]at aE
   have hs:=pmV aE
   have nl:((ha++[(⟨y0,y1,y2,y3,y4,y5,y6,y7,y8⟩:ag)]).length:Int)<=z+1:=by simp;omega
   cbv;rw [hc];cbv;refine goX hg _ z0 hy rfl ?_;cbv
   (repeat'((first|rw [t4]|rw [e0]|rw [e1]|refine ad hg cx ?_|refine goX hg _ (by omega) hy rfl ?_|refine goX hg _ hq hr rfl ?_|refine dg hg rfl (by decide) hk ?_;cbv;rw [gd hg,<-hh]);cbv))
   exact hB ((ha++[⟨y0,y1,y2,y3,y4,y5,y6,y7,y8⟩],E2)) _ _ ⟨h3,⟨aE,nl⟩⟩ (Wk.weak (wkG [some 2] zr4 ⟨wqE rfl hs,trivial⟩ (by decide) aD))
theorem gN(xs:List ag)(ln:List Int)(hl:xs.length<=1048576)(hn:ln.length<=1048576):PC0 184 [.c (.view (vw ag.c xs)),.c (.view (vw ak ln))] (.t (.c (.view (vw ag.c (lit xs ln))))):=wx (kf xs ln hl hn) fun _=>rfl
theorem gK(xs:List ag)(ln:List Int)(hl:xs.length<=1048576)(hn:ln.length<=1048576):PC0 219 [.c (.view (vw ag.c xs)),.c (.view (vw ak ln))] (.t (.c (.view (vw ag.c (lit xs ln))))):=wx (oZ xs ln hl hn) fun _=>rfl
def lnA(l:List Int):List AC:=[.view (vw ak l)]
theorem FG(ls:List (List Int)):∀y∈vwA lnA ls,y.length=1:=yN (c:=lnA) (k:=1) fun _=>rfl
theorem Ax(ls:List (List Int)):∀y∈vwA lnA ls,y.all dat=true:=nS (c:=lnA) fun _=>rfl
theorem jm(ls:List (List Int)):aC (vwA lnA ls)=true:=kx (c:=lnA) (fun _=>rfl) ls
theorem nR{α:Type}(c:α->List AC)(xs:List α)(x:α):vwA c (xs++[x])=vwA c xs++[c x]:=by simp [vwA]
theorem xQ{E V:LLA}{q:Nat}(hp:aC E=true):E++[[AC.view V]]=(E++[[AC.own q]]).map (·.map (AC.seal (sl1 q V))):=by
 rw [List.map_append,<-(bG hp).1]
 simp [AC.seal,sl1]
theorem xP{E V:LLA}{q j:Nat}(hp:aC E=true):E.set j [AC.view V]=(E.set j [AC.own q]).map (·.map (AC.seal (sl1 q V))):=by
 rw [List.map_set,<-(bG hp).1]
 simp [AC.seal,sl1]
theorem Aw(xs:List ag)(gap room:Int)(one:Bool)(i:Int):lnS xs gap room one [] i=[[i]]:=rfl
theorem yh(xs:List ag)(gap room:Int)(one:Bool)(o:List (List Int))(l:List Int)(i:Int):lnS xs gap room one (o++[l]) i=if one=true\/lou xs gap (l++[i])<=room then o++[l++[i]]else(o++[l])++[[i]]:=by
 unfold lnS
 rw [List.getLast?_append,List.getLast?_singleton]
 simp only [Option.some_or,List.dropLast_concat]
theorem xN{α:Type}(o:List α)(x y:α):(o++[x]).set o.length y=o++[y]:=by simp
theorem sj(xs:List ag)(gap room:Int)(wr:Bool)(hl:xs.length<=1048576):dc prog 237 [.c (.view (vw ag.c xs)),ai gap,ai room,abl wr] fun res hu=>res= .o 0/\hu=[⟨24,1,vwA lnA (lns xs gap room wr)⟩]:=by
 have cO:=jc xs hl
 have cI:=fun ln hn=>kf xs ln hl hn
 have cH:=fun(ys:List ag) hy=>ia ys hy
 have cU:=fun(ys:List ag) hy=>fq ys (ys.map hyp) gap hy (by rw [zql];exact hy)
 have cC:=fun l hl=>ir l hl
 obtain⟨R,hR⟩:=nmE (lns xs gap room wr)
 rw [<-hR]
 unfold lns at hR
 obtain⟨I,hI⟩:=nmE (ep xs);(try rw [<-hI]at cO);(try rw [<-hI]at hR)
 obtain⟨S,hS⟩:=nmE (vwA lnA R);(try rw [<-hS]at⊢)
 obtain⟨V,hV⟩:=nmE (vw ag.c xs)
 have h3:=lmV hV
 have iV:=imV hV
 have kV:=kmV (k:=9) hV fun _=>rfl
 have dV:=dmV hV
 rw [<-hV]at cO cI
 rw [<-hV]
 obtain⟨n,hn⟩:∃n:Int,n=(xs.length:Int):=⟨_,rfl⟩
 have h4:aX V=n:=by rw [hV,aQ,hn]
 obtain⟨one,hf⟩:=nmE ((!wr||(decide (room<0)|| !I)))
 rw [<-hf]at hR
 refine ae (aJ f237) ay func237 fun g F hg hF=> ?_
 have q0:g .q .lss (room) (0)=decide ((room)<(0)):=bh hg _ _
 cases wr
 case' false=>
  have ha:one=true:=hf
  cbv
 case' true=>
  by_cases h0:room<0
  case' pos=>
   have ha:one=true:=by rw [hf,zqu h0];rfl
   (first|rw [zqu h0]at q0|rw [zqt h0]at q0|rw [zqu (Classical.not_not.2 h0)]at q0|rw [zqt (Classical.not_not.2 h0)]at q0)
   cbv
   (repeat'(rw [q0];cbv))
  case' neg=>
   (first|rw [zqu h0]at q0|rw [zqt h0]at q0|rw [zqu (Classical.not_not.2 h0)]at q0|rw [zqt (Classical.not_not.2 h0)]at q0)
   cases I
   case' false=>
    have ha:one=true:=by rw [hf];simp
    cbv
    (repeat'((first|rw [q0]|refine ad hg cO ?_);cbv))
   case' true=>
    have ha:one=false:=by rw [hf,zqt h0];rfl
    cbv
    (repeat'((first|rw [q0]|refine ad hg cO ?_);cbv))
 all_goals
  refine aY hg ay (by kernel_rfl) V (fun x=>lc (ag.c x)) xs hV hl (fun z(s:List (List Int)×LLA)=>[(0,.v V),(1,.i (gap)),(2,.i (room)),(9,.o 0),(10,.t (abl (one))),(26,.v V),(27,.i (g .ln V)),(28,.i (z))]) (fun z(s:List (List Int)×LLA)=>[.rw ⟨24,1,s.2⟩]) (fun z(s:List (List Int)×LLA)=>s.2=vwA lnA s.1/\(s.1.flatten.length:Int)=z/\∀l∈s.1,l≠[]) (fun(s:List (List Int)×LLA) rest=>lnG xs gap room one s.1 (s.1.flatten.length:Int) rest) (R) ([],[]) (by rw [hR];rfl) ⟨rfl,rfl,by simp⟩ (Wk.weak (wkG [none] ⟨rfl,rfl,rfl,rfl,by rw [ha];rfl,rfl,rfl,rfl,trivial⟩ ⟨⟨_,rfl,rfl⟩,trivial⟩ (by decide) aD)) (fun z s B hz h0 hi he=> ?_) (fun z s x rest B z0 z1 z2 hx hy h0 hi hc e1 hB=> ?_)
  ·obtain⟨hh,E⟩:=s
   obtain⟨i1,i2,i3⟩:=hi
   dsimp only at i1 i2 i3 h0
   have pE:aC E=true:=by rw [i1];exact jm _
   obtain rfl:hh=R:=h0
   rw [hS,<-i1]at hF
   cbv;rw [he];cbv
   exact bR hF rfl pE
  ·obtain⟨hh,E⟩:=s
   obtain⟨i1,i2,i3⟩:=hi
   dsimp only at i1 i2 i3 h0
   have pE:aC E=true:=by rw [i1];exact jm _
   have hd:=tZ xs gap room one hh z
   have h1:lnG xs gap room one (lnS xs gap room one hh z) ((lnS xs gap room one hh z).flatten.length:Int) rest=R:=by
    rw [<-h0,i2]
    simp only [lnG]
    rw [hd.1,zqe,zqm]
    congr 1
    omega
   have n1:((lnS xs gap room one hh z).flatten.length:Int)=z+1:=by rw [hd.1,zqe,zqm];omega
   have n2:=hd.2 i3
   have hK:hh.length<=1048576:=by have:=jR hh i3;omega
   have hU:E.length<=1048576:=by rw [i1,bC];exact hK
   have hD:aX E=(hh.length:Int):=by rw [az,i1,bC]
   clear hd h0
   rcases List.eq_nil_or_concat hh with rfl|⟨o,l,rfl⟩
   ·have hE:E=[]:=i1
    subst hE
    rw [Aw]at h1 n1 n2
    have eL:g .ln ([]:LLA)=0:=by rw [bF hg];rfl
    have eK:g .w .sub .i64 0 1= -1:=by rw [bZ hg];exact wr1 (by omega) (by omega)
    have tK:g .q .geq (-1) 0=false:=by rw [iu hg];rfl
    cbv
    rw [hc]
    cbv
    (repeat'((first|rw [eL]|rw [eK]|rw [tK]);cbv))
    refine dg hg rfl (by decide) (by decide) ?_
    cbv
    rw [gd hg,e1]
    exact hB (([[z]],[[.view [[.J z]]]])) _ _ ⟨h1,⟨rfl,n1,n2⟩⟩ (bH (sl1 1 [[.J z]]) (jh rfl (by intro x hx;simp only [List.mem_singleton]at hx;subst hx;rfl) (by intro x hx;simp only [List.mem_singleton]at hx;subst hx;rfl)) (Wk.weak (wkG [some 3] zr8 ⟨wqE rfl rfl,trivial⟩ (by decide) aD)))
   ·rw [List.concat_eq_append]at *
    have eL:g .ln E=(o.length:Int)+1:=by rw [bF hg,hD];simp
    have eK:g .w .sub .i64 ((o.length:Int)+1) 1=(o.length:Int):=by rw [bZ hg,show(o.length:Int)+1-1=o.length by omega];exact wr1 (by omega) (by simp at hK;omega)
    have tK:g .q .geq (o.length:Int) 0=true:=by rw [iu hg];exact zqu (by omega)
    have ht:(o.length:Int)<aX E:=by rw [hD,zqe,zqm];omega
    have hs:0<=(o.length:Int):=by omega
    have hb:E[(o.length:Int).toNat]? =some [.view (vw ak l)]:=by rw [i1,Int.toNat_natCast];exact gR (c:=lnA) (by simp)
    generalize (o.length:Int)+1=k1 at eL eK
    obtain⟨k,hk⟩:∃k:Int,k=(o.length:Int):=⟨_,rfl⟩
    rw [<-hk]at eK tK ht hs hb
    have hY:l.length+1<=1048576:=by have:=mM (ls:=o++[l]) (l:=l) (by simp);omega
    have hv:=cC l (by omega)
    have hJ:(l++[z]).length<=1048576:=by rw [zqe,zqm];exact hY
    have hr:=cI (l++[z]) hJ
    have hG:(lit xs (l++[z])).length<=1048576:=Nat.le_trans qD hJ
    have hp:=cH _ hG
    have hm:=cU _ hG
    have hN:lou xs gap (l++[z])=wrap64 (hP (lit xs (l++[z])) ((lit xs (l++[z])).map hyp) gap):=rfl
    rw [yh,hN]at h1 n1 n2
    obtain⟨L,hL⟩:=nmE (vw ak l)
    have iL:=imV hL
    rw [<-hL]at hv hb
    have hW:L.length<=1048576:=by rw [hL,aq];omega
    have aL:L++[[.J z]]=vw ak (l++[z]):=by rw [hL,bv];rfl
    obtain⟨L2,hA⟩:∃L2,L2=L++[[.J z]]:=⟨_,rfl⟩
    rw [<-hA]at aL
    rw [<-aL]at hr
    have hO:=kmV (k:=1) aL fun _=>rfl
    have hw:=dmV aL
    obtain⟨OU,hq⟩:=nmE (wrap64 (hP (lit xs (l++[z])) ((lit xs (l++[z])).map hyp) gap));(try rw [<-hq]at hm);(try rw [<-hq]at h1);(try rw [<-hq]at n1);(try rw [<-hq]at n2)
    obtain⟨H,hH⟩:=nmE (vw ak ((lit xs (l++[z])).map hyp))
    have hZ:H.length=((lit xs (l++[z])).map hyp).length:=by rw [hH,aq]
    have iH:=imV hH
    have kH:=kmV (k:=1) hH fun _=>rfl
    have dH:=dmV hH
    rw [<-hH]at hp hm
    obtain⟨M,hM⟩:=nmE (vw ag.c (lit xs (l++[z])))
    have h2:M.length=(lit xs (l++[z])).length:=by rw [hM,aq]
    have iM:=imV hM
    have kM:=kmV (k:=9) hM fun _=>rfl
    have dM:=dmV hM
    rw [<-hM]at hr hp hm
    have aS:E.set k.toNat [.view L2]=vwA lnA (o++[l++[z]]):=by
     rw [i1,hk,Int.toNat_natCast,nR,nR]
     have:=xN (vwA lnA o) (lnA l) (lnA (l++[z]))
     rw [bC]at this
     rw [<-this,aL];rfl
    have aA:E++[[.view [[.J z]]]]=vwA lnA ((o++[l])++[[z]]):=by rw [i1,nR lnA (o++[l])];rfl
    have tO:g .q .leq OU room=decide (OU<=room):=iy hg _ _
    have sS:=fun q=>xP (V:=L2) (q:=q) (j:=k.toNat) pE
    have sA:=fun q=>xQ (V:=[[.J z]]) (q:=q) pE
    have pS:aC (E.set k.toNat [.view L2])=true:=vE pE rfl
    obtain⟨ES,hT⟩:∃ES,ES=E.set k.toNat [.view L2]:=⟨_,rfl⟩
    obtain⟨EA,hQ⟩:∃EA,EA=E++[[.view [[.J z]]]]:=⟨_,rfl⟩
    rw [<-hT]at aS sS pS
    rw [<-hQ]at aA sA
    have pA:aC EA=true:=by rw [aA];exact jm _
    clear hL hN
    cbv
    rw [hc]
    cbv
    (repeat'((first|rw [eL]|rw [eK]|rw [tK]|refine goY hg hs ht fun j hj h5=> ?_;cbv;refine⟨_,by rw [hj];exact hb,?_⟩|refine bE hg hv (bp rfl) iL ?_|refine dg hg rfl (by decide) hW ?_;cbv;rw [gd hg,<-hA]);cbv))
    repeat'(refine bE hg hr (ah (ao rfl) (ah (aZ (ab:=⟨_,_,L2⟩) rfl hO hw) av)) iM ?_;cbv)
    by_cases hcnd:one=true\/OU<=room
    ·rw [if_pos hcnd]at h1 n1 n2
     by_cases ho:OU<=room
     all_goals
      first|rw [zqu ho]at tO|rw [zqt ho]at tO
      (try exact absurd (show true=false from((hcnd.resolve_right (by assumption)).symm.trans (by assumption))) Bool.noConfusion)
      all_goals(subst ha;try cbv)
      all_goals(repeat'((first|refine bE hg hp (ah (aZ (ab:=⟨_,_,M⟩) rfl kM dM) av) iH ?_|refine fJ hg hm (ah (aZ (ab:=⟨_,_,M⟩) rfl kM dM) (ah (aZ (ab:=⟨_,_,H⟩) rfl kH dH) (ah (ao rfl) (av)))) rfl ?_|rw [tO]|rw [e1]|refine goY hg hs ht fun j2 hC hX=> ?_;cbv;refine goN hg ⟨_,by rw [hC];exact hb,rfl⟩ ?_;cbv;rw [mP hg,hC];dsimp only [AT.cells]);cbv))
      all_goals exact hB ((o++[l++[z]],ES)) _ _ ⟨h1,⟨aS,n1,n2⟩⟩ (bH (sl1 3 L2) (jh rfl hO hw) (Wk.weak (wkG [some 0] zr8 ⟨⟨_,_,rfl,rfl,rfl,rfl,.inl ⟨sS 3,by rw [sS 3]at pS;exact pS⟩⟩,trivial⟩ (by decide) aD)))
    ·rw [if_neg hcnd]at h1 n1 n2
     have ho:¬OU<=room:=fun h=>hcnd (.inr h)
     rw [zqt ho]at tO
     (try exact(hcnd (.inl (by assumption))).elim)
     all_goals(subst ha;try cbv)
     all_goals(repeat'((first|refine bE hg hp (ah (aZ (ab:=⟨_,_,M⟩) rfl kM dM) av) iH ?_|refine fJ hg hm (ah (aZ (ab:=⟨_,_,M⟩) rfl kM dM) (ah (aZ (ab:=⟨_,_,H⟩) rfl kH dH) (ah (ao rfl) (av)))) rfl ?_|rw [tO]|rw [e1]|refine dg hg rfl (by decide) hU ?_;cbv;rw [gd hg]);cbv))
     all_goals exact hB (((o++[l])++[[z]],EA)) _ _ ⟨h1,⟨aA,n1,n2⟩⟩ (bH (sl1 6 [[.J z]]) (jh rfl (by intro x hx;simp only [List.mem_singleton]at hx;subst hx;rfl) (by intro x hx;simp only [List.mem_singleton]at hx;subst hx;rfl)) (Wk.weak (wkG [some 8] zr8 ⟨⟨_,_,rfl,rfl,rfl,rfl,.inl ⟨sA 6,by rw [sA 6]at pA;exact pA⟩⟩,trivial⟩ (by decide) aD)))
theorem ja(xs:List ag)(gap room:Int)(wr:Bool)(hl:xs.length<=1048576):PC0 237 [.c (.view (vw ag.c xs)),ai gap,ai room,abl wr] (.t (.c (.view (vwA lnA (lns xs gap room wr))))):=pp (sj xs gap room wr hl) (FG _) (Ax _)
theorem ux(xs:List ag)(hl:xs.length<=1048576):PC0 285 [.c (.view (vw ag.c xs))] (.t (.c (.view (vw ak (xs.map hyp))))):=wx (ia xs hl) fun _=>rfl
theorem rz(xs:List ag)(hl:xs.length<=1048576):PC0 299 [.c (.view (vw ag.c xs))] (.t (.c (.view (vw ak (xs.map hyp))))):=wx (iT xs hl) fun _=>rfl
theorem qM(xs:List ag)(gap inner:Int)(hl:xs.length<=1048576):PC0 288 [.c (.view (vw ag.c xs)),ai gap,ai inner] (.t (.c (.view (vw ak (flx xs gap inner))))):=wx (qN xs gap inner hl) fun _=>rfl
theorem qd(xs:List ag)(gap inner:Int)(hl:xs.length<=1048576):PC0 296 [.c (.view (vw ag.c xs)),ai gap,ai inner] (.t (.c (.view (vw ak (flx xs gap inner))))):=wx (qe xs gap inner hl) fun _=>rfl
theorem kF(xs:List ag)(ln:List Int)(gap:Int)(hl:xs.length<=1048576)(hn:ln.length<=1048576):PC0 260 [.c (.view (vw ag.c xs)),.c (.view (vw ak ln)),ai gap] (.i (lou xs gap ln)):=by
 have hm:(lit xs ln).length<=1048576:=Nat.le_trans qD hn
 have c1:=gK xs ln hl hn
 have c2:=rz (lit xs ln) hm
 have c3:=gp (lit xs ln) ((lit xs ln).map hyp) gap hm (by simpa using hm)
 have hR:lou xs gap ln=wrap64 (hP (lit xs ln) ((lit xs ln).map hyp) gap):=rfl
 rw [hR]
 clear hR
 obtain⟨V,hV⟩:=nmE (vw ag.c xs)
 have hb:=lmV hV
 have iV:=imV hV
 have kV:=kmV (k:=9) hV fun _=>rfl
 have dV:=dmV hV
 obtain⟨W,hW⟩:=nmE (vw ak ln)
 have hc:=lmV hW
 have iW:=imV hW
 have kW:=kmV (k:=1) hW fun _=>rfl
 have dW:=dmV hW
 rw [<-hV,<-hW]at c1
 rw [<-hV,<-hW]
 obtain⟨M,hM⟩:=nmE (vw ag.c (lit xs ln));(try rw [<-hM]at c1);(try rw [<-hM]at c2);(try rw [<-hM]at c3)
 obtain⟨H,hH⟩:=nmE (vw ak ((lit xs ln).map hyp));(try rw [<-hH]at c2);(try rw [<-hH]at c3)
 obtain⟨OU,ha⟩:=nmE (wrap64 (hP (lit xs ln) ((lit xs ln).map hyp) gap));(try rw [<-ha]at c3);(try rw [<-ha]at⊢)
 refine ae (aJ f260) ay func260 fun g F hg hF=> ?_
 cbv
 repeat'((first|refine ad hg c1 ?_|refine ad hg c2 ?_|refine ad hg c3 ?_);cbv)
 exact aV hF rfl
theorem rG(xs:List ag)(gap room:Int)(wr:Bool)(hl:xs.length<=1048576):dc prog 212 [.c (.view (vw ag.c xs)),ai gap,ai room,abl wr] fun res hu=>res= .o 0/\hu=[⟨24,1,vwA lnA (lns xs gap room wr)⟩]:=by
 have cO:=i6 xs hl
 have cI:=fun ln hn=>kF xs ln gap hl hn
 obtain⟨R,hR⟩:=nmE (lns xs gap room wr)
 rw [<-hR]
 unfold lns at hR
 obtain⟨I,hI⟩:=nmE (ep xs);(try rw [<-hI]at cO);(try rw [<-hI]at hR)
 obtain⟨S,hS⟩:=nmE (vwA lnA R);(try rw [<-hS]at⊢)
 obtain⟨V,hV⟩:=nmE (vw ag.c xs)
 have hO:=lmV hV
 have iV:=imV hV
 have kV:=kmV (k:=9) hV fun _=>rfl
 have dV:=dmV hV
 rw [<-hV]at cO cI
 rw [<-hV]
 obtain⟨n,hn⟩:∃n:Int,n=(xs.length:Int):=⟨_,rfl⟩
 have hP:aX V=n:=by rw [hV,aQ,hn]
 obtain⟨one,hh⟩:=nmE ((!wr||(decide (room<0)|| !I)))
 rw [<-hh]at hR
 refine ae (aJ f212) ay func212 fun g F hg hF=> ?_
 have q0:g .q .lss (room) (0)=decide ((room)<(0)):=bh hg _ _
 cbv
 refine aY hg ay (by kernel_rfl) V (fun x=>lc (ag.c x)) xs hV hl (fun z(s:List (List Int)×LLA)=>[(0,.v V),(1,.i (gap)),(2,.i (room)),(3,.t (abl (wr))),(9,.o 0),(10,.i (z))]) (fun z(s:List (List Int)×LLA)=>[.rw ⟨24,1,s.2⟩]) (fun z(s:List (List Int)×LLA)=>s.2=vwA lnA s.1/\(s.1.flatten.length:Int)=z/\∀l∈s.1,l≠[]) (fun(s:List (List Int)×LLA) rest=>lnG xs gap room one s.1 (s.1.flatten.length:Int) rest) (R) ([],[]) (by rw [hR];rfl) ⟨rfl,rfl,by simp⟩ (Wk.weak (wkG [some 0] zr6 ⟨wqE rfl rfl,trivial⟩ (by decide) aD)) (fun z s B hz h0 hi he=> ?_) (fun z s x rest B z0 z1 z2 hx hy h0 hi hc e1 hB=> ?_)
 ·obtain⟨hd,E⟩:=s
  obtain⟨i1,i2,i3⟩:=hi
  dsimp only at i1 i2 i3 h0
  have pE:aC E=true:=by rw [i1];exact jm _
  obtain rfl:hd=R:=h0
  rw [hS,<-i1]at hF
  cbv;rw [he];cbv
  exact bR hF rfl pE
 ·obtain⟨hd,E⟩:=s
  obtain⟨i1,i2,i3⟩:=hi
  dsimp only at i1 i2 i3 h0
  have pE:aC E=true:=by rw [i1];exact jm _
  have hb:=tZ xs gap room one hd z
  have h1:lnG xs gap room one (lnS xs gap room one hd z) ((lnS xs gap room one hd z).flatten.length:Int) rest=R:=by
   rw [<-h0,i2]
   simp only [lnG]
   rw [hb.1,zqe,zqm]
   congr 1
   omega
  have n1:((lnS xs gap room one hd z).flatten.length:Int)=z+1:=by rw [hb.1,zqe,zqm];omega
  have n2:=hb.2 i3
  have hC:hd.length<=1048576:=by have:=jR hd i3;omega
  have hH:E.length<=1048576:=by rw [i1,bC];exact hC
  have hA:aX E=(hd.length:Int):=by rw [az,i1,bC]
  clear hb h0
  rcases List.eq_nil_or_concat hd with rfl|⟨o,l,rfl⟩
  ·have hE:E=[]:=i1
   subst hE
   rw [Aw]at h1 n1 n2
   have eL:g .ln ([]:LLA)=0:=by rw [bF hg];rfl
   have eK:g .w .sub .i64 0 1= -1:=by rw [bZ hg];exact wr1 (by omega) (by omega)
   have tK:g .q .geq (-1) 0=false:=by rw [iu hg];rfl
   cbv
   rw [hc]
   cbv
   (repeat'((first|rw [eL]|rw [eK]|rw [tK]);cbv))
   refine dg hg rfl (by decide) (by decide) ?_
   cbv
   (repeat'((first|rw [e1]|rw [gd hg]);cbv))
   exact hB (([[z]],[[.view [[.J z]]]])) _ _ ⟨h1,⟨rfl,n1,n2⟩⟩ (bH (sl1 1 [[.J z]]) (jh rfl (by intro x hx;simp only [List.mem_singleton]at hx;subst hx;rfl) (by intro x hx;simp only [List.mem_singleton]at hx;subst hx;rfl)) (Wk.weak (wkG [some 3] zr6 ⟨wqE rfl rfl,trivial⟩ (by decide) aD)))
  ·rw [List.concat_eq_append]at *
   have eL:g .ln E=(o.length:Int)+1:=by rw [bF hg,hA];simp
   have eK:g .w .sub .i64 ((o.length:Int)+1) 1=(o.length:Int):=by rw [bZ hg,show(o.length:Int)+1-1=o.length by omega];exact wr1 (by omega) (by simp at hC;omega)
   have tK:g .q .geq (o.length:Int) 0=true:=by rw [iu hg];exact zqu (by omega)
   have ht:(o.length:Int)<aX E:=by rw [hA,zqe,zqm];omega
   have hs:0<=(o.length:Int):=by omega
   have ha:E[(o.length:Int).toNat]? =some [.view (vw ak l)]:=by rw [i1,Int.toNat_natCast];exact gR (c:=lnA) (by simp)
   generalize (o.length:Int)+1=k1 at eL eK
   obtain⟨k,hk⟩:∃k:Int,k=(o.length:Int):=⟨_,rfl⟩
   rw [<-hk]at eK tK ht hs ha
   have hM:l.length+1<=1048576:=by have:=mM (ls:=o++[l]) (l:=l) (by simp);omega
   have hN:(l++[z]).length<=1048576:=by rw [zqe,zqm];exact hM
   have hm:=cI (l++[z]) hN
   rw [yh]at h1 n1 n2
   obtain⟨L,hL⟩:=nmE (vw ak l)
   have iL:=imV hL
   rw [<-hL]at ha
   have hJ:L.length<=1048576:=by rw [hL,aq];omega
   have kL:=kmV (k:=1) hL fun _=>rfl
   have aL:L++[[.J z]]=vw ak (l++[z]):=by rw [hL,bv];rfl
   obtain⟨L2,hv⟩:∃L2,L2=L++[[.J z]]:=⟨_,rfl⟩
   rw [<-hv]at aL
   rw [<-aL]at hm
   have hr:=kmV (k:=1) aL fun _=>rfl
   have hp:=dmV aL
   obtain⟨OU,hq⟩:=nmE (lou xs gap (l++[z]));(try rw [<-hq]at hm);(try rw [<-hq]at h1);(try rw [<-hq]at n1);(try rw [<-hq]at n2)
   have aS:E.set k.toNat [.view L2]=vwA lnA (o++[l++[z]]):=by
    rw [i1,hk,Int.toNat_natCast,nR,nR]
    have:=xN (vwA lnA o) (lnA l) (lnA (l++[z]))
    rw [bC]at this
    rw [<-this,aL];rfl
   have aA:E++[[.view [[.J z]]]]=vwA lnA ((o++[l])++[[z]]):=by rw [i1,nR lnA (o++[l])];rfl
   have tO:g .q .leq OU room=decide (OU<=room):=iy hg _ _
   have sS:=fun q=>xP (V:=L2) (q:=q) (j:=k.toNat) pE
   have sA:=fun q=>xQ (V:=[[.J z]]) (q:=q) pE
   have pS:aC (E.set k.toNat [.view L2])=true:=vE pE rfl
   obtain⟨ES,hG⟩:∃ES,ES=E.set k.toNat [.view L2]:=⟨_,rfl⟩
   obtain⟨EA,hD⟩:∃EA,EA=E++[[.view [[.J z]]]]:=⟨_,rfl⟩
   rw [<-hG]at aS sS pS
   rw [<-hD]at aA sA
   have pA:aC EA=true:=by rw [aA];exact jm _
   clear hL hq
   cbv
   rw [hc]
   cbv
   (repeat'((first|rw [eL]|rw [eK]|rw [tK]|refine goY hg hs ht fun j hj hQ=> ?_;cbv;refine⟨_,by rw [hj];exact ha,?_⟩|refine goN hg ⟨kL,(by show(0+L.length)*8<=_;omega),(by show 0+L.length<=_;omega)⟩ ?_;cbv;rw [gd hg];dsimp only [List.nil_append]|refine dg (t:=0) hg rfl (by decide) hJ ?_;cbv;rw [gd hg,<-hv]);cbv))
   by_cases hcnd:one=true\/OU<=room
   ·rw [if_pos hcnd]at h1 n1 n2
    cases wr
    case' true=>
     by_cases h0:room<0
     case' neg=>
      cases I
      case' true=>
       have hf:OU<=room:=hcnd.resolve_left (by rw [hh,zqt h0];decide)
       rw [zqu hf]at tO
    all_goals
     (try first|rw [zqu (by assumption)]at q0|rw [zqt (by assumption)]at q0)
     cbv
     (repeat'((first|refine fJ hg hm (ah (ao rfl) (ah (aZ (ab:=⟨_,_,L2⟩) rfl hr hp) (ah (ao rfl) (av)))) rfl ?_|rw [tO]|rw [q0]|rw [e1]|refine ad hg cO ?_|refine goY hg hs ht fun j2 hw hK=> ?_;cbv;refine goN hg ⟨_,by rw [hw];exact ha,rfl⟩ ?_;cbv;rw [mP hg,hw];dsimp only [AT.cells]);cbv))
     exact hB ((o++[l++[z]],ES)) _ _ ⟨h1,⟨aS,n1,n2⟩⟩ (bH (sl1 4 L2) (jh rfl hr hp) (Wk.weak (wkG [some 0] zr6 ⟨⟨_,_,rfl,rfl,rfl,rfl,.inl ⟨sS 4,by rw [sS 4]at pS;exact pS⟩⟩,trivial⟩ (by decide) aD)))
   ·rw [if_neg hcnd]at h1 n1 n2
    have hf:¬OU<=room:=fun h=>hcnd (.inr h)
    rw [zqt hf]at tO
    have ho:one=false:=by cases one<;>simp_all
    rw [hh]at ho
    simp only [Bool.or_eq_false_iff,Bool.not_eq_false',zqo]at ho
    obtain⟨w1,w2,w3⟩:=ho
    subst w1 w3
    rw [zqt w2]at q0
    cbv
    (repeat'((first|refine fJ hg hm (ah (ao rfl) (ah (aZ (ab:=⟨_,_,L2⟩) rfl hr hp) (ah (ao rfl) (av)))) rfl ?_|rw [tO]|rw [q0]|rw [e1]|refine ad hg cO ?_|refine dg hg rfl (by decide) hH ?_;cbv;rw [gd hg]);cbv))
    exact hB (((o++[l])++[[z]],EA)) _ _ ⟨h1,⟨aA,n1,n2⟩⟩ (bH (sl1 5 [[.J z]]) (jh rfl (by intro x hx;simp only [List.mem_singleton]at hx;subst hx;rfl) (by intro x hx;simp only [List.mem_singleton]at hx;subst hx;rfl)) (Wk.weak (wkG [some 7] zr6 ⟨⟨_,_,rfl,rfl,rfl,rfl,.inl ⟨sA 5,by rw [sA 5]at pA;exact pA⟩⟩,trivial⟩ (by decide) aD)))
end Go.Proofs.YtckchgoblpgpbaaGreat
