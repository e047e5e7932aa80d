/- The lines of items: the reference. -/
import Derived.Test.YtkicjdeddpihaaaGreatS4bk
set_option linter.unusedVariables false
set_option linter.unusedSimpArgs false
set_option maxHeartbeats 8000000
namespace Go.Proofs.YtkicjdeddpihaaaGreat
open Go.ChangeShapes Go.WideShapes Go.ChangeAt Go.RowKit Am Go.Proofs.Tryz
set_option maxRecDepth 100000
def Cr(xs:List af)(i:Int):Option af:=if 0<=i then xs[i.toNat]? else none
theorem Co(xs:List af)(ln:List Int):lit xs ln=ln.filterMap (Cr xs):=rfl
theorem Cq{xs:List af}{i:Int}{n:Int}(hn:n=(xs.length:Int)):(decide (0<=i)&&decide (i<=n-1))=true->∃x,xs[i.toNat]? =some x/\Cr xs i=some x/\0<=i:=fun h=>by
 simp only [zqs,zqp]at h
 have hx:=zqc (show i.toNat<xs.length by omega)
 exact⟨_,hx,by unfold Cr;rw [if_pos h.1,hx],h.1⟩
theorem zD{xs:List af}{i:Int}{n:Int}(hn:n=(xs.length:Int)):(decide (0<=i)&&decide (i<=n-1))=false->Cr xs i=none:=fun h=>by
 simp only [Bool.and_eq_false_iff,zqo]at h
 unfold Cr
 split
 ·exact zqz (by omega)
 ·rfl
theorem kv(xs:List af)(ln:List Int)(hl:xs.length<=1048576)(hn:ln.length<=1048576):da prog 156 [.c (.view (vw af.c xs)),.c (.view (vw aj ln))] fun res hf=>res= .o 0/\hf=[⟨99,9,vw af.c (lit xs ln)⟩]:=by
 obtain⟨R,hR⟩:=nmE (lit xs ln)
 rw [<-hR]
 rw [Co]at hR
 have hj:=fun{i:Int}{x:af}(h:xs[i.toNat]? =some x)=>ba (c:=af.c) h
 obtain⟨V,hV⟩:=nmE (vw af.c xs);(try rw [<-hV]at hj);(try rw [<-hV]at⊢)
 obtain⟨n,hd⟩:∃n:Int,n=(xs.length:Int):=⟨_,rfl⟩
 have hm:aN V=n:=by rw [hV,aO,hd]
 obtain⟨W,hW⟩:=nmE (vw aj ln)
 have ht:=lmV hW
 have iW:=imV hW
 have kW:=kmV (k:=1) hW fun _=>rfl
 have dW:=dmV hW
 rw [<-hW]
 have cI:=fun i=>de i 0 (n-1)
 refine ad (aM f156) ay func156 fun g F hg hF=> ?_
 have t4:g .ln V=n:=by rw [bz hg,hm]
 have e0:g .w .sub .i64 n 1=n-1:=by rw [dp hg];exact wr1 (by omega) (by omega)
 cbv
 refine aY hg ay (by kernel_rfl) W (fun x=>lc (aj x)) ln hW hn (fun z(s:List af×LLA)=>[(0,.v V),(5,.o 0),(8,.v W),(9,.i (g .ln W)),(10,.i (z))]) (fun z(s:List af×LLA)=>[.rw ⟨99,9,s.2⟩]) (fun z(s:List af×LLA)=>s.2=vw af.c s.1/\(s.1.length:Int)<=z) (fun(s:List af×LLA) rest=>s.1++rest.filterMap (Cr xs)) (R) ([],[]) (by rw [hR];rfl) ⟨rfl,Int.le_refl 0⟩ (Wk.weak (wkG [none] zr5 ⟨⟨_,rfl,rfl⟩,trivial⟩ (by decide) aG)) (fun z s B hz h0 hi he=> ?_) (fun z s x rest B z0 z1 z2 hx hy h0 hi hc e1 hB=> ?_)
 ·obtain⟨ha,E⟩:=s
  obtain⟨i1,i2⟩:=hi
  dsimp only at i1 i2 h0
  have pE:=pmV i1
  obtain rfl:ha=R:=by simpa using h0
  rw [<-i1]at hF
  cbv;rw [he];cbv
  exact bV hF rfl pE
 ·obtain⟨ha,E⟩:=s
  obtain⟨i1,i2⟩:=hi
  dsimp only at i1 i2 h0
  have hk:E.length<=1048576:=by rw [i1,ar];omega
  have pE:=pmV i1
  have cx:=cI x
  have h1:= @Cq xs x n hd
  have h2:= @zD xs x n hd
  obtain⟨b,hb⟩:=nmE ((decide (0<=x)&&decide (x<=n-1)))
  rw [<-hb]at h1 h2 cx
  clear hb
  generalize n-1=n1 at *
  cases b
  ·have h3:ha++rest.filterMap (Cr xs)=R:=by rw [<-h0,List.filterMap_cons,h2 rfl]
   cbv;rw [hc];cbv;refine goX hg _ z0 hy rfl ?_;cbv
   (repeat'((first|rw [t4]|rw [e0]|rw [e1]|refine ae hg cx ?_);cbv))
   exact hB ((ha,E)) _ _ ⟨h3,⟨i1,by dsimp only;omega⟩⟩ (Wk.weak (wkG [some _] zr5 ⟨wqE rfl pE,trivial⟩ (by decide) aG))
  ·obtain⟨⟨y0,y1,y2,y3,y4,y5,y6,y7,y8⟩,ho,hp,hq⟩:=h1 rfl
   have hr:=hj ho
   have h3:(ha++[⟨y0,y1,y2,y3,y4,y5,y6,y7,y8⟩])++rest.filterMap (Cr xs)=R:=by rw [<-h0,List.filterMap_cons,hp];simp
   have aE:E++[[.J y0,.J y1,.J y2,.J y3,.J y4,.J y5,.J y6,.B y7,.B y8]]=vw af.c (ha++[⟨y0,y1,y2,y3,y4,y5,y6,y7,y8⟩]):=by rw [i1,br];rfl
   obtain⟨E2,hh⟩:∃E2,E2=E++[[.J y0,.J y1,.J y2,.J y3,.J y4,.J y5,.J y6,.B y7,.B y8]]:=⟨_,rfl⟩
   rw [<-hh]at aE
   have hs:=pmV aE
   have nl:((ha++[(⟨y0,y1,y2,y3,y4,y5,y6,y7,y8⟩:af)]).length:Int)<=z+1:=by simp;omega
   cbv;rw [hc];cbv;refine goX hg _ z0 hy rfl ?_;cbv
   (repeat'((first|rw [t4]|rw [e0]|rw [e1]|refine ae hg cx ?_|refine goX hg _ hq hr rfl ?_|refine dz hg rfl (by decide) hk ?_;cbv;rw [gW hg,<-hh]);cbv))
   exact hB ((ha++[⟨y0,y1,y2,y3,y4,y5,y6,y7,y8⟩],E2)) _ _ ⟨h3,⟨aE,nl⟩⟩ (Wk.weak (wkG [some 2] zr5 ⟨wqE rfl hs,trivial⟩ (by decide) aG))
theorem pI(xs:List af)(ln:List Int)(hl:xs.length<=1048576)(hn:ln.length<=1048576):da prog 130 [.c (.view (vw af.c xs)),.c (.view (vw aj ln))] fun res hf=>res= .o 0/\hf=[⟨99,9,vw af.c (lit xs ln)⟩]:=by
 obtain⟨R,hR⟩:=nmE (lit xs ln)
 rw [<-hR]
 rw [Co]at hR
 have hj:=fun{i:Int}{x:af}(h:xs[i.toNat]? =some x)=>ba (c:=af.c) h
 obtain⟨V,hV⟩:=nmE (vw af.c xs);(try rw [<-hV]at hj);(try rw [<-hV]at⊢)
 obtain⟨n,hd⟩:∃n:Int,n=(xs.length:Int):=⟨_,rfl⟩
 have hm:aN V=n:=by rw [hV,aO,hd]
 obtain⟨W,hW⟩:=nmE (vw aj ln)
 have ht:=lmV hW
 have iW:=imV hW
 have kW:=kmV (k:=1) hW fun _=>rfl
 have dW:=dmV hW
 rw [<-hW]
 have cI:=fun i=>bH i 0 (n-1)
 refine ad (aM f130) ay func130 fun g F hg hF=> ?_
 have t4:g .ln V=n:=by rw [bz hg,hm]
 have e0:g .w .sub .i64 n 1=n-1:=by rw [dp hg];exact wr1 (by omega) (by omega)
 cbv
 refine aY hg ay (by kernel_rfl) W (fun x=>lc (aj x)) ln hW hn (fun z(s:List af×LLA)=>[(0,.v V),(1,.v W),(5,.o 0),(6,.i (z))]) (fun z(s:List af×LLA)=>[.rw ⟨99,9,s.2⟩]) (fun z(s:List af×LLA)=>s.2=vw af.c s.1/\(s.1.length:Int)<=z) (fun(s:List af×LLA) rest=>s.1++rest.filterMap (Cr xs)) (R) ([],[]) (by rw [hR];rfl) ⟨rfl,Int.le_refl 0⟩ (Wk.weak (wkG [some 0] zr4 ⟨wqE rfl rfl,trivial⟩ (by decide) aG)) (fun z s B hz h0 hi he=> ?_) (fun z s x rest B z0 z1 z2 hx hy h0 hi hc e1 hB=> ?_)
 ·obtain⟨ha,E⟩:=s
  obtain⟨i1,i2⟩:=hi
  dsimp only at i1 i2 h0
  have pE:=pmV i1
  obtain rfl:ha=R:=by simpa using h0
  rw [<-i1]at hF
  cbv;rw [he];cbv
  exact bV hF rfl pE
 ·obtain⟨ha,E⟩:=s
  obtain⟨i1,i2⟩:=hi
  dsimp only at i1 i2 h0
  have hk:E.length<=1048576:=by rw [i1,ar];omega
  have pE:=pmV i1
  have cx:=cI x
  have h1:= @Cq xs x n hd
  have h2:= @zD xs x n hd
  obtain⟨b,hb⟩:=nmE ((decide (0<=x)&&decide (x<=n-1)))
  rw [<-hb]at h1 h2 cx
  clear hb
  generalize n-1=n1 at *
  cases b
  ·have h3:ha++rest.filterMap (Cr xs)=R:=by rw [<-h0,List.filterMap_cons,h2 rfl]
   cbv;rw [hc];cbv;refine goX hg _ z0 hy rfl ?_;cbv
   (repeat'((first|rw [t4]|rw [e0]|rw [e1]|refine ae hg cx ?_);cbv))
   exact hB ((ha,E)) _ _ ⟨h3,⟨i1,by dsimp only;omega⟩⟩ (Wk.weak (wkG [some _] zr4 ⟨wqE rfl pE,trivial⟩ (by decide) aG))
  ·obtain⟨⟨y0,y1,y2,y3,y4,y5,y6,y7,y8⟩,ho,hp,hq⟩:=h1 rfl
   have hr:=hj ho
   have h3:(ha++[⟨y0,y1,y2,y3,y4,y5,y6,y7,y8⟩])++rest.filterMap (Cr xs)=R:=by rw [<-h0,List.filterMap_cons,hp];simp
   have aE:E++[[.J y0,.J y1,.J y2,.J y3,.J y4,.J y5,.J y6,.B y7,.B y8]]=vw af.c (ha++[⟨y0,y1,y2,y3,y4,y5,y6,y7,y8⟩]):=by rw [i1,br];rfl
   obtain⟨E2,hh⟩:∃E2,E2=E++[[.J y0,.J y1,.J y2,.J y3,.J y4,.J y5,.J y6,.B y7,.B y8]]:=⟨_,rfl⟩
   rw [<-hh]at aE
   have hs:=pmV aE
   have nl:((ha++[(⟨y0,y1,y2,y3,y4,y5,y6,y7,y8⟩:af)]).length:Int)<=z+1:=by simp;omega
   cbv;rw [hc];cbv;refine goX hg _ z0 hy rfl ?_;cbv
   (repeat'((first|rw [t4]|rw [e0]|rw [e1]|refine ae hg cx ?_|refine goX hg _ (by omega) hy rfl ?_|refine goX hg _ hq hr rfl ?_|refine dz hg rfl (by decide) hk ?_;cbv;rw [gW hg,<-hh]);cbv))
   exact hB ((ha++[⟨y0,y1,y2,y3,y4,y5,y6,y7,y8⟩],E2)) _ _ ⟨h3,⟨aE,nl⟩⟩ (Wk.weak (wkG [some 2] zr4 ⟨wqE rfl hs,trivial⟩ (by decide) aG))
theorem ib(xs:List af)(ln:List Int)(hl:xs.length<=1048576)(hn:ln.length<=1048576):PC0 156 [.c (.view (vw af.c xs)),.c (.view (vw aj ln))] (.t (.c (.view (vw af.c (lit xs ln))))):=xE (kv xs ln hl hn) fun _=>rfl
theorem gZ(xs:List af)(ln:List Int)(hl:xs.length<=1048576)(hn:ln.length<=1048576):PC0 130 [.c (.view (vw af.c xs)),.c (.view (vw aj ln))] (.t (.c (.view (vw af.c (lit xs ln))))):=xE (pI xs ln hl hn) fun _=>rfl
def lnA(l:List Int):List AC:=[.view (vw aj l)]
theorem H5(ls:List (List Int)):∀y∈vwA lnA ls,y.length=1:=Ak (c:=lnA) (k:=1) fun _=>rfl
theorem Cl(ls:List (List Int)):∀y∈vwA lnA ls,y.all dat=true:=ow (c:=lnA) fun _=>rfl
theorem jC(ls:List (List Int)):aB (vwA lnA ls)=true:=kN (c:=lnA) (fun _=>rfl) ls
theorem ov{α:Type}(c:α->List AC)(xs:List α)(x:α):vwA c (xs++[x])=vwA c xs++[c x]:=by simp [vwA]
theorem zd{E V:LLA}{q:Nat}(hp:aB E=true):E++[[AC.view V]]=(E++[[AC.own q]]).map (·.map (AC.seal (sl1 q V))):=by
 rw [List.map_append,<-(bD hp).1]
 simp [AC.seal,sl1]
theorem zc{E V:LLA}{q j:Nat}(hp:aB E=true):E.set j [AC.view V]=(E.set j [AC.own q]).map (·.map (AC.seal (sl1 q V))):=by
 rw [List.map_set,<-(bD hp).1]
 simp [AC.seal,sl1]
theorem Ck(xs:List af)(gap room:Int)(one:Bool)(i:Int):lnS xs gap room one [] i=[[i]]:=rfl
theorem zC(xs:List af)(gap room:Int)(one:Bool)(o:List (List Int))(l:List Int)(i:Int):lnS xs gap room one (o++[l]) i=if one=true\/lou xs gap (l++[i])<=room then o++[l++[i]]else(o++[l])++[[i]]:=by
 unfold lnS
 rw [List.getLast?_append,List.getLast?_singleton]
 simp only [Option.some_or,List.dropLast_concat]
theorem za{α:Type}(o:List α)(x y:α):(o++[x]).set o.length y=o++[y]:=by simp
theorem tt(xs:List af)(gap room:Int)(wr:Bool)(hl:xs.length<=1048576):da prog 86 [.c (.view (vw af.c xs)),ai gap,ai room,abl wr] fun res hu=>res= .o 0/\hu=[⟨28,1,vwA lnA (lns xs gap room wr)⟩]:=by
 have cO:=jp xs hl
 have cI:=fun ln hn=>kv xs ln hl hn
 have cH:=fun(ys:List af) hy=>ix ys hy
 have cU:=fun(ys:List af) hy=>fo ys (ys.map hyp) gap hy (by rw [zql];exact hy)
 have cC:=fun l hl=>iJ l hl
 obtain⟨R,hR⟩:=nmE (lns xs gap room wr)
 rw [<-hR]
 unfold lns at hR
 obtain⟨I,hI⟩:=nmE (ep xs);(try rw [<-hI]at cO);(try rw [<-hI]at hR)
 obtain⟨S,hS⟩:=nmE (vwA lnA R);(try rw [<-hS]at⊢)
 obtain⟨V,hV⟩:=nmE (vw af.c xs)
 have h2:=lmV hV
 have iV:=imV hV
 have kV:=kmV (k:=9) hV fun _=>rfl
 have dV:=dmV hV
 rw [<-hV]at cO cI
 rw [<-hV]
 obtain⟨n,hn⟩:∃n:Int,n=(xs.length:Int):=⟨_,rfl⟩
 have h3:aN V=n:=by rw [hV,aO,hn]
 obtain⟨one,hf⟩:=nmE ((!wr||(decide (room<0)|| !I)))
 rw [<-hf]at hR
 refine ad (aM f86) ay func86 fun g F hg hF=> ?_
 have q0:g .q .lss (room) (0)=decide ((room)<(0)):=bg hg _ _
 cases wr
 case' false=>
  have ha:one=true:=hf
  cbv
 case' true=>
  by_cases h0:room<0
  case' pos=>
   have ha:one=true:=by rw [hf,zqu h0];rfl
   (first|rw [zqu h0]at q0|rw [zqt h0]at q0|rw [zqu (Classical.not_not.2 h0)]at q0|rw [zqt (Classical.not_not.2 h0)]at q0)
   cbv
   (repeat'(rw [q0];cbv))
  case' neg=>
   (first|rw [zqu h0]at q0|rw [zqt h0]at q0|rw [zqu (Classical.not_not.2 h0)]at q0|rw [zqt (Classical.not_not.2 h0)]at q0)
   cases I
   case' false=>
    have ha:one=true:=by rw [hf];simp
    cbv
    (repeat'((first|rw [q0]|refine ae hg cO ?_);cbv))
   case' true=>
    have ha:one=false:=by rw [hf,zqt h0];rfl
    cbv
    (repeat'((first|rw [q0]|refine ae hg cO ?_);cbv))
 all_goals
  refine aY hg ay (by kernel_rfl) V (fun x=>lc (af.c x)) xs hV hl (fun z(s:List (List Int)×LLA)=>[(0,.v V),(1,.i (gap)),(2,.i (room)),(9,.o 0),(10,.t (abl (one))),(26,.v V),(27,.i (g .ln V)),(28,.i (z))]) (fun z(s:List (List Int)×LLA)=>[.rw ⟨28,1,s.2⟩]) (fun z(s:List (List Int)×LLA)=>s.2=vwA lnA s.1/\(s.1.flatten.length:Int)=z/\∀l∈s.1,l≠[]) (fun(s:List (List Int)×LLA) rest=>lnG xs gap room one s.1 (s.1.flatten.length:Int) rest) (R) ([],[]) (by rw [hR];rfl) ⟨rfl,rfl,by simp⟩ (Wk.weak (wkG [none] ⟨rfl,rfl,rfl,rfl,by rw [ha];rfl,rfl,rfl,rfl,trivial⟩ ⟨⟨_,rfl,rfl⟩,trivial⟩ (by decide) aG)) (fun z s B hz h0 hi he=> ?_) (fun z s x rest B z0 z1 z2 hx hy h0 hi hc e1 hB=> ?_)
  ·obtain⟨hh,E⟩:=s
   obtain⟨i1,i2,i3⟩:=hi
   dsimp only at i1 i2 i3 h0
   have pE:aB E=true:=by rw [i1];exact jC _
   obtain rfl:hh=R:=h0
   rw [hS,<-i1]at hF
   cbv;rw [he];cbv
   exact bV hF rfl pE
  ·obtain⟨hh,E⟩:=s
   obtain⟨i1,i2,i3⟩:=hi
   dsimp only at i1 i2 i3 h0
   have pE:aB E=true:=by rw [i1];exact jC _
   have hd:=vc xs gap room one hh z
   have h1:lnG xs gap room one (lnS xs gap room one hh z) ((lnS xs gap room one hh z).flatten.length:Int) rest=R:=by
    rw [<-h0,i2]
    simp only [lnG]
    rw [hd.1,zqe,zqm]
    congr 1
    omega
   have n1:((lnS xs gap room one hh z).flatten.length:Int)=z+1:=by rw [hd.1,zqe,zqm];omega
   have n2:=hd.2 i3
   have hK:hh.length<=1048576:=by have:=j8 hh i3;omega
   have hT:E.length<=1048576:=by rw [i1,bB];exact hK
   have hD:aN E=(hh.length:Int):=by rw [ah,i1,bB]
   clear hd h0
   rcases List.eq_nil_or_concat hh with rfl|⟨o,l,rfl⟩
   ·have hE:E=[]:=i1
    subst hE
    rw [Ck]at h1 n1 n2
    have eL:g .ln ([]:LLA)=0:=by rw [bz hg];rfl
    have eK:g .w .sub .i64 0 1= -1:=by rw [dp hg];exact wr1 (by omega) (by omega)
    have tK:g .q .geq (-1) 0=false:=by rw [iO hg];rfl
    cbv
    rw [hc]
    cbv
    (repeat'((first|rw [eL]|rw [eK]|rw [tK]);cbv))
    refine dz hg rfl (by decide) (by decide) ?_
    cbv
    rw [gW hg,e1]
    exact hB (([[z]],[[.view [[.J z]]]])) _ _ ⟨h1,⟨rfl,n1,n2⟩⟩ (bG (sl1 1 [[.J z]]) (jy rfl (by intro x hx;simp only [List.mem_singleton]at hx;subst hx;rfl) (by intro x hx;simp only [List.mem_singleton]at hx;subst hx;rfl)) (Wk.weak (wkG [some 3] zr8 ⟨wqE rfl rfl,trivial⟩ (by decide) aG)))
   ·rw [List.concat_eq_append]at *
    have eL:g .ln E=(o.length:Int)+1:=by rw [bz hg,hD];simp
    have eK:g .w .sub .i64 ((o.length:Int)+1) 1=(o.length:Int):=by rw [dp hg,show(o.length:Int)+1-1=o.length by omega];exact wr1 (by omega) (by simp at hK;omega)
    have tK:g .q .geq (o.length:Int) 0=true:=by rw [iO hg];exact zqu (by omega)
    have ht:(o.length:Int)<aN E:=by rw [hD,zqe,zqm];omega
    have hs:0<=(o.length:Int):=by omega
    have hb:E[(o.length:Int).toNat]? =some [.view (vw aj l)]:=by rw [i1,Int.toNat_natCast];exact gO (c:=lnA) (by simp)
    generalize (o.length:Int)+1=k1 at eL eK
    obtain⟨k,hk⟩:∃k:Int,k=(o.length:Int):=⟨_,rfl⟩
    rw [<-hk]at eK tK ht hs hb
    have hX:l.length+1<=1048576:=by have:=mV (ls:=o++[l]) (l:=l) (by simp);omega
    have hv:=cC l (by omega)
    have hJ:(l++[z]).length<=1048576:=by rw [zqe,zqm];exact hX
    have hr:=cI (l++[z]) hJ
    have hG:(lit xs (l++[z])).length<=1048576:=Nat.le_trans rC hJ
    have hp:=cH _ hG
    have hm:=cU _ hG
    have hN:lou xs gap (l++[z])=wrap64 (iv (lit xs (l++[z])) ((lit xs (l++[z])).map hyp) gap):=rfl
    rw [zC,hN]at h1 n1 n2
    obtain⟨L,hL⟩:=nmE (vw aj l)
    have iL:=imV hL
    rw [<-hL]at hv hb
    have hU:L.length<=1048576:=by rw [hL,ar];omega
    have aL:L++[[.J z]]=vw aj (l++[z]):=by rw [hL,br];rfl
    obtain⟨L2,hA⟩:∃L2,L2=L++[[.J z]]:=⟨_,rfl⟩
    rw [<-hA]at aL
    rw [<-aL]at hr
    have hO:=kmV (k:=1) aL fun _=>rfl
    have hw:=dmV aL
    obtain⟨OU,hq⟩:=nmE (wrap64 (iv (lit xs (l++[z])) ((lit xs (l++[z])).map hyp) gap));(try rw [<-hq]at hm);(try rw [<-hq]at h1);(try rw [<-hq]at n1);(try rw [<-hq]at n2)
    obtain⟨H,hH⟩:=nmE (vw aj ((lit xs (l++[z])).map hyp))
    have hY:H.length=((lit xs (l++[z])).map hyp).length:=by rw [hH,ar]
    have iH:=imV hH
    have kH:=kmV (k:=1) hH fun _=>rfl
    have dH:=dmV hH
    rw [<-hH]at hp hm
    obtain⟨M,hM⟩:=nmE (vw af.c (lit xs (l++[z])))
    have hZ:M.length=(lit xs (l++[z])).length:=by rw [hM,ar]
    have iM:=imV hM
    have kM:=kmV (k:=9) hM fun _=>rfl
    have dM:=dmV hM
    rw [<-hM]at hr hp hm
    have aS:E.set k.toNat [.view L2]=vwA lnA (o++[l++[z]]):=by
     rw [i1,hk,Int.toNat_natCast,ov,ov]
     have:=za (vwA lnA o) (lnA l) (lnA (l++[z]))
     rw [bB]at this
     rw [<-this,aL];rfl
    have aA:E++[[.view [[.J z]]]]=vwA lnA ((o++[l])++[[z]]):=by rw [i1,ov lnA (o++[l])];rfl
    have tO:g .q .leq OU room=decide (OU<=room):=iR hg _ _
    have sS:=fun q=>zc (V:=L2) (q:=q) (j:=k.toNat) pE
    have sA:=fun q=>zd (V:=[[.J z]]) (q:=q) pE
    have pS:aB (E.set k.toNat [.view L2])=true:=eo pE rfl
    obtain⟨ES,hQ⟩:∃ES,ES=E.set k.toNat [.view L2]:=⟨_,rfl⟩
    obtain⟨EA,hP⟩:∃EA,EA=E++[[.view [[.J z]]]]:=⟨_,rfl⟩
    rw [<-hQ]at aS sS pS
    rw [<-hP]at aA sA
    have pA:aB EA=true:=by rw [aA];exact jC _
    clear hL hN
    cbv
    rw [hc]
    cbv
    (repeat'((first|rw [eL]|rw [eK]|rw [tK]|refine goY hg hs ht fun j hj h4=> ?_;cbv;refine⟨_,by rw [hj];exact hb,?_⟩|refine bK hg hv (bA rfl) iL ?_|refine dz hg rfl (by decide) hU ?_;cbv;rw [gW hg,<-hA]);cbv))
    repeat'(refine bK hg hr (aq (aw rfl) (aq (bf (ab:=⟨_,_,L2⟩) rfl hO hw) aC)) iM ?_;cbv)
    by_cases hcnd:one=true\/OU<=room
    ·rw [if_pos hcnd]at h1 n1 n2
     by_cases ho:OU<=room
     all_goals
      first|rw [zqu ho]at tO|rw [zqt ho]at tO
      (try exact absurd (show true=false from((hcnd.resolve_right (by assumption)).symm.trans (by assumption))) Bool.noConfusion)
      all_goals(subst ha;try cbv)
      all_goals(repeat'((first|refine bK hg hp (aq (bf (ab:=⟨_,_,M⟩) rfl kM dM) aC) iH ?_|refine ij hg hm (aq (bf (ab:=⟨_,_,M⟩) rfl kM dM) (aq (bf (ab:=⟨_,_,H⟩) rfl kH dH) (aq (aw rfl) (aC)))) rfl ?_|rw [tO]|rw [e1]|refine goY hg hs ht fun j2 hC hW=> ?_;cbv;refine goN hg ⟨_,by rw [hC];exact hb,rfl⟩ ?_;cbv;rw [jr hg,hC];dsimp only [AT.cells]);cbv))
      all_goals exact hB ((o++[l++[z]],ES)) _ _ ⟨h1,⟨aS,n1,n2⟩⟩ (bG (sl1 3 L2) (jy rfl hO hw) (Wk.weak (wkG [some 0] zr8 ⟨⟨_,_,rfl,rfl,rfl,rfl,.inl ⟨sS 3,by rw [sS 3]at pS;exact pS⟩⟩,trivial⟩ (by decide) aG)))
    ·rw [if_neg hcnd]at h1 n1 n2
     have ho:¬OU<=room:=fun h=>hcnd (.inr h)
     rw [zqt ho]at tO
     (try exact(hcnd (.inl (by assumption))).elim)
     all_goals(subst ha;try cbv)
     all_goals(repeat'((first|refine bK hg hp (aq (bf (ab:=⟨_,_,M⟩) rfl kM dM) aC) iH ?_|refine ij hg hm (aq (bf (ab:=⟨_,_,M⟩) rfl kM dM) (aq (bf (ab:=⟨_,_,H⟩) rfl kH dH) (aq (aw rfl) (aC)))) rfl ?_|rw [tO]|rw [e1]|refine dz hg rfl (by decide) hT ?_;cbv;rw [gW hg]);cbv))
     all_goals exact hB (((o++[l])++[[z]],EA)) _ _ ⟨h1,⟨aA,n1,n2⟩⟩ (bG (sl1 6 [[.J z]]) (jy rfl (by intro x hx;simp only [List.mem_singleton]at hx;subst hx;rfl) (by intro x hx;simp only [List.mem_singleton]at hx;subst hx;rfl)) (Wk.weak (wkG [some 8] zr8 ⟨⟨_,_,rfl,rfl,rfl,rfl,.inl ⟨sA 6,by rw [sA 6]at pA;exact pA⟩⟩,trivial⟩ (by decide) aG)))
theorem jn(xs:List af)(gap room:Int)(wr:Bool)(hl:xs.length<=1048576):PC0 86 [.c (.view (vw af.c xs)),ai gap,ai room,abl wr] (.t (.c (.view (vwA lnA (lns xs gap room wr))))):=uV (tt xs gap room wr hl) (H5 _) (Cl _)
theorem vB(xs:List af)(hl:xs.length<=1048576):PC0 158 [.c (.view (vw af.c xs))] (.t (.c (.view (vw aj (xs.map hyp))))):=xE (ix xs hl) fun _=>rfl
theorem sx(xs:List af)(hl:xs.length<=1048576):PC0 257 [.c (.view (vw af.c xs))] (.t (.c (.view (vw aj (xs.map hyp))))):=xE (jf xs hl) fun _=>rfl
theorem rQ(xs:List af)(gap inner:Int)(hl:xs.length<=1048576):PC0 161 [.c (.view (vw af.c xs)),ai gap,ai inner] (.t (.c (.view (vw aj (flx xs gap inner))))):=xE (rR xs gap inner hl) fun _=>rfl
theorem qL(xs:List af)(gap inner:Int)(hl:xs.length<=1048576):PC0 129 [.c (.view (vw af.c xs)),ai gap,ai inner] (.t (.c (.view (vw aj (flx xs gap inner))))):=xE (qM xs gap inner hl) fun _=>rfl
theorem k8(xs:List af)(ln:List Int)(gap:Int)(hl:xs.length<=1048576)(hn:ln.length<=1048576):PC0 200 [.c (.view (vw af.c xs)),.c (.view (vw aj ln)),ai gap] (.i (lou xs gap ln)):=by
 have hm:(lit xs ln).length<=1048576:=Nat.le_trans rC hn
 have c1:=gZ xs ln hl hn
 have c2:=sx (lit xs ln) hm
 have c3:=gv (lit xs ln) ((lit xs ln).map hyp) gap hm (by simpa using hm)
 have hR:lou xs gap ln=wrap64 (iv (lit xs ln) ((lit xs ln).map hyp) gap):=rfl
 rw [hR]
 clear hR
 obtain⟨V,hV⟩:=nmE (vw af.c xs)
 have hb:=lmV hV
 have iV:=imV hV
 have kV:=kmV (k:=9) hV fun _=>rfl
 have dV:=dmV hV
 obtain⟨W,hW⟩:=nmE (vw aj ln)
 have hc:=lmV hW
 have iW:=imV hW
 have kW:=kmV (k:=1) hW fun _=>rfl
 have dW:=dmV hW
 rw [<-hV,<-hW]at c1
 rw [<-hV,<-hW]
 obtain⟨M,hM⟩:=nmE (vw af.c (lit xs ln));(try rw [<-hM]at c1);(try rw [<-hM]at c2);(try rw [<-hM]at c3)
 obtain⟨H,hH⟩:=nmE (vw aj ((lit xs ln).map hyp));(try rw [<-hH]at c2);(try rw [<-hH]at c3)
 obtain⟨OU,ha⟩:=nmE (wrap64 (iv (lit xs ln) ((lit xs ln).map hyp) gap));(try rw [<-ha]at c3);(try rw [<-ha]at⊢)
 refine ad (aM f200) ay func200 fun g F hg hF=> ?_
 cbv
 repeat'((first|refine ae hg c1 ?_|refine ae hg c2 ?_|refine ae hg c3 ?_);cbv)
 exact aV hF rfl
theorem sH(xs:List af)(gap room:Int)(wr:Bool)(hl:xs.length<=1048576):da prog 128 [.c (.view (vw af.c xs)),ai gap,ai room,abl wr] fun res hu=>res= .o 0/\hu=[⟨28,1,vwA lnA (lns xs gap room wr)⟩]:=by
 have cO:=ji xs hl
 have cI:=fun ln hn=>k8 xs ln gap hl hn
 obtain⟨R,hR⟩:=nmE (lns xs gap room wr)
 rw [<-hR]
 unfold lns at hR
 obtain⟨I,hI⟩:=nmE (ep xs);(try rw [<-hI]at cO);(try rw [<-hI]at hR)
 obtain⟨S,hS⟩:=nmE (vwA lnA R);(try rw [<-hS]at⊢)
 obtain⟨V,hV⟩:=nmE (vw af.c xs)
 have hO:=lmV hV
 have iV:=imV hV
 have kV:=kmV (k:=9) hV fun _=>rfl
 have dV:=dmV hV
 rw [<-hV]at cO cI
 rw [<-hV]
 obtain⟨n,hn⟩:∃n:Int,n=(xs.length:Int):=⟨_,rfl⟩
 have hP:aN V=n:=by rw [hV,aO,hn]
 obtain⟨one,hh⟩:=nmE ((!wr||(decide (room<0)|| !I)))
 rw [<-hh]at hR
 refine ad (aM f128) ay func128 fun g F hg hF=> ?_
 have q0:g .q .lss (room) (0)=decide ((room)<(0)):=bg hg _ _
 cbv
 refine aY hg ay (by kernel_rfl) V (fun x=>lc (af.c x)) xs hV hl (fun z(s:List (List Int)×LLA)=>[(0,.v V),(1,.i (gap)),(2,.i (room)),(3,.t (abl (wr))),(9,.o 0),(10,.i (z))]) (fun z(s:List (List Int)×LLA)=>[.rw ⟨28,1,s.2⟩]) (fun z(s:List (List Int)×LLA)=>s.2=vwA lnA s.1/\(s.1.flatten.length:Int)=z/\∀l∈s.1,l≠[]) (fun(s:List (List Int)×LLA) rest=>lnG xs gap room one s.1 (s.1.flatten.length:Int) rest) (R) ([],[]) (by rw [hR];rfl) ⟨rfl,rfl,by simp⟩ (Wk.weak (wkG [some 0] zr6 ⟨wqE rfl rfl,trivial⟩ (by decide) aG)) (fun z s B hz h0 hi he=> ?_) (fun z s x rest B z0 z1 z2 hx hy h0 hi hc e1 hB=> ?_)
 ·obtain⟨hd,E⟩:=s
  obtain⟨i1,i2,i3⟩:=hi
  dsimp only at i1 i2 i3 h0
  have pE:aB E=true:=by rw [i1];exact jC _
  obtain rfl:hd=R:=h0
  rw [hS,<-i1]at hF
  cbv;rw [he];cbv
  exact bV hF rfl pE
 ·obtain⟨hd,E⟩:=s
  obtain⟨i1,i2,i3⟩:=hi
  dsimp only at i1 i2 i3 h0
  have pE:aB E=true:=by rw [i1];exact jC _
  have hb:=vc xs gap room one hd z
  have h1:lnG xs gap room one (lnS xs gap room one hd z) ((lnS xs gap room one hd z).flatten.length:Int) rest=R:=by
   rw [<-h0,i2]
   simp only [lnG]
   rw [hb.1,zqe,zqm]
   congr 1
   omega
  have n1:((lnS xs gap room one hd z).flatten.length:Int)=z+1:=by rw [hb.1,zqe,zqm];omega
  have n2:=hb.2 i3
  have hC:hd.length<=1048576:=by have:=j8 hd i3;omega
  have hH:E.length<=1048576:=by rw [i1,bB];exact hC
  have hA:aN E=(hd.length:Int):=by rw [ah,i1,bB]
  clear hb h0
  rcases List.eq_nil_or_concat hd with rfl|⟨o,l,rfl⟩
  ·have hE:E=[]:=i1
   subst hE
   rw [Ck]at h1 n1 n2
   have eL:g .ln ([]:LLA)=0:=by rw [bz hg];rfl
   have eK:g .w .sub .i64 0 1= -1:=by rw [dp hg];exact wr1 (by omega) (by omega)
   have tK:g .q .geq (-1) 0=false:=by rw [iO hg];rfl
   cbv
   rw [hc]
   cbv
   (repeat'((first|rw [eL]|rw [eK]|rw [tK]);cbv))
   refine dz hg rfl (by decide) (by decide) ?_
   cbv
   (repeat'((first|rw [e1]|rw [gW hg]);cbv))
   exact hB (([[z]],[[.view [[.J z]]]])) _ _ ⟨h1,⟨rfl,n1,n2⟩⟩ (bG (sl1 1 [[.J z]]) (jy rfl (by intro x hx;simp only [List.mem_singleton]at hx;subst hx;rfl) (by intro x hx;simp only [List.mem_singleton]at hx;subst hx;rfl)) (Wk.weak (wkG [some 3] zr6 ⟨wqE rfl rfl,trivial⟩ (by decide) aG)))
  ·rw [List.concat_eq_append]at *
   have eL:g .ln E=(o.length:Int)+1:=by rw [bz hg,hA];simp
   have eK:g .w .sub .i64 ((o.length:Int)+1) 1=(o.length:Int):=by rw [dp hg,show(o.length:Int)+1-1=o.length by omega];exact wr1 (by omega) (by simp at hC;omega)
   have tK:g .q .geq (o.length:Int) 0=true:=by rw [iO hg];exact zqu (by omega)
   have ht:(o.length:Int)<aN E:=by rw [hA,zqe,zqm];omega
   have hs:0<=(o.length:Int):=by omega
   have ha:E[(o.length:Int).toNat]? =some [.view (vw aj l)]:=by rw [i1,Int.toNat_natCast];exact gO (c:=lnA) (by simp)
   generalize (o.length:Int)+1=k1 at eL eK
   obtain⟨k,hk⟩:∃k:Int,k=(o.length:Int):=⟨_,rfl⟩
   rw [<-hk]at eK tK ht hs ha
   have hM:l.length+1<=1048576:=by have:=mV (ls:=o++[l]) (l:=l) (by simp);omega
   have hN:(l++[z]).length<=1048576:=by rw [zqe,zqm];exact hM
   have hm:=cI (l++[z]) hN
   rw [zC]at h1 n1 n2
   obtain⟨L,hL⟩:=nmE (vw aj l)
   have iL:=imV hL
   rw [<-hL]at ha
   have hJ:L.length<=1048576:=by rw [hL,ar];omega
   have kL:=kmV (k:=1) hL fun _=>rfl
   have aL:L++[[.J z]]=vw aj (l++[z]):=by rw [hL,br];rfl
   obtain⟨L2,hv⟩:∃L2,L2=L++[[.J z]]:=⟨_,rfl⟩
   rw [<-hv]at aL
   rw [<-aL]at hm
   have hr:=kmV (k:=1) aL fun _=>rfl
   have hp:=dmV aL
   obtain⟨OU,hq⟩:=nmE (lou xs gap (l++[z]));(try rw [<-hq]at hm);(try rw [<-hq]at h1);(try rw [<-hq]at n1);(try rw [<-hq]at n2)
   have aS:E.set k.toNat [.view L2]=vwA lnA (o++[l++[z]]):=by
    rw [i1,hk,Int.toNat_natCast,ov,ov]
    have:=za (vwA lnA o) (lnA l) (lnA (l++[z]))
    rw [bB]at this
    rw [<-this,aL];rfl
   have aA:E++[[.view [[.J z]]]]=vwA lnA ((o++[l])++[[z]]):=by rw [i1,ov lnA (o++[l])];rfl
   have tO:g .q .leq OU room=decide (OU<=room):=iR hg _ _
   have sS:=fun q=>zc (V:=L2) (q:=q) (j:=k.toNat) pE
   have sA:=fun q=>zd (V:=[[.J z]]) (q:=q) pE
   have pS:aB (E.set k.toNat [.view L2])=true:=eo pE rfl
   obtain⟨ES,hG⟩:∃ES,ES=E.set k.toNat [.view L2]:=⟨_,rfl⟩
   obtain⟨EA,hD⟩:∃EA,EA=E++[[.view [[.J z]]]]:=⟨_,rfl⟩
   rw [<-hG]at aS sS pS
   rw [<-hD]at aA sA
   have pA:aB EA=true:=by rw [aA];exact jC _
   clear hL hq
   cbv
   rw [hc]
   cbv
   (repeat'((first|rw [eL]|rw [eK]|rw [tK]|refine goY hg hs ht fun j hj hQ=> ?_;cbv;refine⟨_,by rw [hj];exact ha,?_⟩|refine goN hg ⟨kL,(by show(0+L.length)*8<=_;omega),(by show 0+L.length<=_;omega)⟩ ?_;cbv;rw [gW hg];dsimp only [List.nil_append]|refine dz (t:=0) hg rfl (by decide) hJ ?_;cbv;rw [gW hg,<-hv]);cbv))
   by_cases hcnd:one=true\/OU<=room
   ·rw [if_pos hcnd]at h1 n1 n2
    cases wr
    case' true=>
     by_cases h0:room<0
     case' neg=>
      cases I
      case' true=>
       have hf:OU<=room:=hcnd.resolve_left (by rw [hh,zqt h0];decide)
       rw [zqu hf]at tO
    all_goals
     (try first|rw [zqu (by assumption)]at q0|rw [zqt (by assumption)]at q0)
     cbv
     (repeat'((first|refine ij hg hm (aq (aw rfl) (aq (bf (ab:=⟨_,_,L2⟩) rfl hr hp) (aq (aw rfl) (aC)))) rfl ?_|rw [tO]|rw [q0]|rw [e1]|refine ae hg cO ?_|refine goY hg hs ht fun j2 hw hK=> ?_;cbv;refine goN hg ⟨_,by rw [hw];exact ha,rfl⟩ ?_;cbv;rw [jr hg,hw];dsimp only [AT.cells]);cbv))
     exact hB ((o++[l++[z]],ES)) _ _ ⟨h1,⟨aS,n1,n2⟩⟩ (bG (sl1 4 L2) (jy rfl hr hp) (Wk.weak (wkG [some 0] zr6 ⟨⟨_,_,rfl,rfl,rfl,rfl,.inl ⟨sS 4,by rw [sS 4]at pS;exact pS⟩⟩,trivial⟩ (by decide) aG)))
   ·rw [if_neg hcnd]at h1 n1 n2
    have hf:¬OU<=room:=fun h=>hcnd (.inr h)
    rw [zqt hf]at tO
    have ho:one=false:=by cases one<;>simp_all
    rw [hh]at ho
    simp only [Bool.or_eq_false_iff,Bool.not_eq_false',zqo]at ho
    obtain⟨w1,w2,w3⟩:=ho
    subst w1 w3
    rw [zqt w2]at q0
    cbv
    (repeat'((first|refine ij hg hm (aq (aw rfl) (aq (bf (ab:=⟨_,_,L2⟩) rfl hr hp) (aq (aw rfl) (aC)))) rfl ?_|rw [tO]|rw [q0]|rw [e1]|refine ae hg cO ?_|refine dz hg rfl (by decide) hH ?_;cbv;rw [gW hg]);cbv))
    exact hB (((o++[l])++[[z]],EA)) _ _ ⟨h1,⟨aA,n1,n2⟩⟩ (bG (sl1 5 [[.J z]]) (jy rfl (by intro x hx;simp only [List.mem_singleton]at hx;subst hx;rfl) (by intro x hx;simp only [List.mem_singleton]at hx;subst hx;rfl)) (Wk.weak (wkG [some 7] zr6 ⟨⟨_,_,rfl,rfl,rfl,rfl,.inl ⟨sA 5,by rw [sA 5]at pA;exact pA⟩⟩,trivial⟩ (by decide) aG)))
end Go.Proofs.YtkicjdeddpihaaaGreat
