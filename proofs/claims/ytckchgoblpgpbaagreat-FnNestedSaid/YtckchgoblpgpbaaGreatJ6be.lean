/- A child laid out, its base: the program, by what its box is. -/
import Derived.Test.YtckchgoblpgpbaaGreatJ6bd
set_option linter.unusedVariables false
set_option linter.unusedSimpArgs false
set_option maxHeartbeats 8000000
namespace Go.Proofs.YtckchgoblpgpbaaGreat
open Go.ChangeShapes Go.WideShapes Go.ChangeAt Go.RowKit Am Go.Proofs.Tryz
set_option maxRecDepth 100000
def zh(xs:List aj)(i:Int):Option aj:=if 0<=i then xs[i.toNat]? else none
theorem Ay(xs:List aj)(ln:List Int):lit xs ln=ln.filterMap (zh xs):=rfl
theorem Az{xs:List aj}{i:Int}{n:Int}(hn:n=(xs.length:Int)):(decide (0<=i)&&decide (i<=n-1))=true->∃x,xs[i.toNat]? =some x/\zh xs i=some x/\0<=i:=fun h=>by
 simp only [zqs,zqp]at h
 have hx:=zqc (show i.toNat<xs.length by omega)
 exact⟨_,hx,by unfold zh;rw [if_pos h.1,hx],h.1⟩
theorem xZ{xs:List aj}{i:Int}{n:Int}(hn:n=(xs.length:Int)):(decide (0<=i)&&decide (i<=n-1))=false->zh xs i=none:=fun h=>by
 simp only [Bool.and_eq_false_iff,zqo]at h
 unfold zh
 split
 ·exact zqz (by omega)
 ·rfl
theorem gZ(xs:List aj)(ln:List Int)(hl:xs.length<=1048576)(hn:ln.length<=1048576):cj prog 184 [.c (.view (vw aj.c xs)),.c (.view (vw ak ln))] fun res hf=>res= .o 0/\hf=[⟨237,9,vw aj.c (lit xs ln)⟩]:=by
 obtain⟨R,hR⟩:=nmE (lit xs ln)
 rw [<-hR]
 rw [Ay]at hR
 have hj:=fun{i:Int}{x:aj}(h:xs[i.toNat]? =some x)=>bv (c:=aj.c) h
 obtain⟨V,hV⟩:=nmE (vw aj.c xs);(try rw [<-hV]at hj);(try rw [<-hV]at⊢)
 obtain⟨n,hd⟩:∃n:Int,n=(xs.length:Int):=⟨_,rfl⟩
 have hm:aC V=n:=by rw [hV,bg,hd]
 obtain⟨W,hW⟩:=nmE (vw ak ln)
 have ht:=lmV hW
 have iW:=imV hW
 have kW:=kmV (k:=1) hW fun _=>rfl
 have dW:=dmV hW
 rw [<-hW]
 have cI:=fun i=>bI i 0 (n-1)
 refine ae (aM f184) aB func184 fun g F hg hF=> ?_
 have t4:g .ln V=n:=by rw [bO hg,hm]
 have e0:g .w .sub .i64 n 1=n-1:=by rw [dP hg];exact wr1 (by omega) (by omega)
 cbv
 refine aU hg aB (by kernel_rfl) W (fun x=>lc (ak x)) ln hW hn (fun z(s:List aj×LLA)=>[(0,.v V),(5,.o 0),(8,.v W),(9,.i (g .ln W)),(10,.i (z))]) (fun z(s:List aj×LLA)=>[.rw ⟨237,9,s.2⟩]) (fun z(s:List aj×LLA)=>s.2=vw aj.c s.1/\(s.1.length:Int)<=z) (fun(s:List aj×LLA) rest=>s.1++rest.filterMap (zh xs)) (R) ([],[]) (by rw [hR];rfl) ⟨rfl,Int.le_refl 0⟩ (Wk.weak (wkG [none] zr5 ⟨⟨_,rfl,rfl⟩,trivial⟩ (by decide) aw)) (fun z s B hz h0 hi he=> ?_) (fun z s x rest B z0 z1 z2 hx hy h0 hi hc e1 hB=> ?_)
 ·obtain⟨ha,E⟩:=s
  obtain⟨i1,i2⟩:=hi
  dsimp only at i1 i2 h0
  have pE:=pmV i1
  obtain rfl:ha=R:=by simpa using h0
  rw [<-i1]at hF
  cbv;rw [he];cbv
  exact db hF rfl pE
 ·obtain⟨ha,E⟩:=s
  obtain⟨i1,i2⟩:=hi
  dsimp only at i1 i2 h0
  have hk:E.length<=1048576:=by rw [i1,ao];omega
  have pE:=pmV i1
  have cx:=cI x
  have h1:= @Az xs x n hd
  have h2:= @xZ xs x n hd
  obtain⟨b,hb⟩:=nmE ((decide (0<=x)&&decide (x<=n-1)))
  rw [<-hb]at h1 h2 cx
  clear hb
  generalize n-1=n1 at *
  cases b
  ·have h3:ha++rest.filterMap (zh xs)=R:=by rw [<-h0,List.filterMap_cons,h2 rfl]
   cbv;rw [hc];cbv;refine goX hg _ z0 hy rfl ?_;cbv
   (repeat'((first|rw [t4]|rw [e0]|rw [e1]|refine ad hg cx ?_);cbv))
   exact hB ((ha,E)) _ _ ⟨h3,⟨i1,by dsimp only;omega⟩⟩ (Wk.weak (wkG [some _] zr5 ⟨wqE rfl pE,trivial⟩ (by decide) aw))
  ·obtain⟨⟨y0,y1,y2,y3,y4,y5,y6,y7,y8⟩,ho,hp,hq⟩:=h1 rfl
   have hr:=hj ho
   have h3:(ha++[⟨y0,y1,y2,y3,y4,y5,y6,y7,y8⟩])++rest.filterMap (zh xs)=R:=by rw [<-h0,List.filterMap_cons,hp];simp
   have aE:E++[[.J y0,.J y1,.J y2,.J y3,.J y4,.J y5,.J y6,.B y7,.B y8]]=vw aj.c (ha++[⟨y0,y1,y2,y3,y4,y5,y6,y7,y8⟩]):=by rw [i1,dy];rfl
   obtain⟨E2,hh⟩:∃E2,E2=E++[[.J y0,.J y1,.J y2,.J y3,.J y4,.J y5,.J y6,.B y7,.B y8]]:=⟨_,rfl⟩
   rw [<-hh]at aE
   have hs:=pmV aE
   have nl:((ha++[(⟨y0,y1,y2,y3,y4,y5,y6,y7,y8⟩:aj)]).length:Int)<=z+1:=by simp;omega
   cbv;rw [hc];cbv;refine goX hg _ z0 hy rfl ?_;cbv
   (repeat'((first|rw [t4]|rw [e0]|rw [e1]|refine ad hg cx ?_|refine goX hg _ hq hr rfl ?_|refine fR hg rfl (by decide) hk ?_;cbv;rw [ig hg,<-hh]);cbv))
   exact hB ((ha++[⟨y0,y1,y2,y3,y4,y5,y6,y7,y8⟩],E2)) _ _ ⟨h3,⟨aE,nl⟩⟩ (Wk.weak (wkG [some 2] zr5 ⟨wqE rfl hs,trivial⟩ (by decide) aw))
theorem fq(xs:List aj)(ln:List Int)(hl:xs.length<=1048576)(hn:ln.length<=1048576):PC0 184 [.c (.view (vw aj.c xs)),.c (.view (vw ak ln))] (.t (.c (.view (vw aj.c (lit xs ln))))):=AR (gZ xs ln hl hn) fun _=>rfl
def lnA(l:List Int):List AC:=[.view (vw ak l)]
theorem DI(ls:List (List Int)):∀y∈vwA lnA ls,y.length=1:=Dw (c:=lnA) (k:=1) fun _=>rfl
theorem Ax(ls:List (List Int)):∀y∈vwA lnA ls,y.all dat=true:=zS (c:=lnA) fun _=>rfl
theorem mV(ls:List (List Int)):aO (vwA lnA ls)=true:=vr (c:=lnA) (fun _=>rfl) ls
theorem rP{α:Type}(c:α->List AC)(xs:List α)(x:α):vwA c (xs++[x])=vwA c xs++[c x]:=by simp [vwA]
theorem xM{E V:LLA}{q:Nat}(hp:aO E=true):E++[[AC.view V]]=(E++[[AC.own q]]).map (·.map (AC.seal (sl1 q V))):=by
 rw [List.map_append,<-(ce hp).1]
 simp [AC.seal,sl1]
theorem xL{E V:LLA}{q j:Nat}(hp:aO E=true):E.set j [AC.view V]=(E.set j [AC.own q]).map (·.map (AC.seal (sl1 q V))):=by
 rw [List.map_set,<-(ce hp).1]
 simp [AC.seal,sl1]
theorem Aw(xs:List aj)(gap room:Int)(one:Bool)(i:Int):lnS xs gap room one [] i=[[i]]:=rfl
theorem xY(xs:List aj)(gap room:Int)(one:Bool)(o:List (List Int))(l:List Int)(i:Int):lnS xs gap room one (o++[l]) i=if one=true\/lou xs gap (l++[i])<=room then o++[l++[i]]else(o++[l])++[[i]]:=by
 unfold lnS
 rw [List.getLast?_append,List.getLast?_singleton]
 simp only [Option.some_or,List.dropLast_concat]
theorem xK{α:Type}(o:List α)(x y:α):(o++[x]).set o.length y=o++[y]:=by simp
theorem og(xs:List aj)(gap room:Int)(wr:Bool)(hl:xs.length<=1048576):cj prog 237 [.c (.view (vw aj.c xs)),ai gap,ai room,abl wr] fun res hu=>res= .o 0/\hu=[⟨24,1,vwA lnA (lns xs gap room wr)⟩]:=by
 have cO:=gg xs hl
 have cI:=fun ln hn=>gZ xs ln hl hn
 have cH:=fun(ys:List aj) hy=>fF ys hy
 have cU:=fun(ys:List aj) hy=>dN ys (ys.map hyp) gap hy (by rw [zql];exact hy)
 have cC:=fun l hl=>fQ l hl
 obtain⟨R,hR⟩:=nmE (lns xs gap room wr)
 rw [<-hR]
 unfold lns at hR
 obtain⟨I,hI⟩:=nmE (gl xs);(try rw [<-hI]at cO);(try rw [<-hI]at hR)
 obtain⟨S,hS⟩:=nmE (vwA lnA R);(try rw [<-hS]at⊢)
 obtain⟨V,hV⟩:=nmE (vw aj.c xs)
 have h2:=lmV hV
 have iV:=imV hV
 have kV:=kmV (k:=9) hV fun _=>rfl
 have dV:=dmV hV
 rw [<-hV]at cO cI
 rw [<-hV]
 obtain⟨n,hn⟩:∃n:Int,n=(xs.length:Int):=⟨_,rfl⟩
 have h3:aC V=n:=by rw [hV,bg,hn]
 obtain⟨one,hf⟩:=nmE ((!wr||(decide (room<0)|| !I)))
 rw [<-hf]at hR
 refine ae (aM f237) aB func237 fun g F hg hF=> ?_
 have q0:g .q .lss (room) (0)=decide ((room)<(0)):=bF hg _ _
 cases wr
 case' false=>
  have ha:one=true:=hf
  cbv
 case' true=>
  by_cases h0:room<0
  case' pos=>
   have ha:one=true:=by rw [hf,zqu h0];rfl
   (first|rw [zqu h0]at q0|rw [zqt h0]at q0|rw [zqu (Classical.not_not.2 h0)]at q0|rw [zqt (Classical.not_not.2 h0)]at q0)
   cbv
   (repeat'(rw [q0];cbv))
  case' neg=>
   (first|rw [zqu h0]at q0|rw [zqt h0]at q0|rw [zqu (Classical.not_not.2 h0)]at q0|rw [zqt (Classical.not_not.2 h0)]at q0)
   cases I
   case' false=>
    have ha:one=true:=by rw [hf];simp
    cbv
    (repeat'((first|rw [q0]|refine ad hg cO ?_);cbv))
   case' true=>
    have ha:one=false:=by rw [hf,zqt h0];rfl
    cbv
    (repeat'((first|rw [q0]|refine ad hg cO ?_);cbv))
 all_goals
  refine aU hg aB (by kernel_rfl) V (fun x=>lc (aj.c x)) xs hV hl (fun z(s:List (List Int)×LLA)=>[(0,.v V),(1,.i (gap)),(2,.i (room)),(9,.o 0),(10,.t (abl (one))),(26,.v V),(27,.i (g .ln V)),(28,.i (z))]) (fun z(s:List (List Int)×LLA)=>[.rw ⟨24,1,s.2⟩]) (fun z(s:List (List Int)×LLA)=>s.2=vwA lnA s.1/\(s.1.flatten.length:Int)=z/\∀l∈s.1,l≠[]) (fun(s:List (List Int)×LLA) rest=>lnG xs gap room one s.1 (s.1.flatten.length:Int) rest) (R) ([],[]) (by rw [hR];rfl) ⟨rfl,rfl,by simp⟩ (Wk.weak (wkG [none] ⟨rfl,rfl,rfl,rfl,by rw [ha];rfl,rfl,rfl,rfl,trivial⟩ ⟨⟨_,rfl,rfl⟩,trivial⟩ (by decide) aw)) (fun z s B hz h0 hi he=> ?_) (fun z s x rest B z0 z1 z2 hx hy h0 hi hc e1 hB=> ?_)
  ·obtain⟨hh,E⟩:=s
   obtain⟨i1,i2,i3⟩:=hi
   dsimp only at i1 i2 i3 h0
   have pE:aO E=true:=by rw [i1];exact mV _
   obtain rfl:hh=R:=h0
   rw [hS,<-i1]at hF
   cbv;rw [he];cbv
   exact db hF rfl pE
  ·obtain⟨hh,E⟩:=s
   obtain⟨i1,i2,i3⟩:=hi
   dsimp only at i1 i2 i3 h0
   have pE:aO E=true:=by rw [i1];exact mV _
   have hd:=tn xs gap room one hh z
   have h1:lnG xs gap room one (lnS xs gap room one hh z) ((lnS xs gap room one hh z).flatten.length:Int) rest=R:=by
    rw [<-h0,i2]
    simp only [lnG]
    rw [hd.1,zqe,zqm]
    congr 1
    omega
   have n1:((lnS xs gap room one hh z).flatten.length:Int)=z+1:=by rw [hd.1,zqe,zqm];omega
   have n2:=hd.2 i3
   have hK:hh.length<=1048576:=by have:=jN hh i3;omega
   have hT:E.length<=1048576:=by rw [i1,bi];exact hK
   have hD:aC E=(hh.length:Int):=by rw [ar,i1,bi]
   clear hd h0
   rcases List.eq_nil_or_concat hh with rfl|⟨o,l,rfl⟩
   ·have hE:E=[]:=i1
    subst hE
    rw [Aw]at h1 n1 n2
    have eL:g .ln ([]:LLA)=0:=by rw [bO hg];rfl
    have eK:g .w .sub .i64 0 1= -1:=by rw [dP hg];exact wr1 (by omega) (by omega)
    have tK:g .q .geq (-1) 0=false:=by rw [iP hg];rfl
    cbv
    rw [hc]
    cbv
    (repeat'((first|rw [eL]|rw [eK]|rw [tK]);cbv))
    refine fR hg rfl (by decide) (by decide) ?_
    cbv
    rw [ig hg,e1]
    exact hB (([[z]],[[.view [[.J z]]]])) _ _ ⟨h1,⟨rfl,n1,n2⟩⟩ (bS (sl1 1 [[.J z]]) (kP rfl (by intro x hx;simp only [List.mem_singleton]at hx;subst hx;rfl) (by intro x hx;simp only [List.mem_singleton]at hx;subst hx;rfl)) (Wk.weak (wkG [some 3] zr8 ⟨wqE rfl rfl,trivial⟩ (by decide) aw)))
   ·rw [List.concat_eq_append]at *
    have eL:g .ln E=(o.length:Int)+1:=by rw [bO hg,hD];simp
    have eK:g .w .sub .i64 ((o.length:Int)+1) 1=(o.length:Int):=by rw [dP hg,show(o.length:Int)+1-1=o.length by omega];exact wr1 (by omega) (by simp at hK;omega)
    have tK:g .q .geq (o.length:Int) 0=true:=by rw [iP hg];exact zqu (by omega)
    have ht:(o.length:Int)<aC E:=by rw [hD,zqe,zqm];omega
    have hs:0<=(o.length:Int):=by omega
    have hb:E[(o.length:Int).toNat]? =some [.view (vw ak l)]:=by rw [i1,Int.toNat_natCast];exact fy (c:=lnA) (by simp)
    generalize (o.length:Int)+1=k1 at eL eK
    obtain⟨k,hk⟩:∃k:Int,k=(o.length:Int):=⟨_,rfl⟩
    rw [<-hk]at eK tK ht hs hb
    have hX:l.length+1<=1048576:=by have:=mY (ls:=o++[l]) (l:=l) (by simp);omega
    have hv:=cC l (by omega)
    have hJ:(l++[z]).length<=1048576:=by rw [zqe,zqm];exact hX
    have hr:=cI (l++[z]) hJ
    have hG:(lit xs (l++[z])).length<=1048576:=Nat.le_trans tt hJ
    have hp:=cH _ hG
    have hm:=cU _ hG
    have hN:lou xs gap (l++[z])=wrap64 (ji (lit xs (l++[z])) ((lit xs (l++[z])).map hyp) gap):=rfl
    rw [xY,hN]at h1 n1 n2
    obtain⟨L,hL⟩:=nmE (vw ak l)
    have iL:=imV hL
    rw [<-hL]at hv hb
    have hU:L.length<=1048576:=by rw [hL,ao];omega
    have aL:L++[[.J z]]=vw ak (l++[z]):=by rw [hL,dy];rfl
    obtain⟨L2,hA⟩:∃L2,L2=L++[[.J z]]:=⟨_,rfl⟩
    rw [<-hA]at aL
    rw [<-aL]at hr
    have hO:=kmV (k:=1) aL fun _=>rfl
    have hw:=dmV aL
    obtain⟨OU,hq⟩:=nmE (wrap64 (ji (lit xs (l++[z])) ((lit xs (l++[z])).map hyp) gap));(try rw [<-hq]at hm);(try rw [<-hq]at h1);(try rw [<-hq]at n1);(try rw [<-hq]at n2)
    obtain⟨H,hH⟩:=nmE (vw ak ((lit xs (l++[z])).map hyp))
    have hY:H.length=((lit xs (l++[z])).map hyp).length:=by rw [hH,ao]
    have iH:=imV hH
    have kH:=kmV (k:=1) hH fun _=>rfl
    have dH:=dmV hH
    rw [<-hH]at hp hm
    obtain⟨M,hM⟩:=nmE (vw aj.c (lit xs (l++[z])))
    have hZ:M.length=(lit xs (l++[z])).length:=by rw [hM,ao]
    have iM:=imV hM
    have kM:=kmV (k:=9) hM fun _=>rfl
    have dM:=dmV hM
    rw [<-hM]at hr hp hm
    have aS:E.set k.toNat [.view L2]=vwA lnA (o++[l++[z]]):=by
     rw [i1,hk,Int.toNat_natCast,rP,rP]
     have:=xK (vwA lnA o) (lnA l) (lnA (l++[z]))
     rw [bi]at this
     rw [<-this,aL];rfl
    have aA:E++[[.view [[.J z]]]]=vwA lnA ((o++[l])++[[z]]):=by rw [i1,rP lnA (o++[l])];rfl
    have tO:g .q .leq OU room=decide (OU<=room):=iO hg _ _
    have sS:=fun q=>xL (V:=L2) (q:=q) (j:=k.toNat) pE
    have sA:=fun q=>xM (V:=[[.J z]]) (q:=q) pE
    have pS:aO (E.set k.toNat [.view L2])=true:=qY pE rfl
    obtain⟨ES,hQ⟩:∃ES,ES=E.set k.toNat [.view L2]:=⟨_,rfl⟩
    obtain⟨EA,hP⟩:∃EA,EA=E++[[.view [[.J z]]]]:=⟨_,rfl⟩
    rw [<-hQ]at aS sS pS
    rw [<-hP]at aA sA
    have pA:aO EA=true:=by rw [aA];exact mV _
    clear hL hN
    cbv
    rw [hc]
    cbv
    (repeat'((first|rw [eL]|rw [eK]|rw [tK]|refine goY hg hs ht fun j hj h4=> ?_;cbv;refine⟨_,by rw [hj];exact hb,?_⟩|refine bQ hg hv (bK rfl) iL ?_|refine fR hg rfl (by decide) hU ?_;cbv;rw [ig hg,<-hA]);cbv))
    repeat'(refine bQ hg hr (ay (be rfl) (ay (bC (ab:=⟨_,_,L2⟩) rfl hO hw) aP)) iM ?_;cbv)
    by_cases hcnd:one=true\/OU<=room
    ·rw [if_pos hcnd]at h1 n1 n2
     by_cases ho:OU<=room
     all_goals
      first|rw [zqu ho]at tO|rw [zqt ho]at tO
      (try exact absurd (show true=false from((hcnd.resolve_right (by assumption)).symm.trans (by assumption))) Bool.noConfusion)
      all_goals(subst ha;try cbv)
      all_goals(repeat'((first|refine bQ hg hp (ay (bC (ab:=⟨_,_,M⟩) rfl kM dM) aP) iH ?_|refine uW hg hm (ay (bC (ab:=⟨_,_,M⟩) rfl kM dM) (ay (bC (ab:=⟨_,_,H⟩) rfl kH dH) (ay (be rfl) (aP)))) rfl ?_|rw [tO]|rw [e1]|refine goY hg hs ht fun j2 hC hW=> ?_;cbv;refine goN hg ⟨_,by rw [hC];exact hb,rfl⟩ ?_;cbv;rw [qI hg,hC];dsimp only [AT.cells]);cbv))
      all_goals exact hB ((o++[l++[z]],ES)) _ _ ⟨h1,⟨aS,n1,n2⟩⟩ (bS (sl1 3 L2) (kP rfl hO hw) (Wk.weak (wkG [some 0] zr8 ⟨⟨_,_,rfl,rfl,rfl,rfl,.inl ⟨sS 3,by rw [sS 3]at pS;exact pS⟩⟩,trivial⟩ (by decide) aw)))
    ·rw [if_neg hcnd]at h1 n1 n2
     have ho:¬OU<=room:=fun h=>hcnd (.inr h)
     rw [zqt ho]at tO
     (try exact(hcnd (.inl (by assumption))).elim)
     all_goals(subst ha;try cbv)
     all_goals(repeat'((first|refine bQ hg hp (ay (bC (ab:=⟨_,_,M⟩) rfl kM dM) aP) iH ?_|refine uW hg hm (ay (bC (ab:=⟨_,_,M⟩) rfl kM dM) (ay (bC (ab:=⟨_,_,H⟩) rfl kH dH) (ay (be rfl) (aP)))) rfl ?_|rw [tO]|rw [e1]|refine fR hg rfl (by decide) hT ?_;cbv;rw [ig hg]);cbv))
     all_goals exact hB (((o++[l])++[[z]],EA)) _ _ ⟨h1,⟨aA,n1,n2⟩⟩ (bS (sl1 6 [[.J z]]) (kP rfl (by intro x hx;simp only [List.mem_singleton]at hx;subst hx;rfl) (by intro x hx;simp only [List.mem_singleton]at hx;subst hx;rfl)) (Wk.weak (wkG [some 8] zr8 ⟨⟨_,_,rfl,rfl,rfl,rfl,.inl ⟨sA 6,by rw [sA 6]at pA;exact pA⟩⟩,trivial⟩ (by decide) aw)))
theorem gd(xs:List aj)(gap room:Int)(wr:Bool)(hl:xs.length<=1048576):PC0 237 [.c (.view (vw aj.c xs)),ai gap,ai room,abl wr] (.t (.c (.view (vwA lnA (lns xs gap room wr))))):=fB (og xs gap room wr hl) (DI _) (Ax _)
theorem qe(xs:List aj)(hl:xs.length<=1048576):PC0 285 [.c (.view (vw aj.c xs))] (.t (.c (.view (vw ak (xs.map hyp))))):=AR (fF xs hl) fun _=>rfl
theorem nj(xs:List aj)(gap inner:Int)(hl:xs.length<=1048576):PC0 288 [.c (.view (vw aj.c xs)),ai gap,ai inner] (.t (.c (.view (vw ak (flx xs gap inner))))):=AR (nk xs gap inner hl) fun _=>rfl
theorem lS(xs:List aj)(gap room:Int)(wr:Bool)(hl:xs.length<=1048576):PC0 236 [.c (.view (vw aj.c xs)),ai gap,ai room,abl wr] (.i (lng xs gap room wr)):=by
 have cL:=gd xs gap room wr hl
 have hb:=fun l hn=>fq xs l hl hn
 have hd:=fun l hl=>p6 (xs:=xs) (gap:=gap) (room:=room) (wr:=wr) (l:=l) hl
 have hh:=p7 xs gap room wr
 obtain⟨R,hR⟩:=nmE (lng xs gap room wr)
 rw [<-hR]
 unfold lng at hR
 obtain⟨ls,hf⟩:=nmE (lns xs gap room wr)
 rw [<-hf]at cL hR hd hh
 obtain⟨V,hV⟩:=nmE (vw aj.c xs)
 have hp:=lmV hV
 have iV:=imV hV
 have kV:=kmV (k:=9) hV fun _=>rfl
 have dV:=dmV hV
 rw [<-hV]at cL hb
 rw [<-hV]
 obtain⟨W,hW⟩:=nmE (vwA lnA ls);(try rw [<-hW]at cL)
 refine ae (aM f236) aB func236 fun g F hg hF=> ?_
 cbv
 repeat'(refine ad hg cL ?_;cbv)
 refine aU hg aB (by kernel_rfl) W (lnA) ls hW (by omega) (fun z(s:Int)=>[(0,.v V),(1,.i (gap)),(9,.i (s)),(17,.v W),(18,.i (g .ln W)),(19,.i (z))]) (fun z(s:Int)=>[]) (fun z(s:Int)=>True) (fun(s:Int) rest=>rest.foldl (fun m l=>mx2 m (lou xs gap l)) s) (R) (0:Int) hR.symm trivial (Wk.weak (wkG [] zr6 trivial (by decide) aw)) (fun z s B hz h0 hi he=> ?_) (fun z s x rest B z0 z1 z2 hx hy h0 hi hc e1 hB=> ?_)
 ·cbv;rw [he];cbv
  exact bj hF h0
 ·have hk:x∈ls:=zqd hx
  have hq:=hd x hk
  have cI:=hb x (by omega)
  have hm:(lit xs x).length<=1048576:=Nat.le_trans tt (by omega)
  have cH:=qe (lit xs x) hm
  have cO:=dN (lit xs x) ((lit xs x).map hyp) gap hm (by rw [zql];exact hm)
  have hj:lou xs gap x=wrap64 (ji (lit xs x) ((lit xs x).map hyp) gap):=rfl
  rw [List.foldl_cons]at h0
  rw [<-hj]at cO
  obtain⟨OU,ha⟩:=nmE (lou xs gap x);(try rw [<-ha]at cO);(try rw [<-ha]at h0)
  obtain⟨M,hM⟩:=nmE (vw aj.c (lit xs x));(try rw [<-hM]at cI);(try rw [<-hM]at cH);(try rw [<-hM]at cO)
  obtain⟨H,hH⟩:=nmE (vw ak ((lit xs x).map hyp));(try rw [<-hH]at cH);(try rw [<-hH]at cO)
  obtain⟨L,hL⟩:=nmE (vw ak x)
  rw [<-hL]at cI
  have ho:W[z.toNat]? =some [.view L]:=by rw [hL];exact hy
  have eM:g .mx s OU=mx2 s OU:=by rw [zq hg];rfl
  cbv
  rw [hc]
  cbv
  refine goX hg _ z0 ho rfl ?_
  cbv
  (repeat'((first|rw [eM]|rw [e1]|refine ad hg cI ?_|refine ad hg cH ?_|refine ad hg cO ?_);cbv))
  exact hB ((mx2 s OU)) _ _ ⟨h0,trivial⟩ (Wk.weak (wkG [] zr6 trivial (by decide) aw))
theorem lV(xs:List aj)(gap room:Int)(wr:Bool)(inner:Int)(hl:xs.length<=1048576):cj prog 238 [.c (.view (vw aj.c xs)),ai gap,ai room,abl wr,ai inner] fun res hd=>res= .o 0/\hd=[⟨3,1,vw ak (lsz xs gap room wr inner)⟩]:=by
 have cL:=gd xs gap room wr hl
 have hh:=fun l hn=>fq xs l hl hn
 have hj:=fun l hl=>p6 (xs:=xs) (gap:=gap) (room:=room) (wr:=wr) (l:=l) hl
 have hp:=p7 xs gap room wr
 have hk:=wD xs gap room wr inner
 obtain⟨R,hR⟩:=nmE (lsz xs gap room wr inner)
 rw [<-hR]at hk⊢
 unfold lsz at hR
 obtain⟨ls,ho⟩:=nmE (lns xs gap room wr)
 rw [<-ho]at cL hR hj hp
 obtain⟨V,hV⟩:=nmE (vw aj.c xs)
 have hu:=lmV hV
 have iV:=imV hV
 have kV:=kmV (k:=9) hV fun _=>rfl
 have dV:=dmV hV
 rw [<-hV]at cL hh
 rw [<-hV]
 obtain⟨W,hW⟩:=nmE (vwA lnA ls);(try rw [<-hW]at cL)
 obtain⟨S,hS⟩:=nmE (vw ak R);(try rw [<-hS]at⊢)
 refine ae (aM f238) aB func238 fun g F hg hF=> ?_
 cbv
 repeat'(refine ad hg cL ?_;cbv)
 refine aU hg aB (by kernel_rfl) W (lnA) ls hW (by omega) (fun z(s:List Int×LLA)=>[(0,.v V),(1,.i (gap)),(4,.i (inner)),(11,.o 0),(18,.v W),(19,.i (g .ln W)),(20,.i (z))]) (fun z(s:List Int×LLA)=>[.rw ⟨3,1,s.2⟩]) (fun z(s:List Int×LLA)=>s.2=vw ak s.1) (fun(s:List Int×LLA) rest=>s.1++rest.flatMap (fun l=>flx (lit xs l) gap inner)) (R) ([],[]) (by rw [hR];rfl) rfl (Wk.weak (wkG [none] zr7 ⟨⟨_,rfl,rfl⟩,trivial⟩ (by decide) aw)) (fun z s B hz h0 hi he=> ?_) (fun z s x rest B z0 z1 z2 hx hy h0 hi hc e1 hB=> ?_)
 ·obtain⟨ha,E⟩:=s
  dsimp only at hi h0
  have pE:=pmV hi
  obtain rfl:ha=R:=by simpa using h0
  rw [hS,<-hi]at hF
  cbv;rw [he];cbv
  exact db hF rfl pE
 ·obtain⟨ha,E⟩:=s
  dsimp only at hi h0
  have hq:x∈ls:=zqd hx
  have hv:=hj x hq
  have cI:=hh x (by omega)
  have hm:(lit xs x).length<=1048576:=Nat.le_trans tt (by omega)
  have cX:=nj (lit xs x) gap inner hm
  have h1:(ha++flx (lit xs x) gap inner)++rest.flatMap (fun l=>flx (lit xs l) gap inner)=R:=by rw [<-h0,List.flatMap_cons,zqC]
  have hb:ha.length+(flx (lit xs x) gap inner).length<=1048576:=by
   have:=congrArg List.length h1
   rw [zqe,zqe]at this
   omega
  obtain⟨M,hM⟩:=nmE (vw aj.c (lit xs x));(try rw [<-hM]at cI);(try rw [<-hM]at cX)
  obtain⟨X,hX⟩:=nmE (vw ak (flx (lit xs x) gap inner));(try rw [<-hX]at cX)
  have kX:=kmV (k:=1) hX fun _=>rfl
  have ht:E.length+X.length<=1048576:=by rw [hi,hX,ao,ao];exact hb
  obtain⟨L,hL⟩:=nmE (vw ak x)
  rw [<-hL]at cI
  have hr:W[z.toNat]? =some [.view L]:=by rw [hL];exact hy
  obtain⟨E2,hf⟩:=nmE (E++X)
  have aE:E2=vw ak (ha++flx (lit xs x) gap inner):=by rw [hf,hi,hX];simp [vw]
  have hs:=pmV aE
  cbv
  rw [hc]
  cbv
  refine goX hg _ z0 hr rfl ?_
  cbv
  (repeat'((first|rw [e1]|refine ad hg cI ?_|refine ad hg cX ?_|refine goN hg ⟨kX,(by show(E.length+X.length)*8<=_;omega),(by show E.length+X.length<=_;omega)⟩ ?_;cbv;rw [ig hg];dsimp only;rw [<-hf]);cbv))
  exact hB ((ha++flx (lit xs x) gap inner,E2)) _ _ ⟨h1,aE⟩ (Wk.weak (wkG [some 1] zr7 ⟨wqE rfl hs,trivial⟩ (by decide) aw))
theorem lU(xs:List aj)(gap room:Int)(wr:Bool)(inner:Int)(hl:xs.length<=1048576):PC0 238 [.c (.view (vw aj.c xs)),ai gap,ai room,abl wr,ai inner] (.t (.c (.view (vw ak (lsz xs gap room wr inner))))):=AR (lV xs gap room wr inner hl) fun _=>rfl
theorem xT{sides:List av}{i:Int}{r:List Int}{x:av}(h0:0<=i)(hx:sides[i.toNat]? =some x):pck sides (i::r)=x::pck sides r:=by
 simp only [pck,List.filterMap_cons,if_pos h0,hx]
theorem lP(xs:List av)(ln:List Int)(hl:xs.length<=1048576)(hn:ln.length<=1048576)(hb:∀i∈ln,0<=i/\i<(xs.length:Int)):cj prog 186 [.c (.view (vw av.c xs)),.c (.view (vw ak ln))] fun res hf=>res= .o 0/\hf=[⟨210,7,vw av.c (pck xs ln)⟩]:=by
 obtain⟨R,hR⟩:=nmE (pck xs ln)
 rw [<-hR]
 have ho:∀i∈ln,0<=i/\∃y,xs[i.toNat]? =some y:=fun i hi=>⟨(hb i hi).1,⟨_,zqc (by have:=hb i hi;omega)⟩⟩
 have hj:=fun{i:Int}{x:av}(h:xs[i.toNat]? =some x)=>bv (c:=av.c) h
 obtain⟨V,hV⟩:=nmE (vw av.c xs);(try rw [<-hV]at hj);(try rw [<-hV]at⊢)
 obtain⟨S,hS⟩:=nmE (vw av.c R);(try rw [<-hS]at⊢)
 obtain⟨W,hW⟩:=nmE (vw ak ln)
 have ht:=lmV hW
 have iW:=imV hW
 have kW:=kmV (k:=1) hW fun _=>rfl
 have dW:=dmV hW
 rw [<-hW]
 refine ae (aM f186) aB func186 fun g F hg hF=> ?_
 cbv
 refine aU hg aB (by kernel_rfl) W (fun x=>lc (ak x)) ln hW hn (fun z(s:List av×LLA)=>[(0,.v V),(5,.o 0),(8,.v W),(9,.i (g .ln W)),(10,.i (z))]) (fun z(s:List av×LLA)=>[.rw ⟨210,7,s.2⟩]) (fun z(s:List av×LLA)=>s.2=vw av.c s.1/\(s.1.length:Int)<=z) (fun(s:List av×LLA) rest=>s.1++pck xs rest) (R) ([],[]) (by rw [hR];rfl) ⟨rfl,Int.le_refl 0⟩ (Wk.weak (wkG [none] zr5 ⟨⟨_,rfl,rfl⟩,trivial⟩ (by decide) aw)) (fun z s B hz h0 hi he=> ?_) (fun z s x rest B z0 z1 z2 hx hy h0 hi hc e1 hB=> ?_)
 ·obtain⟨ha,E⟩:=s
  obtain⟨i1,i2⟩:=hi
  dsimp only at i1 i2 h0
  have pE:=pmV i1
  obtain rfl:ha=R:=by simpa [pck]using h0
  rw [hS,<-i1]at hF
  cbv;rw [he];cbv
  exact db hF rfl pE
 ·obtain⟨ha,E⟩:=s
  obtain⟨i1,i2⟩:=hi
  dsimp only at i1 i2 h0
  have hm:E.length<=1048576:=by rw [i1,ao];omega
  have hd:=ho x (zqd hx)
  obtain⟨y,hk⟩:=hd.2
  have hr:=hj hk
  have h3:(ha++[y])++pck xs rest=R:=by rw [<-h0,xT hd.1 hk];simp
  have nl:((ha++[y]).length:Int)<=z+1:=by simp;omega
  have aE:E++[lc (av.c y)]=vw av.c (ha++[y]):=by rw [i1,dy]
  obtain⟨y0,y1,y2,y3,y4,y5,y6⟩:=y
  have hq:V[x.toNat]? =some [.J y0,.J y1,.J y2,.B y3,.B y4,.J y5,.J y6]:=hr
  replace aE:E++[[.J y0,.J y1,.J y2,.B y3,.B y4,.J y5,.J y6]]=vw av.c (ha++[⟨y0,y1,y2,y3,y4,y5,y6⟩]):=aE
  obtain⟨E2,hh⟩:∃E2,E2=E++[[.J y0,.J y1,.J y2,.B y3,.B y4,.J y5,.J y6]]:=⟨_,rfl⟩
  rw [<-hh]at aE
  have hs:=pmV aE
  have hp:=hd.1
  cbv;rw [hc];cbv;refine goX hg _ z0 hy rfl ?_;cbv
  (repeat'((first|rw [e1]|refine goX hg _ hp hq rfl ?_|refine fR hg rfl (by decide) hm ?_;cbv;rw [ig hg,<-hh]);cbv))
  exact hB ((ha++[⟨y0,y1,y2,y3,y4,y5,y6⟩],E2)) _ _ ⟨h3,⟨aE,nl⟩⟩ (Wk.weak (wkG [some 2] zr5 ⟨wqE rfl hs,trivial⟩ (by decide) aw))
theorem gW(xs:List av)(ln:List Int)(hl:xs.length<=1048576)(hn:ln.length<=1048576)(hb:∀i∈ln,0<=i/\i<(xs.length:Int)):PC0 186 [.c (.view (vw av.c xs)),.c (.view (vw ak ln))] (.t (.c (.view (vw av.c (pck xs ln))))):=AR (lP xs ln hl hn hb) fun _=>rfl
def Bg(s:ah)(ac:aG)(xs:List av)(ln:List Int):Int:=if s.wrap=1/\ac.mode=3 then ac.n else cro (pck xs ln)
def Dr(s:ah)(row:Bool)(ac:aG)(ls:List (List Int))(xs:List av):List Int:=
 if¬s.wrap=1/\ac.mode=3 then xE (ls.map (Bg s ac xs)) (nN s (!row)) ac.n s.content else ls.map (Bg s ac xs)
theorem wu(xs:List av)(ln:List Int):(pck xs ln).length<=ln.length:=List.length_filterMap_le _ _
theorem ld(n:Int)(sy:ah)(wd hgh:aG)(row:Bool)(iw ih al ac:aG)(K:LLA)(ls:List (List Int))(xs:List av)(hl:xs.length<=1048576)(hn:ls.length<=64)(hb:∀l∈ls,l.length<=1048576/\∀i∈l,0<=i/\i<(xs.length:Int)):cj prog 176 [.agg (plL n sy wd hgh row iw ih al ac (.view K)),.c (.view (vwA lnA ls)),.c (.view (vw av.c xs))] fun res hk=>res= .o 0/\hk=[⟨3,1,vw ak (Dr sy row ac ls xs)⟩]:=by
 obtain⟨am,an⟩:=ac
 have cG:=fX sy (!row)
 have hp:=fun l(h:l∈ls)=>gW xs l hl (hb l h).1 (hb l h).2
 have ht:=fun l(h:l∈ls)=>oq (pck xs l) (Nat.le_trans (wu xs l) (hb l h).1)
 have cS:=jK (ls.map (Bg sy ⟨am,an⟩ xs)) (nN sy (!row)) an sy.content (by rw [zql];exact hn)
 obtain⟨R,hR⟩:=nmE (Dr sy row ⟨am,an⟩ ls xs)
 obtain⟨Q,hQ⟩:=nmE (ls.map (Bg sy ⟨am,an⟩ xs))
 have hA:Q.length<=64:=by rw [hQ,zql];exact hn
 rw [<-hR]
 unfold Dr at hR
 rw [<-hQ]at cS hR
 obtain⟨G,hG⟩:=nmE (nN sy (!row));(try rw [<-hG]at cG);(try rw [<-hG]at cS);(try rw [<-hG]at hR)
 obtain⟨wr,hd⟩:=nmE (decide (sy.wrap=1))
 obtain⟨ex,hj⟩:=nmE (decide (am=3))
 have hm:R=if(!wr&&ex)=true then xE Q G an sy.content else Q:=by rw [hR,hd,hj];simp
 have ho:∀l,Bg sy ⟨am,an⟩ xs l=if(wr&&ex)=true then an else cro (pck xs l):=fun l=>by rw [hd,hj];simp [Bg]
 clear hR
 obtain⟨c1,ha⟩:=nmE (Bg sy ⟨am,an⟩ xs)
 rw [<-ha]at ho hQ
 obtain⟨V,hV⟩:=nmE (vw av.c xs);(try rw [<-hV]at hp);(try rw [<-hV]at⊢)
 obtain⟨S,hS⟩:=nmE (vw ak R);(try rw [<-hS]at⊢)
 obtain⟨U,hU⟩:=nmE (vw ak Q);(try rw [<-hU]at cS)
 obtain⟨X,hX⟩:=nmE (vw ak (xE Q G an sy.content));(try rw [<-hX]at cS)
 have iX:=imV hX
 have kU:=kmV (k:=1) hU fun _=>rfl
 have dU:=dmV hU
 obtain⟨W,hW⟩:=nmE (vwA lnA ls);(try rw [<-hW]at⊢)
 have t0:∀g:Gd,g=G0 prog 0 f176.ntmps->g .q .neq sy.wrap 1= !wr:=fun g hg=>by rw [d5 hg,hd];exact(iR _ _).trans (by simp)
 have t1:∀g:Gd,g=G0 prog 0 f176.ntmps->g .q .eql sy.wrap 1=wr:=fun g hg=>by rw [bA hg,hd];exact zqn _ _
 have t2:∀g:Gd,g=G0 prog 0 f176.ntmps->g .q .eql am 3=ex:=fun g hg=>by rw [bA hg,hj];exact zqn _ _
 clear hd hj ha hG
 have hu:ls.length<=1048576:=by omega
 refine ae (aM f176) aB func176 fun g F hg hF=> ?_
 have t0:=t0 g hg
 have t1:=t1 g hg
 have t2:=t2 g hg
 cbv
 refine aU hg aB (by kernel_rfl) W (lnA) ls hW hu (fun z(s:List Int×LLA)=>[(2,.v V),(3,.p 0),(7,.o 1),(11,.v W),(12,.i (g .ln W)),(13,.i (z))]) (fun z(s:List Int×LLA)=>[.bx 196 75 (plL n sy wd hgh row iw ih al ⟨am,an⟩ (.view K)),.rw ⟨3,1,s.2⟩]) (fun z(s:List Int×LLA)=>s.2=vw ak s.1) (fun(s:List Int×LLA) rest=>s.1++rest.map c1) (Q) ([],[]) (by rw [hQ];rfl) rfl (Wk.weak (wkG [some _,none] zr6 ⟨wqE rfl rfl,⟨_,rfl,rfl⟩,trivial⟩ (by decide) aw)) (fun z s B hz h0 hi he=> ?_) (fun z s x rest B z0 z1 z2 hx hy h0 hi hc e1 hB=> ?_)
 ·obtain⟨hf,E⟩:=s
  dsimp only at hi h0
  have pE:=pmV hi
  obtain rfl:hf=Q:=by simpa using h0
  rw [<-hU]at hi
  replace hi:=hi.symm
  subst hi
  cbv;rw [he];cbv
  cases wr<;>cases ex
  all_goals
   (try cbv)
   ((repeat'((first|rw [t0]|rw [t2]|refine aa hg cG ?_);cbv)))
  all_goals first
   |exact db (by rw [hF,hS,hm,hU];rfl) rfl pE
   |((refine dS hg cS (ay (bC (ab:=⟨_,_,U⟩) rfl kU dU) (ay (be rfl) (ay (be rfl) (ay (be rfl) (aP))))) iX ?_;cbv);exact db (by rw [hF,hS,hm,hX];rfl) rfl (by rw [hX];exact aF _ _))
 ·obtain⟨hf,E⟩:=s
  dsimp only at hi h0
  have hr:x∈ls:=zqd hx
  have cP:=hp x hr
  have cC:=ht x hr
  have hq:=ho x
  obtain⟨C,hC⟩:=nmE (cro (pck xs x));(try rw [<-hC]at cC);(try rw [<-hC]at hq)
  obtain⟨M,hM⟩:=nmE (vw av.c (pck xs x));(try rw [<-hM]at cP);(try rw [<-hM]at cC)
  have hs:E.length<=1048576:=by
   have:=congrArg List.length h0
   rw [zqe]at this
   rw [hi,ao];omega
  obtain⟨L,hL⟩:=nmE (vw ak x)
  rw [<-hL]at cP
  have hv:W[z.toNat]? =some [.view L]:=by rw [hL];exact hy
  have h3:(hf++[c1 x])++rest.map c1=Q:=by rw [<-h0];simp
  have aE:E++[[.J (c1 x)]]=vw ak (hf++[c1 x]):=by rw [hi,dy];rfl
  obtain⟨E2,hh⟩:∃E2,E2=E++[[.J (c1 x)]]:=⟨_,rfl⟩
  rw [<-hh]at aE
  have hw:=pmV aE
  rw [hq]at hh
  cbv
  rw [hc]
  cbv
  refine goX hg _ z0 hv rfl ?_
  cbv
  cases wr<;>cases ex
  all_goals
   simp only [Bool.and_self,Bool.and_true,Bool.and_false,Bool.false_eq_true,if_false,if_true]at hh
   (try cbv)
   ((repeat'((first|rw [t1]|rw [t2]|rw [e1]|refine ad hg cP ?_|refine ad hg cC ?_|refine fR hg rfl (by decide) hs ?_;cbv;rw [ig hg,<-hh]);cbv)))
   exact hB ((hf++[c1 x],E2)) _ _ ⟨h3,aE⟩ (Wk.weak (wkG [some _,some 3] zr6 ⟨wqE rfl rfl,wqE rfl hw,trivial⟩ (by decide) aw))
variable {w h b:Int}
theorem wt{P:Program}{f:FuncId}{args:List AT}{t k:Nat}{V:LLA}(hc:cj P f args fun res ha=>res= .t (.agg [.J w,.J h,.J b,.own 0])/\ha=[⟨t,k,V⟩])(hk:∀x∈V,x.length=k)(hd:∀x∈V,x.all dat=true):
  cj P f args fun res ha=>res= .t (.agg [.J w,.J h,.J b,.view V])/\ha=[]:=
 mM hc fun res ha⟨e1,e2⟩=>by
  subst e1 e2
  exact⟨.t (.agg [.J w,.J h,.J b,.view V]),[],bS (sl1 0 V) (kP rfl hk hd) (Wk.weak (wkG [] ⟨.inl ⟨rfl,rfl⟩,trivial⟩ trivial (by decide) aw)),rfl,rfl⟩
theorem yq{F:List AT->EH->Prop}{t k:Nat}{eh:EH}(hF:F=jS 0 (fun res h'=>∃rows,h'=rows.map .live/\(res= .t (.agg [.J w,.J h,.J b,.own 0])/\rows=[⟨t,k,[]⟩]))):F [.agg [.J w,.J h,.J b,.N]] eh:=by
 subst hF
 refine .inl ⟨.t (.agg [.J w,.J h,.J b,.own 0]),[.live ⟨t,k,[]⟩],[none],⟨Nat.zero_le _,fun i hi=>absurd hi (Nat.not_lt_zero _),by simp,?_,?_⟩,[⟨t,k,[]⟩],rfl,rfl,rfl⟩
 ·simp only [rnH,zqw]
  exact⟨fun h=>absurd h (Nat.not_lt_zero _),rfl,trivial⟩
 ·exact⟨.inr zr4,trivial⟩
theorem q8(n:Int)(s:ah)(wd hgh:aG)(row:Bool)(iw ih al ac:aG)(K:LLA)(a b:Int):cj prog 170 [.agg (plL n s wd hgh row iw ih al ac (.view K)),ai a,ai b] fun res hi=>res= .t (.agg [.imm (.int .i64 (yc s wd hgh (a,b)).wide),.imm (.int .i64 (yc s wd hgh (a,b)).high),.imm (.int .i64 (yc s wd hgh (a,b)).base),.own 0])/\hi=[⟨45,5,vw ag.c (yc s wd hgh (a,b)).frames⟩]:=by
 have cF:=dr s
 obtain⟨w0,w1⟩:=wd
 obtain⟨h0,h1⟩:=hgh
 obtain⟨f,hf⟩:=nmE (kz s)
 have hj:yc s ⟨w0,w1⟩ ⟨h0,h1⟩ (a,b)=⟨tak ⟨w0,w1⟩ (wrap64 (a+adE f.left f.right)),tak ⟨h0,h1⟩ (wrap64 (b+adE f.top f.bottom)),tak ⟨h0,h1⟩ (wrap64 (b+adE f.top f.bottom)),[]⟩:=by rw [hf];rfl
 rw [hj]
 rw [<-hf]at cF
 clear hf hj
 obtain⟨f0,f1,f2,f3⟩:=f
 have cW:=dh f0 f1 f2 f3
 have cH:=dl f0 f1 f2 f3
 dsimp only
 obtain⟨A1,ha⟩:=nmE (adE f0 f2);(try rw [<-ha]at cW);(try rw [<-ha]at⊢)
 obtain⟨A2,hb⟩:=nmE (adE f1 f3);(try rw [<-hb]at cH);(try rw [<-hb]at⊢)
 have cT:=d9 w0 w1 (wrap64 (a+A1))
 have cU:=d9 h0 h1 (wrap64 (b+A2))
 obtain⟨E1,hc⟩:=nmE (wrap64 (a+A1))
 obtain⟨E2,hd⟩:=nmE (wrap64 (b+A2))
 rw [<-hc]at cT⊢
 rw [<-hd]at cU⊢
 obtain⟨T1,he⟩:=nmE (tak ⟨w0,w1⟩ E1);(try rw [<-he]at cT);(try rw [<-he]at⊢)
 obtain⟨T2,hh⟩:=nmE (tak ⟨h0,h1⟩ E2);(try rw [<-hh]at cU);(try rw [<-hh]at⊢)
 have t1:∀g:Gd,g=G0 prog 0 f170.ntmps->g .w .add .i64 a A1=E1:=fun g hg=>by rw [aJ hg,hc]
 have t2:∀g:Gd,g=G0 prog 0 f170.ntmps->g .w .add .i64 b A2=E2:=fun g hg=>by rw [aJ hg,hd]
 clear ha hb hc hd he hh
 rw [show vw ag.c ([]:List ag)=[]from rfl]
 refine ae (aM f170) aB func170 fun g F hg hF=> ?_
 have t1:=t1 g hg
 have t2:=t2 g hg
 cbv
 (repeat'((first|rw [t1]|rw [t2]|refine ad hg cF ?_|refine aa hg cW ?_|refine aa hg cH ?_|refine aa hg cT ?_|refine aa hg cU ?_);cbv))
 exact yq hF
theorem gR{ns:List af}{k:Int}{y:af}(h:ns[(k-1).toNat]? =some y):kst ns k=y.style:=by
 unfold kst;rw [h]
def gz(V:LLA)(rtl:Bool):List AC:=[.view V,.B rtl,.imm (.pointer none)]
def nM(V:LLA)(rtl:Bool)(b:Bv)(kid:Int):Prop:=∀w0 w1 h0 h1:Int,PC0 83 [.agg (gz V rtl),ai kid,agP ⟨w0,w1⟩,agP ⟨h0,h1⟩] (.t (.agg (lw.ac (b kid ⟨w0,w1⟩ ⟨h0,h1⟩))))
theorem gU(row:Bool)(b:lw):PC0 242 [abl row,.agg (lw.ac b)] (.i (alB row b)):=by
 obtain⟨w,h,bs,fr⟩:=b
 have e:lw.ac ⟨w,h,bs,fr⟩=[.J w,.J h,.J bs,.view (vw ag.c fr)]:=rfl
 rw [e]
 obtain⟨V,hV⟩:=nmE (vw ag.c fr);(try rw [<-hV]at⊢)
 cases row
 all_goals
  refine ae (aM f242) aB func242 fun g F hg hF=> ?_
  cbv
  exact bj hF rfl
theorem kh(V:LLA)(rtl:Bool)(b:Bv)(kid:Int)(hbx:nM V rtl b kid)(n:Int)(s:ah)(wd hgh:aG)(row:Bool)(iw ih al ac:aG)(K:LLA)(a0 a1 c0 c1:Int):PC0 241 [.agg (gz V rtl),.agg (plL n s wd hgh row iw ih al ac (.view K)),ai kid,agP ⟨a0,a1⟩,agP ⟨c0,c1⟩] (.t (.agg (lw.ac (zK b row kid ⟨a0,a1⟩ ⟨c0,c1⟩)))):=by
 unfold zK
 have ha:=hbx a0 a1 c0 c1
 have c2':=hbx c0 c1 a0 a1
 obtain⟨b1,hb⟩:=nmE (b kid ⟨a0,a1⟩ ⟨c0,c1⟩)
 obtain⟨b2,hc⟩:=nmE (b kid ⟨c0,c1⟩ ⟨a0,a1⟩)
 rw [<-hb]at ha
 rw [<-hc]at c2'
 rw [<-hb,<-hc]
 clear hb hc hbx
 have e:∀q:lw,lw.ac q=[.J q.wide,.J q.high,.J q.base,.view (vw ag.c q.frames)]:=fun q=>rfl
 rw [e]at ha c2'
 cases row
 ·simp only [Bool.false_eq_true,if_false]
  rw [e]
  obtain⟨F2,he⟩:=nmE (vw ag.c b2.frames);(try rw [<-he]at c2');(try rw [<-he]at⊢)
  refine ae (aM f241) aB func241 fun g F hg hF=> ?_
  cbv
  repeat'(refine nB hg c2' rfl rfl ?_;cbv)
  exact mh hF rfl ⟨rfl,rfl⟩
 ·simp only [if_true]
  rw [e]
  obtain⟨F1,hd⟩:=nmE (vw ag.c b1.frames);(try rw [<-hd]at ha);(try rw [<-hd]at⊢)
  refine ae (aM f241) aB func241 fun g F hg hF=> ?_
  cbv
  repeat'(refine nB hg ha rfl rfl ?_;cbv)
  exact mh hF rfl ⟨rfl,rfl⟩
end Go.Proofs.YtckchgoblpgpbaaGreat
