/- Lines across: their total, stretched, placed; both programs. -/
import Derived.Test.YtckchgoblpgpbaaGreatJ5bh
set_option linter.unusedVariables false
set_option linter.unusedSimpArgs false
set_option maxHeartbeats 4000000
namespace Go.Proofs.YtckchgoblpgpbaaGreat
open Go.ChangeShapes Go.WideShapes Go.ChangeAt Go.RowKit Am Go.Proofs.Tryz
set_option maxRecDepth 100000
variable {α:Type}
theorem wx{f:FuncId}{args:List AT}{t k:Nat}{c:α->Array Value}{xs:List α}(hc:dc prog f args fun res ha=>res= .o 0/\ha=[⟨t,k,vw c xs⟩])(hk:∀x,(c x).size=k):PC0 f args (.t (.c (.view (vw c xs)))):=
 pp hc (BH hk) pJ
theorem cY(l:List Int)(hl:l.length<=1048576)(i:Int):PC0 188 [.c (.view (vw ak l)),ai i] (.i (elZ l i)):=by
 obtain⟨V,hV⟩:=nmE (vw ak l)
 have hb:=lmV hV
 have iV:=imV hV
 have kV:=kmV (k:=1) hV fun _=>rfl
 have dV:=dmV hV
 have ha:aX V=(l.length:Int):=by rw [hV,aQ]
 have hy:¬i<0->¬(l.length:Int)<=i->V[i.toNat]? =some [.J (elZ l i)]:=fun h0 h1=>by rw [hV];exact bf (kj (by omega) (by omega))
 have ho:i<0\/(l.length:Int)<=i->elZ l i=0:=Be
 obtain⟨e,he⟩:=nmE (elZ l i)
 rw [<-hV,<-he]
 rw [<-he]at hy ho
 refine ae (aJ f188) ay func188 fun g F hg hF=> ?_
 have t1:g .q .lss i 0=decide (i<0):=bh hg _ _
 have t2:g .q .geq i (g .ln V)=decide ((l.length:Int)<=i):=by rw [iu hg,bF hg,ha]
 by_cases h0:i<0
 ·rw [zqu h0]at t1
  cbv
  rw [t1]
  cbv
  exact aV hF (ho (.inl h0)).symm
 ·rw [zqt h0]at t1
  by_cases h1:(l.length:Int)<=i
  ·rw [zqu h1]at t2
   cbv
   rw [t1]
   cbv
   rw [t2]
   cbv
   exact aV hF (ho (.inr h1)).symm
  ·rw [zqt h1]at t2
   cbv
   rw [t1]
   cbv
   rw [t2]
   cbv
   refine goX hg _ (by omega) (hy h0 h1) rfl ?_
   cbv
   exact aV hF rfl
theorem kD(l:List Int)(hl:l.length<=1048576):PC0 301 [.c (.view (vw ak l))] (.i (elZ l 0)):=by
 obtain⟨V,hV⟩:=nmE (vw ak l)
 have hb:=lmV hV
 have iV:=imV hV
 have kV:=kmV (k:=1) hV fun _=>rfl
 have dV:=dmV hV
 have ha:aX V=(l.length:Int):=by rw [hV,aQ]
 have hy:¬(l.length:Int)=0->V[(0:Int).toNat]? =some [.J (elZ l 0)]:=fun h1=>by rw [hV];exact bf (kj (by omega) (by omega))
 have ho:(l.length:Int)=0->elZ l 0=0:=fun h=>Be (.inr (by omega))
 obtain⟨e,he⟩:=nmE (elZ l 0)
 rw [<-hV,<-he]
 rw [<-he]at hy ho
 refine ae (aJ f301) ay func301 fun g F hg hF=> ?_
 have t1:g .q .eql (g .ln V) 0=decide ((l.length:Int)=0):=by rw [bj hg,bF hg,ha];exact zqn _ _
 by_cases h0:(l.length:Int)=0
 ·rw [zqu h0]at t1
  cbv
  rw [t1]
  cbv
  exact aV hF (ho h0).symm
 ·rw [zqt h0]at t1
  cbv
  rw [t1]
  cbv
  refine goX hg _ (by omega) (hy h0) rfl ?_
  cbv
  exact aV hF rfl
theorem tt(n many:Int):dc prog 300 [ai n,ai many] fun res ha=>res= .o 0/\ha=[⟨3,1,vw ak (evn n many)⟩]:=by
 have hm:evm many<=64:=oK many
 have c1:=mY n (List.replicate (evm many) 1) (by rw [List.length_replicate];omega)
 obtain⟨S,hS⟩:=nmE (vw ak (evn n many))
 have iS:=imV hS
 have pS:=pmV hS
 rw [show shr n (List.replicate (evm many) 1)=evn n many from rfl,<-hS]at c1
 rw [<-hS]
 refine ae (aJ f300) ay func300 fun g F hg hF=> ?_
 cbv
 refine jl hg ay (by kernel_rfl) (fun s:Int×LLA=>[(0,.i (n)),(1,.i (many)),(5,.o 0),(6,.i (s.1))]) (fun s=>[.rw ⟨3,1,s.2⟩]) (fun s=>0<=s.1/\(s.1=0\/s.1<=many/\many<=64)/\s.2=vw ak (List.replicate s.1.toNat 1)) (fun s=>64-s.1.toNat)
  (0,[]) ⟨by simp,by simp,rfl⟩ (Wk.weak (wkG [some 0] zr4 ⟨wqE rfl rfl,trivial⟩ (by decide) aD)) (fun s B hs hB=> ?_)
 obtain⟨z,E⟩:=s
 obtain⟨h0,h1,hE⟩:=hs
 dsimp only at h0 h1 hE
 have hc:z.toNat<=64:=by omega
 have hb:E.length<=1048576:=by rw [hE,aq,List.length_replicate];omega
 have pE:=pmV hE
 have kE:=kmV (k:=1) hE fun _=>rfl
 have dE:=dmV hE
 have tz:g .q .lss z many=decide (z<many):=bh hg _ _
 have tm:g .q .leq many 64=decide (many<=64):=iy hg _ _
 have ez:g .w .add .i64 z 1=z+1:=by rw [aN hg];exact wr1 (by omega) (by omega)
 have aE:E++[[.J 1]]=vw ak (List.replicate (z+1).toNat 1):=by
  rw [show(z+1).toNat=z.toNat+1 by omega,List.replicate_succ',bv,hE];rfl
 have done:¬(z<many/\many<=64)->E=vw ak (List.replicate (evm many) 1):=fun h=>by
  have:z.toNat=evm many:=by unfold evm;split<;>omega
  rw [hE,this]
 by_cases hz:z<many
 ·by_cases hm64:many<=64
  ·have fin:0<=z+1/\(z+1=0\/z+1<=many/\many<=64)/\64-(z+1).toNat<64-z.toNat:=by omega
   cbv
   rw [tz,zqu hz]
   cbv
   rw [tm,zqu hm64]
   cbv
   refine dg hg rfl (by decide) hb ?_
   cbv
   rw [gd hg,ez]
   generalize E++_=E2 at aE⊢
   have aE:E2=_:=aE
   have hd:=pmV aE
   subst hB
   exact⟨(z+1,E2),⟨fin.1,fin.2.1,aE⟩,fin.2.2,Wk.weak (wkG [some 2] zr4 ⟨wqE rfl hd,trivial⟩ (by decide) aD)⟩
  ·rw [<-done (by omega)]at c1
   cbv
   rw [tz,zqu hz]
   cbv
   rw [tm,zqt hm64]
   cbv
   first|(refine bE hg c1 (ah (ao rfl) (ah (aZ (ab:=⟨_,_,E⟩) rfl kE dE) (av))) iS ?_;cbv)|(refine bO hg c1 (ah (ao rfl) (ah (aZ (ab:=⟨_,_,E⟩) rfl kE dE) (av))) iS ?_;cbv)
   exact bR hF rfl pS
 ·rw [<-done (by omega)]at c1
  cbv
  rw [tz,zqt hz]
  cbv
  first|(refine bE hg c1 (ah (ao rfl) (ah (aZ (ab:=⟨_,_,E⟩) rfl kE dE) (av))) iS ?_;cbv)|(refine bO hg c1 (ah (ao rfl) (ah (aZ (ab:=⟨_,_,E⟩) rfl kE dE) (av))) iS ?_;cbv)
  exact bR hF rfl pS
theorem uD(n many:Int):dc prog 289 [ai n,ai many] fun res ha=>res= .o 0/\ha=[⟨3,1,vw ak (evn n many)⟩]:=by
 have hm:evm many<=64:=oK many
 have c1:=nD n (List.replicate (evm many) 1) (by rw [List.length_replicate];omega)
 have c0:=db many 0 64
 have hf:(decide (0<=many)&&decide (many<=64))=false->evn n many=[]\/evm many=0:=fun h=>by
  right
  simp only [Bool.and_eq_false_iff,zqo]at h
  unfold evm;split<;>omega
 have he:evm many=0->evn n many=[]:=fun h=>zqv (by rw [gP,h])
 obtain⟨S,hS⟩:=nmE (vw ak (evn n many))
 have hc:evn n many=[]->S=[]:=fun h=>by rw [hS,h];rfl
 have iS:=imV hS
 have pS:=pmV hS
 rw [show shr n (List.replicate (evm many) 1)=evn n many from rfl,<-hS]at c1
 rw [<-hS]
 cases hq:(decide (0<=many)&&decide (many<=64))
 ·have e:S=[]:=hc ((hf hq).elim id he)
  rw [hq]at c0
  subst e
  refine ae (aJ f289) ay func289 fun g F hg hF=> ?_
  cbv
  repeat'(refine ad hg c0 ?_;cbv)
  exact AX _ _ hF ⟨rfl,rfl⟩
 rw [hq]at c0
 simp only [zqs,zqp]at hq
 have hj:(evm many:Int)=many:=nN hq.1 hq.2
 refine ae (aJ f289) ay func289 fun g F hg hF=> ?_
 cbv
 repeat'(refine ad hg c0 ?_;cbv)
 refine jl hg ay (by kernel_rfl) (fun s:Int×LLA=>[(0,.i (n)),(5,.o 0),(9,.i (many)),(10,.i (s.1))]) (fun s=>[.rw ⟨3,1,s.2⟩]) (fun s=>0<=s.1/\s.1<=many/\s.2=vw ak (List.replicate s.1.toNat 1)) (fun s=>64-s.1.toNat)
  (0,[]) ⟨by simp,hq.1,rfl⟩ (Wk.weak (wkG [none] zr4 ⟨⟨_,rfl,rfl⟩,trivial⟩ (by decide) aD)) (fun s B hs hB=> ?_)
 obtain⟨z,E⟩:=s
 obtain⟨h0,h1,hE⟩:=hs
 dsimp only at h0 h1 hE
 have hh:z.toNat<=64:=by omega
 have hb:E.length<=1048576:=by rw [hE,aq,List.length_replicate];omega
 have pE:=pmV hE
 have kE:=kmV (k:=1) hE fun _=>rfl
 have dE:=dmV hE
 have tz:g .q .lss z many=decide (z<many):=bh hg _ _
 have ez:g .w .add .i64 z 1=z+1:=by rw [aN hg];exact wr1 (by omega) (by omega)
 have aE:E++[[.J 1]]=vw ak (List.replicate (z+1).toNat 1):=by
  rw [show(z+1).toNat=z.toNat+1 by omega,List.replicate_succ',bv,hE];rfl
 have done:¬z<many->E=vw ak (List.replicate (evm many) 1):=fun h=>by
  have hd:(evm many:Int)=many:=nN hq.1 hq.2
  have:z.toNat=evm many:=by omega
  rw [hE,this]
 by_cases hz:z<many
 ·have fin:0<=z+1/\z+1<=many/\64-(z+1).toNat<64-z.toNat:=by omega
  cbv
  rw [tz,zqu hz]
  cbv
  refine dg hg rfl (by decide) hb ?_
  cbv
  rw [gd hg,ez]
  generalize E++_=E2 at aE⊢
  have aE:E2=_:=aE
  have hi:=pmV aE
  subst hB
  exact⟨(z+1,E2),⟨fin.1,fin.2.1,aE⟩,fin.2.2,Wk.weak (wkG [some 2] zr4 ⟨wqE rfl hi,trivial⟩ (by decide) aD)⟩
 ·rw [<-done hz]at c1
  cbv
  rw [tz,zqt hz]
  cbv
  first|(refine bE hg c1 (ah (ao rfl) (ah (aZ (ab:=⟨_,_,E⟩) rfl kE dE) (av))) iS ?_;cbv)|(refine bO hg c1 (ah (ao rfl) (ah (aZ (ab:=⟨_,_,E⟩) rfl kE dE) (av))) iS ?_;cbv)
  exact bR hF rfl pS
theorem eb(n many:Int):PC0 300 [ai n,ai many] (.t (.c (.view (vw ak (evn n many))))):=wx (tt n many) fun _=>rfl
theorem ej(n many:Int):PC0 289 [ai n,ai many] (.t (.c (.view (vw ak (evn n many))))):=wx (uD n many) fun _=>rfl
theorem nK(free many js:Int):PC0 249 [ai free,ai many,ai js] (.i (led free many js)):=by
 have c0:=db many 1 12
 have cd:=bK free 2
 have c5:=ej free (2*many)
 have c6:=ej free (many+1)
 change PC0 _ _ (.t (abl (rng many 1 12)))at c0
 have ha:rng many 1 12=true->(vw ak (evn free (2*many)))[(0:Int).toNat]? =some [.J (elZ (evn free (2*many)) 0)]:=fun h=>by
  simp only [rng,zqs,zqp]at h
  exact bf (kj (by omega) (by rw [gP,nN (by omega) (by omega)];omega))
 have hb:rng many 1 12=true->(vw ak (evn free (many+1)))[(0:Int).toNat]? =some [.J (elZ (evn free (many+1)) 0)]:=fun h=>by
  simp only [rng,zqs,zqp]at h
  exact bf (kj (by omega) (by rw [gP,nN (by omega) (by omega)];omega))
 have hi:rng many 1 12=true->wrap64 (2*many)=2*many/\wrap64 (many+1)=many+1:=fun h=>by
  simp only [rng,zqs,zqp]at h
  exact⟨aw _ (by omega),aw _ (by omega)⟩
 obtain⟨R,hR⟩:=nmE (led free many js)
 unfold led at hR
 obtain⟨v5,hf⟩:=nmE (elZ (evn free (2*many)) 0)
 obtain⟨v6,hh⟩:=nmE (elZ (evn free (many+1)) 0)
 obtain⟨d,hd⟩:=nmE (fdv free 2)
 obtain⟨Y5,hc⟩:=nmE (vw ak (evn free (2*many)))
 obtain⟨Y6,he⟩:=nmE (vw ak (evn free (many+1)))
 obtain⟨I,hI⟩:=nmE (rng many 1 12)
 rw [show PC0 _ _ _=PC0 _ _ (.i R) by rw [hR];unfold led;rfl]
 rw [<-hf,<-hh,<-hd,<-hI]at hR
 rw [<-hf,<-hc,<-hI]at ha
 rw [<-hh,<-he,<-hI]at hb
 rw [<-hI]at hi c0
 rw [<-hc]at c5
 rw [<-he]at c6
 rw [<-hd]at cd
 clear hf hh hd hc he hI
 refine ae (aJ f249) ay func249 fun g F hg hF=> ?_
 have e5:I=true->g .w .mul .i64 2 many=2*many:=fun h=>by rw [gc hg,(hi h).1]
 have e6:I=true->g .w .add .i64 many 1=many+1:=fun h=>by rw [aN hg,(hi h).2]
 have q2:g .q .eql (js) (2)=decide ((js)=(2)):=by rw [bj hg];exact zqn _ _
 have q3:g .q .eql (js) (3)=decide ((js)=(3)):=by rw [bj hg];exact zqn _ _
 have q5:g .q .eql (js) (5)=decide ((js)=(5)):=by rw [bj hg];exact zqn _ _
 have q6:g .q .eql (js) (6)=decide ((js)=(6)):=by rw [bj hg];exact zqn _ _
 have q0:g .q .lss (free) (0)=decide ((free)<(0)):=bh hg _ _
 generalize 2*many=m2 at *
 generalize many+1=m1 at *
 cases I
 ·cbv
  repeat'(refine ad hg c0 ?_;cbv)
  exact aV hF (by rw [hR];rfl)
 replace e5:=e5 rfl
 replace e6:=e6 rfl
 replace ha:=ha rfl
 replace hb:=hb rfl
 by_cases j2:js=2<;>by_cases j3:js=3<;>by_cases j5:js=5<;>by_cases j6:js=6<;>by_cases f0:free<0
 all_goals first
  |(exfalso;omega)
  |((first|rw [zqu j2]at q2|rw [zqt j2]at q2|rw [zqu (Classical.not_not.2 j2)]at q2|rw [zqt (Classical.not_not.2 j2)]at q2);(first|rw [zqu j3]at q3|rw [zqt j3]at q3|rw [zqu (Classical.not_not.2 j3)]at q3|rw [zqt (Classical.not_not.2 j3)]at q3);(first|rw [zqu j5]at q5|rw [zqt j5]at q5|rw [zqu (Classical.not_not.2 j5)]at q5|rw [zqt (Classical.not_not.2 j5)]at q5);(first|rw [zqu j6]at q6|rw [zqt j6]at q6|rw [zqu (Classical.not_not.2 j6)]at q6|rw [zqt (Classical.not_not.2 j6)]at q6);(first|rw [zqu f0]at q0|rw [zqt f0]at q0|rw [zqu (Classical.not_not.2 f0)]at q0|rw [zqt (Classical.not_not.2 f0)]at q0);cbv;(repeat'((first|rw [q2]|rw [q3]|rw [q5]|rw [q6]|rw [q0]|rw [e5]|rw [e6]|refine ad hg c0 ?_|refine ad hg cd ?_|refine ad hg c5 ?_|refine ad hg c6 ?_|refine goX hg _ (by omega) ha rfl ?_|refine goX hg _ (by omega) hb rfl ?_);cbv));exact aV hF (by rw [hR];simp [j2,j3,j5,j6,f0]))
theorem m8(free many js:Int):PC0 273 [ai free,ai many,ai js] (.i (led free many js)):=by
 have c0:=bI many 1 12
 have cd:=bJ free 2
 have c5:=eb free (2*many)
 have c6:=eb free (many+1)
 have x5:=kD (evn free (2*many)) (by rw [gP];have:=oK (2*many);omega)
 have x6:=kD (evn free (many+1)) (by rw [gP];have:=oK (many+1);omega)
 change PC0 _ _ (.t (abl (rng many 1 12)))at c0
 have hf:rng many 1 12=true->wrap64 (2*many)=2*many/\wrap64 (many+1)=many+1:=fun h=>by
  simp only [rng,zqs,zqp]at h
  exact⟨aw _ (by omega),aw _ (by omega)⟩
 obtain⟨R,hR⟩:=nmE (led free many js)
 rw [<-hR]
 unfold led at hR
 obtain⟨v5,hc⟩:=nmE (elZ (evn free (2*many)) 0);(try rw [<-hc]at hR);(try rw [<-hc]at x5)
 obtain⟨v6,he⟩:=nmE (elZ (evn free (many+1)) 0);(try rw [<-he]at hR);(try rw [<-he]at x6)
 obtain⟨d,hd⟩:=nmE (fdv free 2);(try rw [<-hd]at hR);(try rw [<-hd]at cd)
 obtain⟨Y5,ha⟩:=nmE (vw ak (evn free (2*many)));(try rw [<-ha]at c5);(try rw [<-ha]at x5)
 obtain⟨Y6,hb⟩:=nmE (vw ak (evn free (many+1)));(try rw [<-hb]at c6);(try rw [<-hb]at x6)
 obtain⟨I,hI⟩:=nmE (rng many 1 12);(try rw [<-hI]at hR);(try rw [<-hI]at hf);(try rw [<-hI]at c0)
 clear hc he hd ha hb hI
 refine ae (aJ f273) ay func273 fun g F hg hF=> ?_
 have e5:I=true->g .w .mul .i64 2 many=2*many:=fun h=>by rw [gc hg,(hf h).1]
 have e6:I=true->g .w .add .i64 many 1=many+1:=fun h=>by rw [aN hg,(hf h).2]
 have q2:g .q .eql (js) (2)=decide ((js)=(2)):=by rw [bj hg];exact zqn _ _
 have q3:g .q .eql (js) (3)=decide ((js)=(3)):=by rw [bj hg];exact zqn _ _
 have q5:g .q .eql (js) (5)=decide ((js)=(5)):=by rw [bj hg];exact zqn _ _
 have q6:g .q .eql (js) (6)=decide ((js)=(6)):=by rw [bj hg];exact zqn _ _
 have q0:g .q .lss (free) (0)=decide ((free)<(0)):=bh hg _ _
 generalize 2*many=m2 at *
 generalize many+1=m1 at *
 cases I
 ·cbv
  repeat'(refine ad hg c0 ?_;cbv)
  exact aV hF (by rw [hR];rfl)
 replace e5:=e5 rfl
 replace e6:=e6 rfl
 by_cases j2:js=2<;>by_cases j3:js=3<;>by_cases j5:js=5<;>by_cases j6:js=6<;>by_cases f0:free<0
 all_goals first
  |(exfalso;omega)
  |((first|rw [zqu j2]at q2|rw [zqt j2]at q2|rw [zqu (Classical.not_not.2 j2)]at q2|rw [zqt (Classical.not_not.2 j2)]at q2);(first|rw [zqu j3]at q3|rw [zqt j3]at q3|rw [zqu (Classical.not_not.2 j3)]at q3|rw [zqt (Classical.not_not.2 j3)]at q3);(first|rw [zqu j5]at q5|rw [zqt j5]at q5|rw [zqu (Classical.not_not.2 j5)]at q5|rw [zqt (Classical.not_not.2 j5)]at q5);(first|rw [zqu j6]at q6|rw [zqt j6]at q6|rw [zqu (Classical.not_not.2 j6)]at q6|rw [zqt (Classical.not_not.2 j6)]at q6);(first|rw [zqu f0]at q0|rw [zqt f0]at q0|rw [zqu (Classical.not_not.2 f0)]at q0|rw [zqt (Classical.not_not.2 f0)]at q0);cbv;(repeat'((first|rw [q2]|rw [q3]|rw [q5]|rw [q6]|rw [q0]|rw [e5]|rw [e6]|refine ad hg c0 ?_|refine ad hg cd ?_|refine ad hg c5 ?_|refine ad hg c6 ?_|refine ad hg x5 ?_|refine ad hg x6 ?_);cbv));exact aV hF (by rw [hR];simp [j2,j3,j5,j6,f0]))
theorem j9(free many js i:Int)(hm0:0<=many)(hm1:many<=12)(hi0:0<=i)(hi1:i<=12):PC0 250 [ai free,ai many,ai js,ai i] (.i (btw free many js i)):=by
 have hl:∀m:Int,(evn free m).length<=1048576:=fun m=>by rw [gP];have:=oK m;omega
 have c4:=ej free (many-1)
 have x4:=cY (evn free (many-1)) (hl _) i
 have c5:=ej free (2*many)
 have x5:=cY (evn free (2*many)) (hl _) (2*i+1)
 have y5:=cY (evn free (2*many)) (hl _) (2*i+2)
 have c6:=ej free (many+1)
 have x6:=cY (evn free (many+1)) (hl _) (i+1)
 have w1:=wr1 (a:=many-1) (by omega) (by omega)
 have w2:=wr1 (a:=2*many) (by omega) (by omega)
 have w3:=wr1 (a:=many+1) (by omega) (by omega)
 have w4:=wr1 (a:=i+1) (by omega) (by omega)
 have w5:=wr1 (a:=2*i) (by omega) (by omega)
 have w6:=wr1 (a:=2*i+1) (by omega) (by omega)
 have w7:=wr1 (a:=2*i+2) (by omega) (by omega)
 clear hl
 obtain⟨R,hR⟩:=nmE (btw free many js i)
 rw [<-hR]
 unfold btw at hR
 obtain⟨v4,he⟩:=nmE (elZ (evn free (many-1)) i);(try rw [<-he]at hR);(try rw [<-he]at x4)
 obtain⟨v5,hf⟩:=nmE (elZ (evn free (2*many)) (2*i+1));(try rw [<-hf]at hR);(try rw [<-hf]at x5)
 obtain⟨u5,hd⟩:=nmE (elZ (evn free (2*many)) (2*i+2));(try rw [<-hd]at hR);(try rw [<-hd]at y5)
 obtain⟨v6,hh⟩:=nmE (elZ (evn free (many+1)) (i+1));(try rw [<-hh]at hR);(try rw [<-hh]at x6)
 obtain⟨Y4,hb⟩:=nmE (vw ak (evn free (many-1)));(try rw [<-hb]at c4);(try rw [<-hb]at x4)
 obtain⟨Y5,ha⟩:=nmE (vw ak (evn free (2*many)));(try rw [<-ha]at c5);(try rw [<-ha]at x5);(try rw [<-ha]at y5)
 obtain⟨Y6,hc⟩:=nmE (vw ak (evn free (many+1)));(try rw [<-hc]at c6);(try rw [<-hc]at x6)
 clear he hf hd hh hb ha hc
 refine ae (aJ f250) ay func250 fun g F hg hF=> ?_
 have e1:g .w .sub .i64 many 1=many-1:=by rw [bZ hg,w1]
 have e2:g .w .mul .i64 2 many=2*many:=by rw [gc hg,w2]
 have e3:g .w .add .i64 many 1=many+1:=by rw [aN hg,w3]
 have e4:g .w .add .i64 i 1=i+1:=by rw [aN hg,w4]
 have e5:g .w .mul .i64 2 i=2*i:=by rw [gc hg,w5]
 have e6:g .w .add .i64 (2*i) 1=2*i+1:=by rw [aN hg,w6]
 have e7:g .w .add .i64 (2*i) 2=2*i+2:=by rw [aN hg,w7]
 have e8:g .w .add .i64 v5 u5=wrap64 (v5+u5):=aN hg _ _
 obtain⟨Z,hZ⟩:=nmE (wrap64 (v5+u5));(try rw [<-hZ]at hR);(try rw [<-hZ]at e8)
 have q4:g .q .eql (js) (4)=decide ((js)=(4)):=by rw [bj hg];exact zqn _ _
 have q5:g .q .eql (js) (5)=decide ((js)=(5)):=by rw [bj hg];exact zqn _ _
 have q6:g .q .eql (js) (6)=decide ((js)=(6)):=by rw [bj hg];exact zqn _ _
 have q0:g .q .lss (free) (0)=decide ((free)<(0)):=bh hg _ _
 clear hm0 hm1 hi0 hi1 w1 w2 w3 w4 w5 w6 w7 hZ
 generalize 2*i+1=k1 at *
 generalize 2*i+2=k2 at *
 generalize 2*i=k3 at *
 generalize i+1=k4 at *
 generalize 2*many=m2 at *
 generalize many+1=m1 at *
 generalize many-1=m3 at *
 by_cases f0:free<0
 ·(first|rw [zqu f0]at q0|rw [zqt f0]at q0|rw [zqu (Classical.not_not.2 f0)]at q0|rw [zqt (Classical.not_not.2 f0)]at q0)
  cbv
  (repeat'(rw [q0];cbv))
  exact aV hF (by rw [hR,if_pos f0])
 (first|rw [zqu f0]at q0|rw [zqt f0]at q0|rw [zqu (Classical.not_not.2 f0)]at q0|rw [zqt (Classical.not_not.2 f0)]at q0)
 by_cases j4:js=4<;>by_cases j5:js=5<;>by_cases j6:js=6
 all_goals first
  |(exfalso;omega)
  |((first|rw [zqu j4]at q4|rw [zqt j4]at q4|rw [zqu (Classical.not_not.2 j4)]at q4|rw [zqt (Classical.not_not.2 j4)]at q4);(first|rw [zqu j5]at q5|rw [zqt j5]at q5|rw [zqu (Classical.not_not.2 j5)]at q5|rw [zqt (Classical.not_not.2 j5)]at q5);(first|rw [zqu j6]at q6|rw [zqt j6]at q6|rw [zqu (Classical.not_not.2 j6)]at q6|rw [zqt (Classical.not_not.2 j6)]at q6);cbv;(repeat'((first|rw [q4]|rw [q5]|rw [q6]|rw [q0]|rw [e1]|rw [e2]|rw [e3]|rw [e4]|rw [e5]|rw [e6]|rw [e7]|rw [e8]|refine ad hg c4 ?_|refine ad hg c5 ?_|refine ad hg c6 ?_|refine ad hg x4 ?_|refine ad hg x5 ?_|refine ad hg y5 ?_|refine ad hg x6 ?_);cbv));exact aV hF (by rw [hR];simp [j4,j5,j6,f0]))
section
variable {P:Program}{n0 N:Nat}{g:Gd}
theorem mkI(hg:g=G0 P n0 N){n:Int}{by_:Nat}{q:Prop}(hb:by_<=65536)(h0:0<=n)(h1:n<=1048576)(hq:q):g .N (n=n/\0<=n/\(by_:Int)*n<=140737488355328/\n<=4611686018427387904) q:=by
 subst hg
 have h2:(by_:Int)*n<=65536*1048576:=Int.mul_le_mul (by omega) h1 h0 (by omega)
 exact⟨⟨rfl,h0,by omega,by omega⟩,hq⟩
end
theorem pI(c:α->Array Value)(n:Nat)(x:α):List.replicate n (lc (c x))=vw c (List.replicate n x):=by simp [vw]
theorem mB(c:α->Array Value)(xs:List α)(i:Nat)(x:α):(vw c xs).set i (lc (c x))=vw c (xs.set i x):=by simp [vw,List.map_set]
theorem oS(free many js:Int)(hm0:0<=many)(hm1:many<=12):dc prog 275 [ai free,ai many,ai js] fun res hr=>res= .o 0/\hr=[⟨3,1,vw ak (spc free many js)⟩]:=by
 have hm:=DV free many js
 have hk:∀z:Int,0<=z->(z=0\/z<many)->¬z+1<many->spL (btw free many js) many.toNat z.toNat=spc free many js:=fun z a b c=>DW free many js hm0 (by omega) (by omega)
 obtain⟨S,hS⟩:=nmE (vw ak (spc free many js));(try rw [<-hS]at⊢)
 refine ae (aJ f275) ay func275 fun g F hg hF=> ?_
 cbv
 refine mkI hg (by decide) hm0 (by omega) ?_
 cbv
 generalize hE0:g .rp many _=E
 replace hE:E=vw ak (spL (btw free many js) many.toNat 0):=by rw [<-hE0,zf hg];exact pI ak _ 0
 clear hE0
 have pE:=pmV hE
 have q0:g .q .lss (free) (0)=decide ((free)<(0)):=bh hg _ _
 by_cases f0:free<0
 ·(first|rw [zqu f0]at q0|rw [zqt f0]at q0|rw [zqu (Classical.not_not.2 f0)]at q0|rw [zqt (Classical.not_not.2 f0)]at q0)
  (repeat'(rw [q0];cbv))
  obtain rfl:E=S:=by rw [hS,hm f0,hE];simp [spL,ixs]
  exact bR hF rfl pE
 (first|rw [zqu f0]at q0|rw [zqt f0]at q0|rw [zqu (Classical.not_not.2 f0)]at q0|rw [zqt (Classical.not_not.2 f0)]at q0)
 (repeat'(rw [q0];cbv))
 refine jl hg ay (by kernel_rfl) (fun s:Int×LLA=>[(0,.i (free)),(1,.i (many)),(2,.i (js)),(7,.o 0),(8,.i (s.1))]) (fun s=>[.rw ⟨3,1,s.2⟩]) (fun s=>0<=s.1/\(s.1=0\/s.1<many)/\s.2=vw ak (spL (btw free many js) many.toNat s.1.toNat)) (fun s=>12-s.1.toNat)
  (0,E) ⟨by simp,.inl rfl,hE⟩ (Wk.weak (wkG [some _] zr5 ⟨wqE rfl pE,trivial⟩ (by decide) aD)) (fun s B hs hB=> ?_)
 obtain⟨z,E⟩:=s
 obtain⟨h0,h1,hE⟩:=hs
 dsimp only at h0 h1 hE
 have pE:=pmV hE
 obtain⟨z1,hv⟩:=nmE (z+1)
 have ez:g .w .add .i64 z 1=z1:=by rw [aN hg,hv];exact wr1 (by omega) (by omega)
 have tz:g .q .lss z1 many=decide (z1<many):=bh hg _ _
 by_cases hz:z1<many
 rotate_left
 ·(first|rw [zqu hz]at tz|rw [zqt hz]at tz|rw [zqu (Classical.not_not.2 hz)]at tz|rw [zqt (Classical.not_not.2 hz)]at tz)
  cbv
  (repeat'((first|rw [ez]|rw [tz]);cbv))
  obtain rfl:E=S:=by rw [hS,hE,hk z h0 h1 (by omega)]
  exact bR hF rfl pE
 have hx:z<aX E:=by rw [hE,aQ,DY _ (by omega)];omega
 have he:∃e,E[z.toNat]? =some e/\e.length=1:=⟨_,by rw [hE];exact bf (Fg (btw free many js) (show z.toNat<many.toNat by omega)),rfl⟩
 obtain⟨b,hb⟩:=nmE (btw free many js z)
 have hc:E.set z.toNat [.J b]=vw ak (spL (btw free many js) many.toNat z1.toNat):=by
  rw [hE,hb,show z1.toNat=z.toNat+1 by omega,<-DX (btw free many js) (show z.toNat<many.toNat by omega),<-mB,show((z.toNat:Nat):Int)=z by omega];rfl
 have hf:b=0->E=vw ak (spL (btw free many js) many.toNat z1.toNat):=fun h=>by
  rw [hE,show z1.toNat=z.toNat+1 by omega,<-BQ (btw free many js) (show z.toNat<many.toNat by omega)]
  rw [show((z.toNat:Nat):Int)=z by omega,<-hb,h]
 have hl:∀m:Int,0<=m->m<=64->((evn free m).length:Int)=m:=fun m a b=>by rw [gP,nN a b]
 have c4:=eb free (many-1)
 have c5:=eb free (2*many)
 have c6:=eb free (many+1)
 have x4:(vw ak (evn free (many-1)))[z.toNat]? =some [.J (elZ (evn free (many-1)) z)]:=bf (kj h0 (by rw [hl _ (by omega) (by omega)];omega))
 have x5:(vw ak (evn free (2*many)))[(2*z+1).toNat]? =some [.J (elZ (evn free (2*many)) (2*z+1))]:=bf (kj (by omega) (by rw [hl _ (by omega) (by omega)];omega))
 have y5:(vw ak (evn free (2*many)))[(2*z+2).toNat]? =some [.J (elZ (evn free (2*many)) (2*z+2))]:=bf (kj (by omega) (by rw [hl _ (by omega) (by omega)];omega))
 have x6:(vw ak (evn free (many+1)))[z1.toNat]? =some [.J (elZ (evn free (many+1)) (z+1))]:=by rw [hv];exact bf (kj (by omega) (by rw [hl _ (by omega) (by omega)];omega))
 have ha:=hb
 unfold btw at ha
 rw [if_neg f0]at ha
 obtain⟨v4,ho⟩:=nmE (elZ (evn free (many-1)) z);(try rw [<-ho]at ha);(try rw [<-ho]at x4)
 obtain⟨v5,hp⟩:=nmE (elZ (evn free (2*many)) (2*z+1));(try rw [<-hp]at ha);(try rw [<-hp]at x5)
 obtain⟨u5,hn⟩:=nmE (elZ (evn free (2*many)) (2*z+2));(try rw [<-hn]at ha);(try rw [<-hn]at y5)
 obtain⟨v6,hq⟩:=nmE (elZ (evn free (many+1)) (z+1));(try rw [<-hq]at ha);(try rw [<-hq]at x6)
 obtain⟨Y4,hi⟩:=nmE (vw ak (evn free (many-1)));(try rw [<-hi]at c4);(try rw [<-hi]at x4)
 obtain⟨Y5,hh⟩:=nmE (vw ak (evn free (2*many)));(try rw [<-hh]at c5);(try rw [<-hh]at x5);(try rw [<-hh]at y5)
 obtain⟨Y6,hj⟩:=nmE (vw ak (evn free (many+1)));(try rw [<-hj]at c6);(try rw [<-hj]at x6)
 have e1:g .w .sub .i64 many 1=many-1:=by rw [bZ hg,wr1 (by omega) (by omega)]
 have e2:g .w .mul .i64 2 many=2*many:=by rw [gc hg,wr1 (by omega) (by omega)]
 have e3:g .w .add .i64 many 1=many+1:=by rw [aN hg,wr1 (by omega) (by omega)]
 have e5:g .w .mul .i64 2 z=2*z:=by rw [gc hg,wr1 (by omega) (by omega)]
 have e6:g .w .add .i64 (2*z) 1=2*z+1:=by rw [aN hg,wr1 (by omega) (by omega)]
 have e7:g .w .add .i64 (2*z) 2=2*z+2:=by rw [aN hg,wr1 (by omega) (by omega)]
 have e8:g .w .add .i64 v5 u5=wrap64 (v5+u5):=aN hg _ _
 obtain⟨Z,hZ⟩:=nmE (wrap64 (v5+u5));(try rw [<-hZ]at ha);(try rw [<-hZ]at e8)
 have q4:g .q .eql (js) (4)=decide ((js)=(4)):=by rw [bj hg];exact zqn _ _
 have q5:g .q .eql (js) (5)=decide ((js)=(5)):=by rw [bj hg];exact zqn _ _
 have q6:g .q .eql (js) (6)=decide ((js)=(6)):=by rw [bj hg];exact zqn _ _
 have hd:12-z1.toNat<12-z.toNat:=by omega
 have n1:0<=z1/\(z1=0\/z1<many):=by omega
 have hy:0<=2*z+1:=by omega
 have hA:0<=2*z+2:=by omega
 clear ho hp hn hq hi hh hj hl hZ hb
 generalize 2*z+1=k1 at *
 generalize 2*z+2=k2 at *
 generalize 2*z=k3 at *
 generalize 2*many=m2 at *
 generalize many+1=mp at *
 generalize many-1=m3 at *
 have pS:aC (E.set z.toNat [.J b])=true:=by rw [hc];exact aF _ _
 obtain⟨E1,ht⟩:∃E1,E1=E.set z.toNat [.J b]:=⟨_,rfl⟩
 rw [<-ht]at hc pS
 (first|rw [zqu hz]at tz|rw [zqt hz]at tz|rw [zqu (Classical.not_not.2 hz)]at tz|rw [zqt (Classical.not_not.2 hz)]at tz)
 by_cases j4:js=4<;>by_cases j5:js=5<;>by_cases j6:js=6
 all_goals first
  |(exfalso;omega)
  |(
   (first|rw [zqu j4]at q4|rw [zqt j4]at q4|rw [zqu (Classical.not_not.2 j4)]at q4|rw [zqt (Classical.not_not.2 j4)]at q4);(first|rw [zqu j5]at q5|rw [zqt j5]at q5|rw [zqu (Classical.not_not.2 j5)]at q5|rw [zqt (Classical.not_not.2 j5)]at q5);(first|rw [zqu j6]at q6|rw [zqt j6]at q6|rw [zqu (Classical.not_not.2 j6)]at q6|rw [zqt (Classical.not_not.2 j6)]at q6)
   simp [j4,j5,j6]at ha
   cbv
   (repeat'((first|rw [ez]|rw [tz]|rw [q4]|rw [q5]|rw [q6]|rw [e1]|rw [e2]|rw [e3]|rw [e5]|rw [e6]|rw [e7]|rw [e8]|refine ad hg c4 ?_|refine ad hg c5 ?_|refine ad hg c6 ?_|refine goX hg _ (by omega) x4 rfl ?_|refine goX hg _ (by omega) x5 rfl ?_|refine goX hg _ (by omega) y5 rfl ?_|refine goX hg _ (by omega) x6 rfl ?_);cbv))
   first
    |(subst hB
      exact⟨(z1,E),⟨n1.1,n1.2,hf ha⟩,hd,Wk.weak (wkG [some _] zr5 ⟨wqE rfl pE,trivial⟩ (by decide) aD)⟩)
    |(refine goY hg h0 hx fun j2 hu hw=> ?_
      cbv
      refine goN hg (by rw [hu];exact he) ?_
      cbv
      rw [mP hg,hu,<-ha,ez]
      dsimp only [AT.cells]
      rw [<-ht]
      subst hB
      exact⟨(z1,E1),⟨n1.1,n1.2,hc⟩,hd,Wk.weak (wkG [some _] zr5 ⟨wqE rfl pS,trivial⟩ (by decide) aD)⟩))
theorem jW(free many js:Int)(hm0:0<=many)(hm1:many<=12):PC0 275 [ai free,ai many,ai js] (.t (.c (.view (vw ak (spc free many js))))):=wx (oS free many js hm0 hm1) fun _=>rfl
theorem r9(xs:List Int)(hl:xs.length<=1048576):PC0 246 [.c (.view (vw ak xs))] (.i (yO 0 xs)):=by
 obtain⟨V,hV⟩:=nmE (vw ak xs)
 have hb:=lmV hV
 have iV:=imV hV
 have kV:=kmV (k:=1) hV fun _=>rfl
 have dV:=dmV hV
 obtain⟨R,hR⟩:=nmE (yO 0 xs)
 rw [<-hV,<-hR]
 refine ae (aJ f246) ay func246 fun g F hg hF=> ?_
 cbv
 refine aY hg ay (by kernel_rfl) V (fun x=>lc (ak x)) xs hV hl (fun z(s:Int)=>[(3,.i (s)),(6,.v V),(7,.i (g .ln V)),(8,.i (z))]) (fun z(s:Int)=>[]) (fun z(s:Int)=>True) (fun(s:Int) rest=>yO s rest) (R) (0:Int) hR.symm trivial (Wk.weak (wkG [] zr4 trivial (by decide) aD)) (fun z s B hz h0 hi he=> ?_) (fun z s x rest B z0 z1 z2 hx hy h0 hi hc e1 hB=> ?_)
 ·cbv;rw [he];cbv
  exact aV hF h0
 ·cbv;rw [hc];cbv;refine goX hg _ z0 hy rfl ?_;cbv
  (first|refine ba hg (bN _) rfl (fun Q0 ha=> ?_)|refine aB hg (bN _) rfl (fun Q0 ha=> ?_));cbv
  rw [e1,aN hg,ha]
  exact hB (_) _ _ ⟨h0,trivial⟩ (Wk.weak (wkG [] zr4 trivial (by decide) aD))
theorem rC(xs:List Int)(hl:xs.length<=1048576):PC0 268 [.c (.view (vw ak xs))] (.i (yO 0 xs)):=by
 obtain⟨V,hV⟩:=nmE (vw ak xs)
 have hb:=lmV hV
 have iV:=imV hV
 have kV:=kmV (k:=1) hV fun _=>rfl
 have dV:=dmV hV
 obtain⟨R,hR⟩:=nmE (yO 0 xs)
 rw [<-hV,<-hR]
 refine ae (aJ f268) ay func268 fun g F hg hF=> ?_
 cbv
 refine aY hg ay (by kernel_rfl) V (fun x=>lc (ak x)) xs hV hl (fun z(s:Int)=>[(0,.v V),(3,.i (s)),(4,.i (z))]) (fun z(s:Int)=>[]) (fun z(s:Int)=>True) (fun(s:Int) rest=>yO s rest) (R) (0:Int) hR.symm trivial (Wk.weak (wkG [] zr3 trivial (by decide) aD)) (fun z s B hz h0 hi he=> ?_) (fun z s x rest B z0 z1 z2 hx hy h0 hi hc e1 hB=> ?_)
 ·cbv;rw [he];cbv
  exact aV hF h0
 ·cbv;rw [hc];cbv;refine goX hg _ z0 hy rfl ?_;cbv
  (first|refine ba hg (bD _) rfl (fun Q0 ha=> ?_)|refine aB hg (bD _) rfl (fun Q0 ha=> ?_));cbv
  rw [e1,aN hg,ha]
  exact hB (_) _ _ ⟨h0,trivial⟩ (Wk.weak (wkG [] zr3 trivial (by decide) aD))
theorem fZ(xs:List Int)(gap:Int)(hl:xs.length<=1048576):PC0 179 [.c (.view (vw ak xs)),ai gap] (.i (crt xs gap)):=by
 have cT:=r9 xs hl
 have ha:xs=[]↔(xs.length:Int)=0:=by
  cases xs with
  |nil=>simp
  |cons x xs=>simp;omega
 obtain⟨R,hR⟩:=nmE (crt xs gap)
 rw [<-hR]
 unfold crt at hR
 simp only [ha]at hR
 obtain⟨T,hT⟩:=nmE (yO 0 xs);(try rw [<-hT]at cT);(try rw [<-hT]at hR)
 obtain⟨V,hV⟩:=nmE (vw ak xs)
 have hd:=lmV hV
 have iV:=imV hV
 have kV:=kmV (k:=1) hV fun _=>rfl
 have dV:=dmV hV
 have hb:aX V=(xs.length:Int):=by rw [hV,aQ]
 rw [<-hV]at cT⊢
 have hc:0<=(xs.length:Int)/\(xs.length:Int)<=1048576:=by omega
 clear ha
 obtain⟨n,hn⟩:=nmE ((xs.length:Int));(try rw [<-hn]at hb);(try rw [<-hn]at hc);(try rw [<-hn]at hR)
 refine ae (aJ f179) ay func179 fun g F hg hF=> ?_
 have t4:g .ln V=n:=by rw [bF hg,hb]
 have t1:g .q .eql (n) (0)=decide ((n)=(0)):=by rw [bj hg];exact zqn _ _
 have e1:g .w .sub .i64 n 1=n-1:=by rw [bZ hg];exact wr1 (by omega) (by omega)
 have e2:g .w .mul .i64 gap (n-1)=wrap64 (gap*(n-1)):=gc hg _ _
 have e3:g .w .add .i64 T (wrap64 (gap*(n-1)))=wrap64 (T+wrap64 (gap*(n-1))):=aN hg _ _
 by_cases h:n=0
 ·rw [if_pos h]at hR
  (first|rw [zqu h]at t1|rw [zqt h]at t1|rw [zqu (Classical.not_not.2 h)]at t1|rw [zqt (Classical.not_not.2 h)]at t1)
  cbv
  (repeat'((first|rw [t4]|rw [t1]);cbv))
  exact aV hF hR.symm
 ·rw [if_neg h]at hR
  (first|rw [zqu h]at t1|rw [zqt h]at t1|rw [zqu (Classical.not_not.2 h)]at t1|rw [zqt (Classical.not_not.2 h)]at t1)
  rw [<-hR]at e3
  generalize wrap64 (gap*(n-1))=m2 at *
  generalize n-1=m1 at *
  cbv
  (repeat'((first|rw [t4]|rw [t1]|rw [e1]|rw [e2]|rw [e3]|refine ad hg cT ?_);cbv))
  exact aV hF rfl
theorem fV(xs:List Int)(gap:Int)(hl:xs.length<=1048576):PC0 215 [.c (.view (vw ak xs)),ai gap] (.i (crt xs gap)):=by
 have cT:=rC xs hl
 have ha:xs=[]↔(xs.length:Int)=0:=by
  cases xs with
  |nil=>simp
  |cons x xs=>simp;omega
 obtain⟨R,hR⟩:=nmE (crt xs gap)
 rw [<-hR]
 unfold crt at hR
 simp only [ha]at hR
 obtain⟨T,hT⟩:=nmE (yO 0 xs);(try rw [<-hT]at cT);(try rw [<-hT]at hR)
 obtain⟨V,hV⟩:=nmE (vw ak xs)
 have hd:=lmV hV
 have iV:=imV hV
 have kV:=kmV (k:=1) hV fun _=>rfl
 have dV:=dmV hV
 have hb:aX V=(xs.length:Int):=by rw [hV,aQ]
 rw [<-hV]at cT⊢
 have hc:0<=(xs.length:Int)/\(xs.length:Int)<=1048576:=by omega
 clear ha
 obtain⟨n,hn⟩:=nmE ((xs.length:Int));(try rw [<-hn]at hb);(try rw [<-hn]at hc);(try rw [<-hn]at hR)
 refine ae (aJ f215) ay func215 fun g F hg hF=> ?_
 have t4:g .ln V=n:=by rw [bF hg,hb]
 have t1:g .q .eql (n) (0)=decide ((n)=(0)):=by rw [bj hg];exact zqn _ _
 have e1:g .w .sub .i64 n 1=n-1:=by rw [bZ hg];exact wr1 (by omega) (by omega)
 have e2:g .w .mul .i64 gap (n-1)=wrap64 (gap*(n-1)):=gc hg _ _
 have e3:g .w .add .i64 T (wrap64 (gap*(n-1)))=wrap64 (T+wrap64 (gap*(n-1))):=aN hg _ _
 by_cases h:n=0
 ·rw [if_pos h]at hR
  (first|rw [zqu h]at t1|rw [zqt h]at t1|rw [zqu (Classical.not_not.2 h)]at t1|rw [zqt (Classical.not_not.2 h)]at t1)
  cbv
  (repeat'((first|rw [t4]|rw [t1]);cbv))
  exact aV hF hR.symm
 ·rw [if_neg h]at hR
  (first|rw [zqu h]at t1|rw [zqt h]at t1|rw [zqu (Classical.not_not.2 h)]at t1|rw [zqt (Classical.not_not.2 h)]at t1)
  rw [<-hR]at e3
  generalize wrap64 (gap*(n-1))=m2 at *
  generalize n-1=m1 at *
  cbv
  (repeat'((first|rw [t4]|rw [t1]|rw [e1]|rw [e2]|rw [e3]|refine ad hg cT ?_);cbv))
  exact aV hF rfl
theorem lv(xs:List Int)(gap inner:Int)(hl:xs.length<=1048576):PC0 247 [.c (.view (vw ak xs)),ai gap,ai inner] (.t (abl (acr xs gap inner))):=by
 have cg:=db gap 0 1048576
 have ci:=db inner 0 1048576
 change PC0 _ _ (.t (abl (rng gap 0 1048576)))at cg
 change PC0 _ _ (.t (abl (rng inner 0 1048576)))at ci
 obtain⟨R,hR⟩:=nmE (acr xs gap inner)
 rw [<-hR]
 unfold acr at hR
 obtain⟨G,hG⟩:=nmE (rng gap 0 1048576);(try rw [<-hG]at cg);(try rw [<-hG]at hR)
 obtain⟨J,hJ⟩:=nmE (rng inner 0 1048576);(try rw [<-hJ]at ci);(try rw [<-hJ]at hR)
 obtain⟨q,hq⟩:=nmE (decide ((xs.length:Int)<=12));(try rw [<-hq]at hR)
 obtain⟨T,hT⟩:=nmE ((q&&(G&&J)))
 rw [<-hT]at hR
 obtain⟨V,hV⟩:=nmE (vw ak xs)
 have hd:=lmV hV
 have iV:=imV hV
 have kV:=kmV (k:=1) hV fun _=>rfl
 have dV:=dmV hV
 have hb:aX V=(xs.length:Int):=by rw [hV,aQ]
 rw [<-hV]
 refine ae (aJ f247) ay func247 fun g F hg hF=> ?_
 have t1:g .q .leq (g .ln V) 12=q:=by rw [iy hg,bF hg,hb,hq]
 cbv
 refine aY hg ay (by kernel_rfl) V (fun x=>lc (ak x)) xs hV hl (fun z(s:Unit)=>[(0,.v V),(1,.i (gap)),(2,.i (inner)),(9,.v V),(10,.i (g .ln V)),(11,.i (z))]) (fun z(s:Unit)=>[]) (fun z(s:Unit)=>True) (fun(s:Unit) rest=>rest.all (fun c=>rng c 0 1048576)&&T) (R) () hR.symm trivial (Wk.weak (wkG [] zr6 trivial (by decide) aD)) (fun z s B hz h0 hi he=> ?_) (fun z s x rest B z0 z1 z2 hx hy h0 hi hc e1 hB=> ?_)
 rotate_left
 ·cbv;rw [hc];cbv;refine goX hg _ z0 hy rfl ?_;cbv
  (first|refine bz hg (db x 0 1048576) rfl (fun R0 ha=> ?_)|refine bd hg (db x 0 1048576) rfl (fun R0 ha=> ?_));cbv
  cases R0<;>cbv
  ·exact bk hF (by rw [<-h0,zqD,show rng x 0 1048576=false from ha.symm];rfl)
  ·rw [e1]
   exact hB (()) _ _ ⟨by rw [<-h0,zqD,show rng x 0 1048576=true from ha.symm];rfl,trivial⟩ (Wk.weak (wkG [] zr6 trivial (by decide) aD))
 cbv;rw [he];cbv
 have h0:T=R:=h0
 clear hG hJ hq hR
 cases q<;>cases G<;>cases J
 all_goals((repeat'((first|rw [t1]|refine ad hg cg ?_|refine ad hg ci ?_);cbv));exact bk hF (by rw [<-h0,hT];rfl))
theorem kQ(xs:List Int)(gap inner:Int)(hl:xs.length<=1048576):PC0 272 [.c (.view (vw ak xs)),ai gap,ai inner] (.t (abl (acr xs gap inner))):=by
 have cg:=bI gap 0 1048576
 have ci:=bI inner 0 1048576
 change PC0 _ _ (.t (abl (rng gap 0 1048576)))at cg
 change PC0 _ _ (.t (abl (rng inner 0 1048576)))at ci
 obtain⟨R,hR⟩:=nmE (acr xs gap inner)
 rw [<-hR]
 unfold acr at hR
 obtain⟨G,hG⟩:=nmE (rng gap 0 1048576);(try rw [<-hG]at cg);(try rw [<-hG]at hR)
 obtain⟨J,hJ⟩:=nmE (rng inner 0 1048576);(try rw [<-hJ]at ci);(try rw [<-hJ]at hR)
 obtain⟨q,hq⟩:=nmE (decide ((xs.length:Int)<=12));(try rw [<-hq]at hR)
 obtain⟨T,hT⟩:=nmE ((q&&(G&&J)))
 rw [<-hT]at hR
 obtain⟨V,hV⟩:=nmE (vw ak xs)
 have hd:=lmV hV
 have iV:=imV hV
 have kV:=kmV (k:=1) hV fun _=>rfl
 have dV:=dmV hV
 have hb:aX V=(xs.length:Int):=by rw [hV,aQ]
 rw [<-hV]
 refine ae (aJ f272) ay func272 fun g F hg hF=> ?_
 have t1:g .q .leq (g .ln V) 12=q:=by rw [iy hg,bF hg,hb,hq]
 cbv
 refine aY hg ay (by kernel_rfl) V (fun x=>lc (ak x)) xs hV hl (fun z(s:Unit)=>[(0,.v V),(1,.i (gap)),(2,.i (inner)),(7,.i (z))]) (fun z(s:Unit)=>[]) (fun z(s:Unit)=>True) (fun(s:Unit) rest=>rest.all (fun c=>rng c 0 1048576)&&T) (R) () hR.symm trivial (Wk.weak (wkG [] zr4 trivial (by decide) aD)) (fun z s B hz h0 hi he=> ?_) (fun z s x rest B z0 z1 z2 hx hy h0 hi hc e1 hB=> ?_)
 rotate_left
 ·cbv;rw [hc];cbv;refine goX hg _ z0 hy rfl ?_;cbv
  (first|refine bz hg (bI x 0 1048576) rfl (fun R0 ha=> ?_)|refine bd hg (bI x 0 1048576) rfl (fun R0 ha=> ?_));cbv
  cases R0<;>cbv
  ·exact bk hF (by rw [<-h0,zqD,show rng x 0 1048576=false from ha.symm];rfl)
  ·rw [e1]
   exact hB (()) _ _ ⟨by rw [<-h0,zqD,show rng x 0 1048576=true from ha.symm];rfl,trivial⟩ (Wk.weak (wkG [] zr4 trivial (by decide) aD))
 cbv;rw [he];cbv
 have h0:T=R:=h0
 clear hG hJ hq hR
 cases q<;>cases G<;>cases J
 all_goals((repeat'((first|rw [t1]|refine ad hg cg ?_|refine ad hg ci ?_);cbv));exact bk hF (by rw [<-h0,hT];rfl))
end Go.Proofs.YtckchgoblpgpbaaGreat
