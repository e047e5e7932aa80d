/- Lines across: their total, stretched, placed; both programs. -/
import Derived.Test.YtkicjdeddpihaaaGreatS4bi
set_option linter.unusedVariables false
set_option linter.unusedSimpArgs false
set_option maxHeartbeats 4000000
namespace Go.Proofs.YtkicjdeddpihaaaGreat
open Go.ChangeShapes Go.WideShapes Go.ChangeAt Go.RowKit Am Go.Proofs.Tryz
set_option maxRecDepth 100000
variable {α:Type}
theorem xE{f:FuncId}{args:List AT}{t k:Nat}{c:α->Array Value}{xs:List α}(hc:da prog f args fun res ha=>res= .o 0/\ha=[⟨t,k,vw c xs⟩])(hk:∀x,(c x).size=k):PC0 f args (.t (.c (.view (vw c xs)))):=
 uV hc (Dg hk) tH
theorem dd(l:List Int)(hl:l.length<=1048576)(i:Int):PC0 185 [.c (.view (vw aj l)),ai i] (.i (elZ l i)):=by
 obtain⟨V,hV⟩:=nmE (vw aj l)
 have hb:=lmV hV
 have iV:=imV hV
 have kV:=kmV (k:=1) hV fun _=>rfl
 have dV:=dmV hV
 have ha:aN V=(l.length:Int):=by rw [hV,aO]
 have hy:¬i<0->¬(l.length:Int)<=i->V[i.toNat]? =some [.J (elZ l i)]:=fun h0 h1=>by rw [hV];exact ba (ky (by omega) (by omega))
 have ho:i<0\/(l.length:Int)<=i->elZ l i=0:=CR
 obtain⟨e,he⟩:=nmE (elZ l i)
 rw [<-hV,<-he]
 rw [<-he]at hy ho
 refine ad (aM f185) ay func185 fun g F hg hF=> ?_
 have t1:g .q .lss i 0=decide (i<0):=bg hg _ _
 have t2:g .q .geq i (g .ln V)=decide ((l.length:Int)<=i):=by rw [iO hg,bz hg,ha]
 by_cases h0:i<0
 ·rw [zqu h0]at t1
  cbv
  rw [t1]
  cbv
  exact aV hF (ho (.inl h0)).symm
 ·rw [zqt h0]at t1
  by_cases h1:(l.length:Int)<=i
  ·rw [zqu h1]at t2
   cbv
   rw [t1]
   cbv
   rw [t2]
   cbv
   exact aV hF (ho (.inr h1)).symm
  ·rw [zqt h1]at t2
   cbv
   rw [t1]
   cbv
   rw [t2]
   cbv
   refine goX hg _ (by omega) (hy h0 h1) rfl ?_
   cbv
   exact aV hF rfl
theorem k6(l:List Int)(hl:l.length<=1048576):PC0 301 [.c (.view (vw aj l))] (.i (elZ l 0)):=by
 obtain⟨V,hV⟩:=nmE (vw aj l)
 have hb:=lmV hV
 have iV:=imV hV
 have kV:=kmV (k:=1) hV fun _=>rfl
 have dV:=dmV hV
 have ha:aN V=(l.length:Int):=by rw [hV,aO]
 have hy:¬(l.length:Int)=0->V[(0:Int).toNat]? =some [.J (elZ l 0)]:=fun h1=>by rw [hV];exact ba (ky (by omega) (by omega))
 have ho:(l.length:Int)=0->elZ l 0=0:=fun h=>CR (.inr (by omega))
 obtain⟨e,he⟩:=nmE (elZ l 0)
 rw [<-hV,<-he]
 rw [<-he]at hy ho
 refine ad (aM f301) ay func301 fun g F hg hF=> ?_
 have t1:g .q .eql (g .ln V) 0=decide ((l.length:Int)=0):=by rw [bn hg,bz hg,ha];exact zqn _ _
 by_cases h0:(l.length:Int)=0
 ·rw [zqu h0]at t1
  cbv
  rw [t1]
  cbv
  exact aV hF (ho h0).symm
 ·rw [zqt h0]at t1
  cbv
  rw [t1]
  cbv
  refine goX hg _ (by omega) (hy h0) rfl ?_
  cbv
  exact aV hF rfl
theorem uE(n many:Int):da prog 300 [ai n,ai many] fun res ha=>res= .o 0/\ha=[⟨3,1,vw aj (evn n many)⟩]:=by
 have hm:evm many<=64:=pg many
 have c1:=no n (List.replicate (evm many) 1) (by rw [List.length_replicate];omega)
 obtain⟨S,hS⟩:=nmE (vw aj (evn n many))
 have iS:=imV hS
 have pS:=pmV hS
 rw [show shr n (List.replicate (evm many) 1)=evn n many from rfl,<-hS]at c1
 rw [<-hS]
 refine ad (aM f300) ay func300 fun g F hg hF=> ?_
 cbv
 refine jB hg ay (by kernel_rfl) (fun s:Int×LLA=>[(0,.i (n)),(1,.i (many)),(5,.o 0),(6,.i (s.1))]) (fun s=>[.rw ⟨3,1,s.2⟩]) (fun s=>0<=s.1/\(s.1=0\/s.1<=many/\many<=64)/\s.2=vw aj (List.replicate s.1.toNat 1)) (fun s=>64-s.1.toNat)
  (0,[]) ⟨by simp,by simp,rfl⟩ (Wk.weak (wkG [some 0] zr4 ⟨wqE rfl rfl,trivial⟩ (by decide) aG)) (fun s B hs hB=> ?_)
 obtain⟨z,E⟩:=s
 obtain⟨h0,h1,hE⟩:=hs
 dsimp only at h0 h1 hE
 have hc:z.toNat<=64:=by omega
 have hb:E.length<=1048576:=by rw [hE,ar,List.length_replicate];omega
 have pE:=pmV hE
 have kE:=kmV (k:=1) hE fun _=>rfl
 have dE:=dmV hE
 have tz:g .q .lss z many=decide (z<many):=bg hg _ _
 have tm:g .q .leq many 64=decide (many<=64):=iR hg _ _
 have ez:g .w .add .i64 z 1=z+1:=by rw [aJ hg];exact wr1 (by omega) (by omega)
 have aE:E++[[.J 1]]=vw aj (List.replicate (z+1).toNat 1):=by
  rw [show(z+1).toNat=z.toNat+1 by omega,List.replicate_succ',br,hE];rfl
 have done:¬(z<many/\many<=64)->E=vw aj (List.replicate (evm many) 1):=fun h=>by
  have:z.toNat=evm many:=by unfold evm;split<;>omega
  rw [hE,this]
 by_cases hz:z<many
 ·by_cases hm64:many<=64
  ·have fin:0<=z+1/\(z+1=0\/z+1<=many/\many<=64)/\64-(z+1).toNat<64-z.toNat:=by omega
   cbv
   rw [tz,zqu hz]
   cbv
   rw [tm,zqu hm64]
   cbv
   refine dz hg rfl (by decide) hb ?_
   cbv
   rw [gW hg,ez]
   generalize E++_=E2 at aE⊢
   have aE:E2=_:=aE
   have hd:=pmV aE
   subst hB
   exact⟨(z+1,E2),⟨fin.1,fin.2.1,aE⟩,fin.2.2,Wk.weak (wkG [some 2] zr4 ⟨wqE rfl hd,trivial⟩ (by decide) aG)⟩
  ·rw [<-done (by omega)]at c1
   cbv
   rw [tz,zqu hz]
   cbv
   rw [tm,zqt hm64]
   cbv
   first|(refine bK hg c1 (aq (aw rfl) (aq (bf (ab:=⟨_,_,E⟩) rfl kE dE) (aC))) iS ?_;cbv)|(refine bW hg c1 (aq (aw rfl) (aq (bf (ab:=⟨_,_,E⟩) rfl kE dE) (aC))) iS ?_;cbv)
   exact bV hF rfl pS
 ·rw [<-done (by omega)]at c1
  cbv
  rw [tz,zqt hz]
  cbv
  first|(refine bK hg c1 (aq (aw rfl) (aq (bf (ab:=⟨_,_,E⟩) rfl kE dE) (aC))) iS ?_;cbv)|(refine bW hg c1 (aq (aw rfl) (aq (bf (ab:=⟨_,_,E⟩) rfl kE dE) (aC))) iS ?_;cbv)
  exact bV hF rfl pS
theorem vJ(n many:Int):da prog 291 [ai n,ai many] fun res ha=>res= .o 0/\ha=[⟨3,1,vw aj (evn n many)⟩]:=by
 have hm:evm many<=64:=pg many
 have c1:=nU n (List.replicate (evm many) 1) (by rw [List.length_replicate];omega)
 have c0:=de many 0 64
 have hf:(decide (0<=many)&&decide (many<=64))=false->evn n many=[]\/evm many=0:=fun h=>by
  right
  simp only [Bool.and_eq_false_iff,zqo]at h
  unfold evm;split<;>omega
 have he:evm many=0->evn n many=[]:=fun h=>zqv (by rw [ii,h])
 obtain⟨S,hS⟩:=nmE (vw aj (evn n many))
 have hc:evn n many=[]->S=[]:=fun h=>by rw [hS,h];rfl
 have iS:=imV hS
 have pS:=pmV hS
 rw [show shr n (List.replicate (evm many) 1)=evn n many from rfl,<-hS]at c1
 rw [<-hS]
 cases hq:(decide (0<=many)&&decide (many<=64))
 ·have e:S=[]:=hc ((hf hq).elim id he)
  rw [hq]at c0
  subst e
  refine ad (aM f291) ay func291 fun g F hg hF=> ?_
  cbv
  repeat'(refine ae hg c0 ?_;cbv)
  exact CL _ _ hF ⟨rfl,rfl⟩
 rw [hq]at c0
 simp only [zqs,zqp]at hq
 have hj:(evm many:Int)=many:=od hq.1 hq.2
 refine ad (aM f291) ay func291 fun g F hg hF=> ?_
 cbv
 repeat'(refine ae hg c0 ?_;cbv)
 refine jB hg ay (by kernel_rfl) (fun s:Int×LLA=>[(0,.i (n)),(5,.o 0),(9,.i (many)),(10,.i (s.1))]) (fun s=>[.rw ⟨3,1,s.2⟩]) (fun s=>0<=s.1/\s.1<=many/\s.2=vw aj (List.replicate s.1.toNat 1)) (fun s=>64-s.1.toNat)
  (0,[]) ⟨by simp,hq.1,rfl⟩ (Wk.weak (wkG [none] zr4 ⟨⟨_,rfl,rfl⟩,trivial⟩ (by decide) aG)) (fun s B hs hB=> ?_)
 obtain⟨z,E⟩:=s
 obtain⟨h0,h1,hE⟩:=hs
 dsimp only at h0 h1 hE
 have hh:z.toNat<=64:=by omega
 have hb:E.length<=1048576:=by rw [hE,ar,List.length_replicate];omega
 have pE:=pmV hE
 have kE:=kmV (k:=1) hE fun _=>rfl
 have dE:=dmV hE
 have tz:g .q .lss z many=decide (z<many):=bg hg _ _
 have ez:g .w .add .i64 z 1=z+1:=by rw [aJ hg];exact wr1 (by omega) (by omega)
 have aE:E++[[.J 1]]=vw aj (List.replicate (z+1).toNat 1):=by
  rw [show(z+1).toNat=z.toNat+1 by omega,List.replicate_succ',br,hE];rfl
 have done:¬z<many->E=vw aj (List.replicate (evm many) 1):=fun h=>by
  have hd:(evm many:Int)=many:=od hq.1 hq.2
  have:z.toNat=evm many:=by omega
  rw [hE,this]
 by_cases hz:z<many
 ·have fin:0<=z+1/\z+1<=many/\64-(z+1).toNat<64-z.toNat:=by omega
  cbv
  rw [tz,zqu hz]
  cbv
  refine dz hg rfl (by decide) hb ?_
  cbv
  rw [gW hg,ez]
  generalize E++_=E2 at aE⊢
  have aE:E2=_:=aE
  have hi:=pmV aE
  subst hB
  exact⟨(z+1,E2),⟨fin.1,fin.2.1,aE⟩,fin.2.2,Wk.weak (wkG [some 2] zr4 ⟨wqE rfl hi,trivial⟩ (by decide) aG)⟩
 ·rw [<-done hz]at c1
  cbv
  rw [tz,zqt hz]
  cbv
  first|(refine bK hg c1 (aq (aw rfl) (aq (bf (ab:=⟨_,_,E⟩) rfl kE dE) (aC))) iS ?_;cbv)|(refine bW hg c1 (aq (aw rfl) (aq (bf (ab:=⟨_,_,E⟩) rfl kE dE) (aC))) iS ?_;cbv)
  exact bV hF rfl pS
theorem ei(n many:Int):PC0 300 [ai n,ai many] (.t (.c (.view (vw aj (evn n many))))):=xE (uE n many) fun _=>rfl
theorem ek(n many:Int):PC0 291 [ai n,ai many] (.t (.c (.view (vw aj (evn n many))))):=xE (vJ n many) fun _=>rfl
theorem n5(free many js:Int):PC0 248 [ai free,ai many,ai js] (.i (led free many js)):=by
 have c0:=de many 1 12
 have cd:=bJ free 2
 have c5:=ek free (2*many)
 have c6:=ek free (many+1)
 change PC0 _ _ (.t (abl (rng many 1 12)))at c0
 have ha:rng many 1 12=true->(vw aj (evn free (2*many)))[(0:Int).toNat]? =some [.J (elZ (evn free (2*many)) 0)]:=fun h=>by
  simp only [rng,zqs,zqp]at h
  exact ba (ky (by omega) (by rw [ii,od (by omega) (by omega)];omega))
 have hb:rng many 1 12=true->(vw aj (evn free (many+1)))[(0:Int).toNat]? =some [.J (elZ (evn free (many+1)) 0)]:=fun h=>by
  simp only [rng,zqs,zqp]at h
  exact ba (ky (by omega) (by rw [ii,od (by omega) (by omega)];omega))
 have hi:rng many 1 12=true->wrap64 (2*many)=2*many/\wrap64 (many+1)=many+1:=fun h=>by
  simp only [rng,zqs,zqp]at h
  exact⟨ak _ (by omega),ak _ (by omega)⟩
 obtain⟨R,hR⟩:=nmE (led free many js)
 unfold led at hR
 obtain⟨v5,hf⟩:=nmE (elZ (evn free (2*many)) 0)
 obtain⟨v6,hh⟩:=nmE (elZ (evn free (many+1)) 0)
 obtain⟨d,hd⟩:=nmE (fdv free 2)
 obtain⟨Y5,hc⟩:=nmE (vw aj (evn free (2*many)))
 obtain⟨Y6,he⟩:=nmE (vw aj (evn free (many+1)))
 obtain⟨I,hI⟩:=nmE (rng many 1 12)
 rw [show PC0 _ _ _=PC0 _ _ (.i R) by rw [hR];unfold led;rfl]
 rw [<-hf,<-hh,<-hd,<-hI]at hR
 rw [<-hf,<-hc,<-hI]at ha
 rw [<-hh,<-he,<-hI]at hb
 rw [<-hI]at hi c0
 rw [<-hc]at c5
 rw [<-he]at c6
 rw [<-hd]at cd
 clear hf hh hd hc he hI
 refine ad (aM f248) ay func248 fun g F hg hF=> ?_
 have e5:I=true->g .w .mul .i64 2 many=2*many:=fun h=>by rw [gk hg,(hi h).1]
 have e6:I=true->g .w .add .i64 many 1=many+1:=fun h=>by rw [aJ hg,(hi h).2]
 have q2:g .q .eql (js) (2)=decide ((js)=(2)):=by rw [bn hg];exact zqn _ _
 have q3:g .q .eql (js) (3)=decide ((js)=(3)):=by rw [bn hg];exact zqn _ _
 have q5:g .q .eql (js) (5)=decide ((js)=(5)):=by rw [bn hg];exact zqn _ _
 have q6:g .q .eql (js) (6)=decide ((js)=(6)):=by rw [bn hg];exact zqn _ _
 have q0:g .q .lss (free) (0)=decide ((free)<(0)):=bg hg _ _
 generalize 2*many=m2 at *
 generalize many+1=m1 at *
 cases I
 ·cbv
  repeat'(refine ae hg c0 ?_;cbv)
  exact aV hF (by rw [hR];rfl)
 replace e5:=e5 rfl
 replace e6:=e6 rfl
 replace ha:=ha rfl
 replace hb:=hb rfl
 by_cases j2:js=2<;>by_cases j3:js=3<;>by_cases j5:js=5<;>by_cases j6:js=6<;>by_cases f0:free<0
 all_goals first
  |(exfalso;omega)
  |((first|rw [zqu j2]at q2|rw [zqt j2]at q2|rw [zqu (Classical.not_not.2 j2)]at q2|rw [zqt (Classical.not_not.2 j2)]at q2);(first|rw [zqu j3]at q3|rw [zqt j3]at q3|rw [zqu (Classical.not_not.2 j3)]at q3|rw [zqt (Classical.not_not.2 j3)]at q3);(first|rw [zqu j5]at q5|rw [zqt j5]at q5|rw [zqu (Classical.not_not.2 j5)]at q5|rw [zqt (Classical.not_not.2 j5)]at q5);(first|rw [zqu j6]at q6|rw [zqt j6]at q6|rw [zqu (Classical.not_not.2 j6)]at q6|rw [zqt (Classical.not_not.2 j6)]at q6);(first|rw [zqu f0]at q0|rw [zqt f0]at q0|rw [zqu (Classical.not_not.2 f0)]at q0|rw [zqt (Classical.not_not.2 f0)]at q0);cbv;(repeat'((first|rw [q2]|rw [q3]|rw [q5]|rw [q6]|rw [q0]|rw [e5]|rw [e6]|refine ae hg c0 ?_|refine ae hg cd ?_|refine ae hg c5 ?_|refine ae hg c6 ?_|refine goX hg _ (by omega) ha rfl ?_|refine goX hg _ (by omega) hb rfl ?_);cbv));exact aV hF (by rw [hR];simp [j2,j3,j5,j6,f0]))
theorem nt(free many js:Int):PC0 285 [ai free,ai many,ai js] (.i (led free many js)):=by
 have c0:=bH many 1 12
 have cd:=bI free 2
 have c5:=ei free (2*many)
 have c6:=ei free (many+1)
 have x5:=k6 (evn free (2*many)) (by rw [ii];have:=pg (2*many);omega)
 have x6:=k6 (evn free (many+1)) (by rw [ii];have:=pg (many+1);omega)
 change PC0 _ _ (.t (abl (rng many 1 12)))at c0
 have hf:rng many 1 12=true->wrap64 (2*many)=2*many/\wrap64 (many+1)=many+1:=fun h=>by
  simp only [rng,zqs,zqp]at h
  exact⟨ak _ (by omega),ak _ (by omega)⟩
 obtain⟨R,hR⟩:=nmE (led free many js)
 rw [<-hR]
 unfold led at hR
 obtain⟨v5,hc⟩:=nmE (elZ (evn free (2*many)) 0);(try rw [<-hc]at hR);(try rw [<-hc]at x5)
 obtain⟨v6,he⟩:=nmE (elZ (evn free (many+1)) 0);(try rw [<-he]at hR);(try rw [<-he]at x6)
 obtain⟨d,hd⟩:=nmE (fdv free 2);(try rw [<-hd]at hR);(try rw [<-hd]at cd)
 obtain⟨Y5,ha⟩:=nmE (vw aj (evn free (2*many)));(try rw [<-ha]at c5);(try rw [<-ha]at x5)
 obtain⟨Y6,hb⟩:=nmE (vw aj (evn free (many+1)));(try rw [<-hb]at c6);(try rw [<-hb]at x6)
 obtain⟨I,hI⟩:=nmE (rng many 1 12);(try rw [<-hI]at hR);(try rw [<-hI]at hf);(try rw [<-hI]at c0)
 clear hc he hd ha hb hI
 refine ad (aM f285) ay func285 fun g F hg hF=> ?_
 have e5:I=true->g .w .mul .i64 2 many=2*many:=fun h=>by rw [gk hg,(hf h).1]
 have e6:I=true->g .w .add .i64 many 1=many+1:=fun h=>by rw [aJ hg,(hf h).2]
 have q2:g .q .eql (js) (2)=decide ((js)=(2)):=by rw [bn hg];exact zqn _ _
 have q3:g .q .eql (js) (3)=decide ((js)=(3)):=by rw [bn hg];exact zqn _ _
 have q5:g .q .eql (js) (5)=decide ((js)=(5)):=by rw [bn hg];exact zqn _ _
 have q6:g .q .eql (js) (6)=decide ((js)=(6)):=by rw [bn hg];exact zqn _ _
 have q0:g .q .lss (free) (0)=decide ((free)<(0)):=bg hg _ _
 generalize 2*many=m2 at *
 generalize many+1=m1 at *
 cases I
 ·cbv
  repeat'(refine ae hg c0 ?_;cbv)
  exact aV hF (by rw [hR];rfl)
 replace e5:=e5 rfl
 replace e6:=e6 rfl
 by_cases j2:js=2<;>by_cases j3:js=3<;>by_cases j5:js=5<;>by_cases j6:js=6<;>by_cases f0:free<0
 all_goals first
  |(exfalso;omega)
  |((first|rw [zqu j2]at q2|rw [zqt j2]at q2|rw [zqu (Classical.not_not.2 j2)]at q2|rw [zqt (Classical.not_not.2 j2)]at q2);(first|rw [zqu j3]at q3|rw [zqt j3]at q3|rw [zqu (Classical.not_not.2 j3)]at q3|rw [zqt (Classical.not_not.2 j3)]at q3);(first|rw [zqu j5]at q5|rw [zqt j5]at q5|rw [zqu (Classical.not_not.2 j5)]at q5|rw [zqt (Classical.not_not.2 j5)]at q5);(first|rw [zqu j6]at q6|rw [zqt j6]at q6|rw [zqu (Classical.not_not.2 j6)]at q6|rw [zqt (Classical.not_not.2 j6)]at q6);(first|rw [zqu f0]at q0|rw [zqt f0]at q0|rw [zqu (Classical.not_not.2 f0)]at q0|rw [zqt (Classical.not_not.2 f0)]at q0);cbv;(repeat'((first|rw [q2]|rw [q3]|rw [q5]|rw [q6]|rw [q0]|rw [e5]|rw [e6]|refine ae hg c0 ?_|refine ae hg cd ?_|refine ae hg c5 ?_|refine ae hg c6 ?_|refine ae hg x5 ?_|refine ae hg x6 ?_);cbv));exact aV hF (by rw [hR];simp [j2,j3,j5,j6,f0]))
theorem kr(free many js i:Int)(hm0:0<=many)(hm1:many<=12)(hi0:0<=i)(hi1:i<=12):PC0 249 [ai free,ai many,ai js,ai i] (.i (btw free many js i)):=by
 have hl:∀m:Int,(evn free m).length<=1048576:=fun m=>by rw [ii];have:=pg m;omega
 have c4:=ek free (many-1)
 have x4:=dd (evn free (many-1)) (hl _) i
 have c5:=ek free (2*many)
 have x5:=dd (evn free (2*many)) (hl _) (2*i+1)
 have y5:=dd (evn free (2*many)) (hl _) (2*i+2)
 have c6:=ek free (many+1)
 have x6:=dd (evn free (many+1)) (hl _) (i+1)
 have w1:=wr1 (a:=many-1) (by omega) (by omega)
 have w2:=wr1 (a:=2*many) (by omega) (by omega)
 have w3:=wr1 (a:=many+1) (by omega) (by omega)
 have w4:=wr1 (a:=i+1) (by omega) (by omega)
 have w5:=wr1 (a:=2*i) (by omega) (by omega)
 have w6:=wr1 (a:=2*i+1) (by omega) (by omega)
 have w7:=wr1 (a:=2*i+2) (by omega) (by omega)
 clear hl
 obtain⟨R,hR⟩:=nmE (btw free many js i)
 rw [<-hR]
 unfold btw at hR
 obtain⟨v4,he⟩:=nmE (elZ (evn free (many-1)) i);(try rw [<-he]at hR);(try rw [<-he]at x4)
 obtain⟨v5,hf⟩:=nmE (elZ (evn free (2*many)) (2*i+1));(try rw [<-hf]at hR);(try rw [<-hf]at x5)
 obtain⟨u5,hd⟩:=nmE (elZ (evn free (2*many)) (2*i+2));(try rw [<-hd]at hR);(try rw [<-hd]at y5)
 obtain⟨v6,hh⟩:=nmE (elZ (evn free (many+1)) (i+1));(try rw [<-hh]at hR);(try rw [<-hh]at x6)
 obtain⟨Y4,hb⟩:=nmE (vw aj (evn free (many-1)));(try rw [<-hb]at c4);(try rw [<-hb]at x4)
 obtain⟨Y5,ha⟩:=nmE (vw aj (evn free (2*many)));(try rw [<-ha]at c5);(try rw [<-ha]at x5);(try rw [<-ha]at y5)
 obtain⟨Y6,hc⟩:=nmE (vw aj (evn free (many+1)));(try rw [<-hc]at c6);(try rw [<-hc]at x6)
 clear he hf hd hh hb ha hc
 refine ad (aM f249) ay func249 fun g F hg hF=> ?_
 have e1:g .w .sub .i64 many 1=many-1:=by rw [dp hg,w1]
 have e2:g .w .mul .i64 2 many=2*many:=by rw [gk hg,w2]
 have e3:g .w .add .i64 many 1=many+1:=by rw [aJ hg,w3]
 have e4:g .w .add .i64 i 1=i+1:=by rw [aJ hg,w4]
 have e5:g .w .mul .i64 2 i=2*i:=by rw [gk hg,w5]
 have e6:g .w .add .i64 (2*i) 1=2*i+1:=by rw [aJ hg,w6]
 have e7:g .w .add .i64 (2*i) 2=2*i+2:=by rw [aJ hg,w7]
 have e8:g .w .add .i64 v5 u5=wrap64 (v5+u5):=aJ hg _ _
 obtain⟨Z,hZ⟩:=nmE (wrap64 (v5+u5));(try rw [<-hZ]at hR);(try rw [<-hZ]at e8)
 have q4:g .q .eql (js) (4)=decide ((js)=(4)):=by rw [bn hg];exact zqn _ _
 have q5:g .q .eql (js) (5)=decide ((js)=(5)):=by rw [bn hg];exact zqn _ _
 have q6:g .q .eql (js) (6)=decide ((js)=(6)):=by rw [bn hg];exact zqn _ _
 have q0:g .q .lss (free) (0)=decide ((free)<(0)):=bg hg _ _
 clear hm0 hm1 hi0 hi1 w1 w2 w3 w4 w5 w6 w7 hZ
 generalize 2*i+1=k1 at *
 generalize 2*i+2=k2 at *
 generalize 2*i=k3 at *
 generalize i+1=k4 at *
 generalize 2*many=m2 at *
 generalize many+1=m1 at *
 generalize many-1=m3 at *
 by_cases f0:free<0
 ·(first|rw [zqu f0]at q0|rw [zqt f0]at q0|rw [zqu (Classical.not_not.2 f0)]at q0|rw [zqt (Classical.not_not.2 f0)]at q0)
  cbv
  (repeat'(rw [q0];cbv))
  exact aV hF (by rw [hR,if_pos f0])
 (first|rw [zqu f0]at q0|rw [zqt f0]at q0|rw [zqu (Classical.not_not.2 f0)]at q0|rw [zqt (Classical.not_not.2 f0)]at q0)
 by_cases j4:js=4<;>by_cases j5:js=5<;>by_cases j6:js=6
 all_goals first
  |(exfalso;omega)
  |((first|rw [zqu j4]at q4|rw [zqt j4]at q4|rw [zqu (Classical.not_not.2 j4)]at q4|rw [zqt (Classical.not_not.2 j4)]at q4);(first|rw [zqu j5]at q5|rw [zqt j5]at q5|rw [zqu (Classical.not_not.2 j5)]at q5|rw [zqt (Classical.not_not.2 j5)]at q5);(first|rw [zqu j6]at q6|rw [zqt j6]at q6|rw [zqu (Classical.not_not.2 j6)]at q6|rw [zqt (Classical.not_not.2 j6)]at q6);cbv;(repeat'((first|rw [q4]|rw [q5]|rw [q6]|rw [q0]|rw [e1]|rw [e2]|rw [e3]|rw [e4]|rw [e5]|rw [e6]|rw [e7]|rw [e8]|refine ae hg c4 ?_|refine ae hg c5 ?_|refine ae hg c6 ?_|refine ae hg x4 ?_|refine ae hg x5 ?_|refine ae hg y5 ?_|refine ae hg x6 ?_);cbv));exact aV hF (by rw [hR];simp [j4,j5,j6,f0]))
section
variable {P:Program}{n0 N:Nat}{g:Gd}
theorem mkI(hg:g=G0 P n0 N){n:Int}{by_:Nat}{q:Prop}(hb:by_<=65536)(h0:0<=n)(h1:n<=1048576)(hq:q):g .N (n=n/\0<=n/\(by_:Int)*n<=140737488355328/\n<=4611686018427387904) q:=by
 subst hg
 have h2:(by_:Int)*n<=65536*1048576:=Int.mul_le_mul (by omega) h1 h0 (by omega)
 exact⟨⟨rfl,h0,by omega,by omega⟩,hq⟩
end
theorem qD(c:α->Array Value)(n:Nat)(x:α):List.replicate n (lc (c x))=vw c (List.replicate n x):=by simp [vw]
theorem mM(c:α->Array Value)(xs:List α)(i:Nat)(x:α):(vw c xs).set i (lc (c x))=vw c (xs.set i x):=by simp [vw,List.map_set]
theorem pr(free many js:Int)(hm0:0<=many)(hm1:many<=12):da prog 287 [ai free,ai many,ai js] fun res hr=>res= .o 0/\hr=[⟨3,1,vw aj (spc free many js)⟩]:=by
 have hm:=Gc free many js
 have hk:∀z:Int,0<=z->(z=0\/z<many)->¬z+1<many->spL (btw free many js) many.toNat z.toNat=spc free many js:=fun z a b c=>Gf free many js hm0 (by omega) (by omega)
 obtain⟨S,hS⟩:=nmE (vw aj (spc free many js));(try rw [<-hS]at⊢)
 refine ad (aM f287) ay func287 fun g F hg hF=> ?_
 cbv
 refine mkI hg (by decide) hm0 (by omega) ?_
 cbv
 generalize hE0:g .rp many _=E
 replace hE:E=vw aj (spL (btw free many js) many.toNat 0):=by rw [<-hE0,yo hg];exact qD aj _ 0
 clear hE0
 have pE:=pmV hE
 have q0:g .q .lss (free) (0)=decide ((free)<(0)):=bg hg _ _
 by_cases f0:free<0
 ·(first|rw [zqu f0]at q0|rw [zqt f0]at q0|rw [zqu (Classical.not_not.2 f0)]at q0|rw [zqt (Classical.not_not.2 f0)]at q0)
  (repeat'(rw [q0];cbv))
  obtain rfl:E=S:=by rw [hS,hm f0,hE];simp [spL,ixs]
  exact bV hF rfl pE
 (first|rw [zqu f0]at q0|rw [zqt f0]at q0|rw [zqu (Classical.not_not.2 f0)]at q0|rw [zqt (Classical.not_not.2 f0)]at q0)
 (repeat'(rw [q0];cbv))
 refine jB hg ay (by kernel_rfl) (fun s:Int×LLA=>[(0,.i (free)),(1,.i (many)),(2,.i (js)),(7,.o 0),(8,.i (s.1))]) (fun s=>[.rw ⟨3,1,s.2⟩]) (fun s=>0<=s.1/\(s.1=0\/s.1<many)/\s.2=vw aj (spL (btw free many js) many.toNat s.1.toNat)) (fun s=>12-s.1.toNat)
  (0,E) ⟨by simp,.inl rfl,hE⟩ (Wk.weak (wkG [some _] zr5 ⟨wqE rfl pE,trivial⟩ (by decide) aG)) (fun s B hs hB=> ?_)
 obtain⟨z,E⟩:=s
 obtain⟨h0,h1,hE⟩:=hs
 dsimp only at h0 h1 hE
 have pE:=pmV hE
 obtain⟨z1,hv⟩:=nmE (z+1)
 have ez:g .w .add .i64 z 1=z1:=by rw [aJ hg,hv];exact wr1 (by omega) (by omega)
 have tz:g .q .lss z1 many=decide (z1<many):=bg hg _ _
 by_cases hz:z1<many
 rotate_left
 ·(first|rw [zqu hz]at tz|rw [zqt hz]at tz|rw [zqu (Classical.not_not.2 hz)]at tz|rw [zqt (Classical.not_not.2 hz)]at tz)
  cbv
  (repeat'((first|rw [ez]|rw [tz]);cbv))
  obtain rfl:E=S:=by rw [hS,hE,hk z h0 h1 (by omega)]
  exact bV hF rfl pE
 have hx:z<aN E:=by rw [hE,aO,Gh _ (by omega)];omega
 have he:∃e,E[z.toNat]? =some e/\e.length=1:=⟨_,by rw [hE];exact ba (Hx (btw free many js) (show z.toNat<many.toNat by omega)),rfl⟩
 obtain⟨b,hb⟩:=nmE (btw free many js z)
 have hc:E.set z.toNat [.J b]=vw aj (spL (btw free many js) many.toNat z1.toNat):=by
  rw [hE,hb,show z1.toNat=z.toNat+1 by omega,<-Gg (btw free many js) (show z.toNat<many.toNat by omega),<-mM,show((z.toNat:Nat):Int)=z by omega];rfl
 have hf:b=0->E=vw aj (spL (btw free many js) many.toNat z1.toNat):=fun h=>by
  rw [hE,show z1.toNat=z.toNat+1 by omega,<-DB (btw free many js) (show z.toNat<many.toNat by omega)]
  rw [show((z.toNat:Nat):Int)=z by omega,<-hb,h]
 have hl:∀m:Int,0<=m->m<=64->((evn free m).length:Int)=m:=fun m a b=>by rw [ii,od a b]
 have c4:=ei free (many-1)
 have c5:=ei free (2*many)
 have c6:=ei free (many+1)
 have x4:(vw aj (evn free (many-1)))[z.toNat]? =some [.J (elZ (evn free (many-1)) z)]:=ba (ky h0 (by rw [hl _ (by omega) (by omega)];omega))
 have x5:(vw aj (evn free (2*many)))[(2*z+1).toNat]? =some [.J (elZ (evn free (2*many)) (2*z+1))]:=ba (ky (by omega) (by rw [hl _ (by omega) (by omega)];omega))
 have y5:(vw aj (evn free (2*many)))[(2*z+2).toNat]? =some [.J (elZ (evn free (2*many)) (2*z+2))]:=ba (ky (by omega) (by rw [hl _ (by omega) (by omega)];omega))
 have x6:(vw aj (evn free (many+1)))[z1.toNat]? =some [.J (elZ (evn free (many+1)) (z+1))]:=by rw [hv];exact ba (ky (by omega) (by rw [hl _ (by omega) (by omega)];omega))
 have ha:=hb
 unfold btw at ha
 rw [if_neg f0]at ha
 obtain⟨v4,ho⟩:=nmE (elZ (evn free (many-1)) z);(try rw [<-ho]at ha);(try rw [<-ho]at x4)
 obtain⟨v5,hp⟩:=nmE (elZ (evn free (2*many)) (2*z+1));(try rw [<-hp]at ha);(try rw [<-hp]at x5)
 obtain⟨u5,hn⟩:=nmE (elZ (evn free (2*many)) (2*z+2));(try rw [<-hn]at ha);(try rw [<-hn]at y5)
 obtain⟨v6,hq⟩:=nmE (elZ (evn free (many+1)) (z+1));(try rw [<-hq]at ha);(try rw [<-hq]at x6)
 obtain⟨Y4,hi⟩:=nmE (vw aj (evn free (many-1)));(try rw [<-hi]at c4);(try rw [<-hi]at x4)
 obtain⟨Y5,hh⟩:=nmE (vw aj (evn free (2*many)));(try rw [<-hh]at c5);(try rw [<-hh]at x5);(try rw [<-hh]at y5)
 obtain⟨Y6,hj⟩:=nmE (vw aj (evn free (many+1)));(try rw [<-hj]at c6);(try rw [<-hj]at x6)
 have e1:g .w .sub .i64 many 1=many-1:=by rw [dp hg,wr1 (by omega) (by omega)]
 have e2:g .w .mul .i64 2 many=2*many:=by rw [gk hg,wr1 (by omega) (by omega)]
 have e3:g .w .add .i64 many 1=many+1:=by rw [aJ hg,wr1 (by omega) (by omega)]
 have e5:g .w .mul .i64 2 z=2*z:=by rw [gk hg,wr1 (by omega) (by omega)]
 have e6:g .w .add .i64 (2*z) 1=2*z+1:=by rw [aJ hg,wr1 (by omega) (by omega)]
 have e7:g .w .add .i64 (2*z) 2=2*z+2:=by rw [aJ hg,wr1 (by omega) (by omega)]
 have e8:g .w .add .i64 v5 u5=wrap64 (v5+u5):=aJ hg _ _
 obtain⟨Z,hZ⟩:=nmE (wrap64 (v5+u5));(try rw [<-hZ]at ha);(try rw [<-hZ]at e8)
 have q4:g .q .eql (js) (4)=decide ((js)=(4)):=by rw [bn hg];exact zqn _ _
 have q5:g .q .eql (js) (5)=decide ((js)=(5)):=by rw [bn hg];exact zqn _ _
 have q6:g .q .eql (js) (6)=decide ((js)=(6)):=by rw [bn hg];exact zqn _ _
 have hd:12-z1.toNat<12-z.toNat:=by omega
 have n1:0<=z1/\(z1=0\/z1<many):=by omega
 have hy:0<=2*z+1:=by omega
 have hA:0<=2*z+2:=by omega
 clear ho hp hn hq hi hh hj hl hZ hb
 generalize 2*z+1=k1 at *
 generalize 2*z+2=k2 at *
 generalize 2*z=k3 at *
 generalize 2*many=m2 at *
 generalize many+1=mp at *
 generalize many-1=m3 at *
 have pS:aB (E.set z.toNat [.J b])=true:=by rw [hc];exact aI _ _
 obtain⟨E1,ht⟩:∃E1,E1=E.set z.toNat [.J b]:=⟨_,rfl⟩
 rw [<-ht]at hc pS
 (first|rw [zqu hz]at tz|rw [zqt hz]at tz|rw [zqu (Classical.not_not.2 hz)]at tz|rw [zqt (Classical.not_not.2 hz)]at tz)
 by_cases j4:js=4<;>by_cases j5:js=5<;>by_cases j6:js=6
 all_goals first
  |(exfalso;omega)
  |(
   (first|rw [zqu j4]at q4|rw [zqt j4]at q4|rw [zqu (Classical.not_not.2 j4)]at q4|rw [zqt (Classical.not_not.2 j4)]at q4);(first|rw [zqu j5]at q5|rw [zqt j5]at q5|rw [zqu (Classical.not_not.2 j5)]at q5|rw [zqt (Classical.not_not.2 j5)]at q5);(first|rw [zqu j6]at q6|rw [zqt j6]at q6|rw [zqu (Classical.not_not.2 j6)]at q6|rw [zqt (Classical.not_not.2 j6)]at q6)
   simp [j4,j5,j6]at ha
   cbv
   (repeat'((first|rw [ez]|rw [tz]|rw [q4]|rw [q5]|rw [q6]|rw [e1]|rw [e2]|rw [e3]|rw [e5]|rw [e6]|rw [e7]|rw [e8]|refine ae hg c4 ?_|refine ae hg c5 ?_|refine ae hg c6 ?_|refine goX hg _ (by omega) x4 rfl ?_|refine goX hg _ (by omega) x5 rfl ?_|refine goX hg _ (by omega) y5 rfl ?_|refine goX hg _ (by omega) x6 rfl ?_);cbv))
   first
    |(subst hB
      exact⟨(z1,E),⟨n1.1,n1.2,hf ha⟩,hd,Wk.weak (wkG [some _] zr5 ⟨wqE rfl pE,trivial⟩ (by decide) aG)⟩)
    |(refine goY hg h0 hx fun j2 hu hw=> ?_
      cbv
      refine goN hg (by rw [hu];exact he) ?_
      cbv
      rw [jr hg,hu,<-ha,ez]
      dsimp only [AT.cells]
      rw [<-ht]
      subst hB
      exact⟨(z1,E1),⟨n1.1,n1.2,hc⟩,hd,Wk.weak (wkG [some _] zr5 ⟨wqE rfl pS,trivial⟩ (by decide) aG)⟩))
theorem kh(free many js:Int)(hm0:0<=many)(hm1:many<=12):PC0 287 [ai free,ai many,ai js] (.t (.c (.view (vw aj (spc free many js))))):=xE (pr free many js hm0 hm1) fun _=>rfl
theorem tf(xs:List Int)(hl:xs.length<=1048576):PC0 245 [.c (.view (vw aj xs))] (.i (Al 0 xs)):=by
 obtain⟨V,hV⟩:=nmE (vw aj xs)
 have hb:=lmV hV
 have iV:=imV hV
 have kV:=kmV (k:=1) hV fun _=>rfl
 have dV:=dmV hV
 obtain⟨R,hR⟩:=nmE (Al 0 xs)
 rw [<-hV,<-hR]
 refine ad (aM f245) ay func245 fun g F hg hF=> ?_
 cbv
 refine aY hg ay (by kernel_rfl) V (fun x=>lc (aj x)) xs hV hl (fun z(s:Int)=>[(3,.i (s)),(6,.v V),(7,.i (g .ln V)),(8,.i (z))]) (fun z(s:Int)=>[]) (fun z(s:Int)=>True) (fun(s:Int) rest=>Al s rest) (R) (0:Int) hR.symm trivial (Wk.weak (wkG [] zr4 trivial (by decide) aG)) (fun z s B hz h0 hi he=> ?_) (fun z s x rest B z0 z1 z2 hx hy h0 hi hc e1 hB=> ?_)
 ·cbv;rw [he];cbv
  exact aV hF h0
 ·cbv;rw [hc];cbv;refine goX hg _ z0 hy rfl ?_;cbv
  (first|refine bm hg (bZ _) rfl (fun Q0 ha=> ?_)|refine aX hg (bZ _) rfl (fun Q0 ha=> ?_));cbv
  rw [e1,aJ hg,ha]
  exact hB (_) _ _ ⟨h0,trivial⟩ (Wk.weak (wkG [] zr4 trivial (by decide) aG))
theorem sD(xs:List Int)(hl:xs.length<=1048576):PC0 282 [.c (.view (vw aj xs))] (.i (Al 0 xs)):=by
 obtain⟨V,hV⟩:=nmE (vw aj xs)
 have hb:=lmV hV
 have iV:=imV hV
 have kV:=kmV (k:=1) hV fun _=>rfl
 have dV:=dmV hV
 obtain⟨R,hR⟩:=nmE (Al 0 xs)
 rw [<-hV,<-hR]
 refine ad (aM f282) ay func282 fun g F hg hF=> ?_
 cbv
 refine aY hg ay (by kernel_rfl) V (fun x=>lc (aj x)) xs hV hl (fun z(s:Int)=>[(0,.v V),(3,.i (s)),(4,.i (z))]) (fun z(s:Int)=>[]) (fun z(s:Int)=>True) (fun(s:Int) rest=>Al s rest) (R) (0:Int) hR.symm trivial (Wk.weak (wkG [] zr3 trivial (by decide) aG)) (fun z s B hz h0 hi he=> ?_) (fun z s x rest B z0 z1 z2 hx hy h0 hi hc e1 hB=> ?_)
 ·cbv;rw [he];cbv
  exact aV hF h0
 ·cbv;rw [hc];cbv;refine goX hg _ z0 hy rfl ?_;cbv
  (first|refine bm hg (bP _) rfl (fun Q0 ha=> ?_)|refine aX hg (bP _) rfl (fun Q0 ha=> ?_));cbv
  rw [e1,aJ hg,ha]
  exact hB (_) _ _ ⟨h0,trivial⟩ (Wk.weak (wkG [] zr3 trivial (by decide) aG))
theorem gj(xs:List Int)(gap:Int)(hl:xs.length<=1048576):PC0 178 [.c (.view (vw aj xs)),ai gap] (.i (crt xs gap)):=by
 have cT:=tf xs hl
 have ha:xs=[]↔(xs.length:Int)=0:=by
  cases xs with
  |nil=>simp
  |cons x xs=>simp;omega
 obtain⟨R,hR⟩:=nmE (crt xs gap)
 rw [<-hR]
 unfold crt at hR
 simp only [ha]at hR
 obtain⟨T,hT⟩:=nmE (Al 0 xs);(try rw [<-hT]at cT);(try rw [<-hT]at hR)
 obtain⟨V,hV⟩:=nmE (vw aj xs)
 have hd:=lmV hV
 have iV:=imV hV
 have kV:=kmV (k:=1) hV fun _=>rfl
 have dV:=dmV hV
 have hb:aN V=(xs.length:Int):=by rw [hV,aO]
 rw [<-hV]at cT⊢
 have hc:0<=(xs.length:Int)/\(xs.length:Int)<=1048576:=by omega
 clear ha
 obtain⟨n,hn⟩:=nmE ((xs.length:Int));(try rw [<-hn]at hb);(try rw [<-hn]at hc);(try rw [<-hn]at hR)
 refine ad (aM f178) ay func178 fun g F hg hF=> ?_
 have t4:g .ln V=n:=by rw [bz hg,hb]
 have t1:g .q .eql (n) (0)=decide ((n)=(0)):=by rw [bn hg];exact zqn _ _
 have e1:g .w .sub .i64 n 1=n-1:=by rw [dp hg];exact wr1 (by omega) (by omega)
 have e2:g .w .mul .i64 gap (n-1)=wrap64 (gap*(n-1)):=gk hg _ _
 have e3:g .w .add .i64 T (wrap64 (gap*(n-1)))=wrap64 (T+wrap64 (gap*(n-1))):=aJ hg _ _
 by_cases h:n=0
 ·rw [if_pos h]at hR
  (first|rw [zqu h]at t1|rw [zqt h]at t1|rw [zqu (Classical.not_not.2 h)]at t1|rw [zqt (Classical.not_not.2 h)]at t1)
  cbv
  (repeat'((first|rw [t4]|rw [t1]);cbv))
  exact aV hF hR.symm
 ·rw [if_neg h]at hR
  (first|rw [zqu h]at t1|rw [zqt h]at t1|rw [zqu (Classical.not_not.2 h)]at t1|rw [zqt (Classical.not_not.2 h)]at t1)
  rw [<-hR]at e3
  generalize wrap64 (gap*(n-1))=m2 at *
  generalize n-1=m1 at *
  cbv
  (repeat'((first|rw [t4]|rw [t1]|rw [e1]|rw [e2]|rw [e3]|refine ae hg cT ?_);cbv))
  exact aV hF rfl
theorem fY(xs:List Int)(gap:Int)(hl:xs.length<=1048576):PC0 233 [.c (.view (vw aj xs)),ai gap] (.i (crt xs gap)):=by
 have cT:=sD xs hl
 have ha:xs=[]↔(xs.length:Int)=0:=by
  cases xs with
  |nil=>simp
  |cons x xs=>simp;omega
 obtain⟨R,hR⟩:=nmE (crt xs gap)
 rw [<-hR]
 unfold crt at hR
 simp only [ha]at hR
 obtain⟨T,hT⟩:=nmE (Al 0 xs);(try rw [<-hT]at cT);(try rw [<-hT]at hR)
 obtain⟨V,hV⟩:=nmE (vw aj xs)
 have hd:=lmV hV
 have iV:=imV hV
 have kV:=kmV (k:=1) hV fun _=>rfl
 have dV:=dmV hV
 have hb:aN V=(xs.length:Int):=by rw [hV,aO]
 rw [<-hV]at cT⊢
 have hc:0<=(xs.length:Int)/\(xs.length:Int)<=1048576:=by omega
 clear ha
 obtain⟨n,hn⟩:=nmE ((xs.length:Int));(try rw [<-hn]at hb);(try rw [<-hn]at hc);(try rw [<-hn]at hR)
 refine ad (aM f233) ay func233 fun g F hg hF=> ?_
 have t4:g .ln V=n:=by rw [bz hg,hb]
 have t1:g .q .eql (n) (0)=decide ((n)=(0)):=by rw [bn hg];exact zqn _ _
 have e1:g .w .sub .i64 n 1=n-1:=by rw [dp hg];exact wr1 (by omega) (by omega)
 have e2:g .w .mul .i64 gap (n-1)=wrap64 (gap*(n-1)):=gk hg _ _
 have e3:g .w .add .i64 T (wrap64 (gap*(n-1)))=wrap64 (T+wrap64 (gap*(n-1))):=aJ hg _ _
 by_cases h:n=0
 ·rw [if_pos h]at hR
  (first|rw [zqu h]at t1|rw [zqt h]at t1|rw [zqu (Classical.not_not.2 h)]at t1|rw [zqt (Classical.not_not.2 h)]at t1)
  cbv
  (repeat'((first|rw [t4]|rw [t1]);cbv))
  exact aV hF hR.symm
 ·rw [if_neg h]at hR
  (first|rw [zqu h]at t1|rw [zqt h]at t1|rw [zqu (Classical.not_not.2 h)]at t1|rw [zqt (Classical.not_not.2 h)]at t1)
  rw [<-hR]at e3
  generalize wrap64 (gap*(n-1))=m2 at *
  generalize n-1=m1 at *
  cbv
  (repeat'((first|rw [t4]|rw [t1]|rw [e1]|rw [e2]|rw [e3]|refine ae hg cT ?_);cbv))
  exact aV hF rfl
theorem lJ(xs:List Int)(gap inner:Int)(hl:xs.length<=1048576):PC0 246 [.c (.view (vw aj xs)),ai gap,ai inner] (.t (abl (acr xs gap inner))):=by
 have cg:=de gap 0 1048576
 have ci:=de inner 0 1048576
 change PC0 _ _ (.t (abl (rng gap 0 1048576)))at cg
 change PC0 _ _ (.t (abl (rng inner 0 1048576)))at ci
 obtain⟨R,hR⟩:=nmE (acr xs gap inner)
 rw [<-hR]
 unfold acr at hR
 obtain⟨G,hG⟩:=nmE (rng gap 0 1048576);(try rw [<-hG]at cg);(try rw [<-hG]at hR)
 obtain⟨J,hJ⟩:=nmE (rng inner 0 1048576);(try rw [<-hJ]at ci);(try rw [<-hJ]at hR)
 obtain⟨q,hq⟩:=nmE (decide ((xs.length:Int)<=12));(try rw [<-hq]at hR)
 obtain⟨T,hT⟩:=nmE ((q&&(G&&J)))
 rw [<-hT]at hR
 obtain⟨V,hV⟩:=nmE (vw aj xs)
 have hd:=lmV hV
 have iV:=imV hV
 have kV:=kmV (k:=1) hV fun _=>rfl
 have dV:=dmV hV
 have hb:aN V=(xs.length:Int):=by rw [hV,aO]
 rw [<-hV]
 refine ad (aM f246) ay func246 fun g F hg hF=> ?_
 have t1:g .q .leq (g .ln V) 12=q:=by rw [iR hg,bz hg,hb,hq]
 cbv
 refine aY hg ay (by kernel_rfl) V (fun x=>lc (aj x)) xs hV hl (fun z(s:Unit)=>[(0,.v V),(1,.i (gap)),(2,.i (inner)),(9,.v V),(10,.i (g .ln V)),(11,.i (z))]) (fun z(s:Unit)=>[]) (fun z(s:Unit)=>True) (fun(s:Unit) rest=>rest.all (fun c=>rng c 0 1048576)&&T) (R) () hR.symm trivial (Wk.weak (wkG [] zr6 trivial (by decide) aG)) (fun z s B hz h0 hi he=> ?_) (fun z s x rest B z0 z1 z2 hx hy h0 hi hc e1 hB=> ?_)
 rotate_left
 ·cbv;rw [hc];cbv;refine goX hg _ z0 hy rfl ?_;cbv
  (first|refine bv hg (de x 0 1048576) rfl (fun R0 ha=> ?_)|refine bd hg (de x 0 1048576) rfl (fun R0 ha=> ?_));cbv
  cases R0<;>cbv
  ·exact bk hF (by rw [<-h0,zqD,show rng x 0 1048576=false from ha.symm];rfl)
  ·rw [e1]
   exact hB (()) _ _ ⟨by rw [<-h0,zqD,show rng x 0 1048576=true from ha.symm];rfl,trivial⟩ (Wk.weak (wkG [] zr6 trivial (by decide) aG))
 cbv;rw [he];cbv
 have h0:T=R:=h0
 clear hG hJ hq hR
 cases q<;>cases G<;>cases J
 all_goals((repeat'((first|rw [t1]|refine ae hg cg ?_|refine ae hg ci ?_);cbv));exact bk hF (by rw [<-h0,hT];rfl))
theorem lk(xs:List Int)(gap inner:Int)(hl:xs.length<=1048576):PC0 284 [.c (.view (vw aj xs)),ai gap,ai inner] (.t (abl (acr xs gap inner))):=by
 have cg:=bH gap 0 1048576
 have ci:=bH inner 0 1048576
 change PC0 _ _ (.t (abl (rng gap 0 1048576)))at cg
 change PC0 _ _ (.t (abl (rng inner 0 1048576)))at ci
 obtain⟨R,hR⟩:=nmE (acr xs gap inner)
 rw [<-hR]
 unfold acr at hR
 obtain⟨G,hG⟩:=nmE (rng gap 0 1048576);(try rw [<-hG]at cg);(try rw [<-hG]at hR)
 obtain⟨J,hJ⟩:=nmE (rng inner 0 1048576);(try rw [<-hJ]at ci);(try rw [<-hJ]at hR)
 obtain⟨q,hq⟩:=nmE (decide ((xs.length:Int)<=12));(try rw [<-hq]at hR)
 obtain⟨T,hT⟩:=nmE ((q&&(G&&J)))
 rw [<-hT]at hR
 obtain⟨V,hV⟩:=nmE (vw aj xs)
 have hd:=lmV hV
 have iV:=imV hV
 have kV:=kmV (k:=1) hV fun _=>rfl
 have dV:=dmV hV
 have hb:aN V=(xs.length:Int):=by rw [hV,aO]
 rw [<-hV]
 refine ad (aM f284) ay func284 fun g F hg hF=> ?_
 have t1:g .q .leq (g .ln V) 12=q:=by rw [iR hg,bz hg,hb,hq]
 cbv
 refine aY hg ay (by kernel_rfl) V (fun x=>lc (aj x)) xs hV hl (fun z(s:Unit)=>[(0,.v V),(1,.i (gap)),(2,.i (inner)),(7,.i (z))]) (fun z(s:Unit)=>[]) (fun z(s:Unit)=>True) (fun(s:Unit) rest=>rest.all (fun c=>rng c 0 1048576)&&T) (R) () hR.symm trivial (Wk.weak (wkG [] zr4 trivial (by decide) aG)) (fun z s B hz h0 hi he=> ?_) (fun z s x rest B z0 z1 z2 hx hy h0 hi hc e1 hB=> ?_)
 rotate_left
 ·cbv;rw [hc];cbv;refine goX hg _ z0 hy rfl ?_;cbv
  (first|refine bv hg (bH x 0 1048576) rfl (fun R0 ha=> ?_)|refine bd hg (bH x 0 1048576) rfl (fun R0 ha=> ?_));cbv
  cases R0<;>cbv
  ·exact bk hF (by rw [<-h0,zqD,show rng x 0 1048576=false from ha.symm];rfl)
  ·rw [e1]
   exact hB (()) _ _ ⟨by rw [<-h0,zqD,show rng x 0 1048576=true from ha.symm];rfl,trivial⟩ (Wk.weak (wkG [] zr4 trivial (by decide) aG))
 cbv;rw [he];cbv
 have h0:T=R:=h0
 clear hG hJ hq hR
 cases q<;>cases G<;>cases J
 all_goals((repeat'((first|rw [t1]|refine ae hg cg ?_|refine ae hg ci ?_);cbv));exact bk hF (by rw [<-h0,hT];rfl))
end Go.Proofs.YtkicjdeddpihaaaGreat
