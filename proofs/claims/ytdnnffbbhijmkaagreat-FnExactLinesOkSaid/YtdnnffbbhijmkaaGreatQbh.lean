/- Lines across: their total, stretched, placed; both programs. -/
import Derived.Test.YtdnnffbbhijmkaaGreatQbg
set_option linter.unusedVariables false
set_option linter.unusedSimpArgs false
set_option maxHeartbeats 4000000
namespace Go.Proofs.YtdnnffbbhijmkaaGreat
open Go.ChangeShapes Go.WideShapes Go.ChangeAt Go.RowKit Am Go.Proofs.Tryz
set_option maxRecDepth 100000
theorem wg{f:FuncId}{args:List AT}{t k:Nat}{α:Type}{c:α→Array Value}{xs:List α}(hc:cY prog f args fun res rows=>res= .o 0∧rows=[⟨t,k,vw c xs⟩])(hk:∀x,(c x).size=k):PC0 f args (.t (.c (.view (vw c xs)))):=
 iy hc (bC hk) az
theorem cV(l:List Int)(hl:l.length≤1048576)(i:Int):PC0 271 [.c (.view (vw ao l)),ai i] (.i (elZ l i)):=by
 obtain⟨V,hV⟩:=nmE (vw ao l)
 have hVl:V.length=l.length:=by rw [hV,af]
 have iV:bR V=true:=by rw [hV];exact aG _ _
 have kV:∀y∈V,y.length=1:=by rw [hV];exact bC (c:=ao) (k:=1) fun _=>rfl
 have dV:∀y∈V,y.all dat=true:=by rw [hV];exact az
 have hVx:bg V=(l.length:Int):=by rw [hV,aN]
 have hy:¬i<0→¬(l.length:Int)≤i→V[i.toNat]? =some [.J (elZ l i)]:=fun h0 h1=>by rw [hV];exact bh (jZ (by omega) (by omega))
 have ho:i<0∨(l.length:Int)≤i→elZ l i=0:=AG
 obtain⟨e,he⟩:=nmE (elZ l i)
 rw [←hV,←he]
 rw [←he]at hy ho
 refine ae (aK f271) aD func271 fun g F hg hF=> ?_
 have t1:g .q .lss i 0=decide (i<0):=bn hg _ _
 have t2:g .q .geq i (g .ln V)=decide ((l.length:Int)≤i):=by rw [gO hg,bD hg,hVx]
 by_cases h0:i<0
 ·rw [zqu h0]at t1
  cbv
  rw [t1]
  cbv
  exact ba hF (ho (.inl h0)).symm
 ·rw [zqt h0]at t1
  by_cases h1:(l.length:Int)≤i
  ·rw [zqu h1]at t2
   cbv
   rw [t1]
   cbv
   rw [t2]
   cbv
   exact ba hF (ho (.inr h1)).symm
  ·rw [zqt h1]at t2
   cbv
   rw [t1]
   cbv
   rw [t2]
   cbv
   refine goX hg _ (by omega) (hy h0 h1) rfl ?_
   cbv
   exact ba hF rfl
theorem kq(l:List Int)(hl:l.length≤1048576):PC0 366 [.c (.view (vw ao l))] (.i (elZ l 0)):=by
 obtain⟨V,hV⟩:=nmE (vw ao l)
 have hVl:V.length=l.length:=by rw [hV,af]
 have iV:bR V=true:=by rw [hV];exact aG _ _
 have kV:∀y∈V,y.length=1:=by rw [hV];exact bC (c:=ao) (k:=1) fun _=>rfl
 have dV:∀y∈V,y.all dat=true:=by rw [hV];exact az
 have hVx:bg V=(l.length:Int):=by rw [hV,aN]
 have hy:¬(l.length:Int)=0→V[(0:Int).toNat]? =some [.J (elZ l 0)]:=fun h1=>by rw [hV];exact bh (jZ (by omega) (by omega))
 have ho:(l.length:Int)=0→elZ l 0=0:=fun h=>AG (.inr (by omega))
 obtain⟨e,he⟩:=nmE (elZ l 0)
 rw [←hV,←he]
 rw [←he]at hy ho
 refine ae (aK f366) aD func366 fun g F hg hF=> ?_
 have t1:g .q .eql (g .ln V) 0=decide ((l.length:Int)=0):=by rw [bv hg,bD hg,hVx];exact zqn _ _
 by_cases h0:(l.length:Int)=0
 ·rw [zqu h0]at t1
  cbv
  rw [t1]
  cbv
  exact ba hF (ho h0).symm
 ·rw [zqt h0]at t1
  cbv
  rw [t1]
  cbv
  refine goX hg _ (by omega) (hy h0) rfl ?_
  cbv
  exact ba hF rfl
theorem s8(n many:Int):cY prog 365 [ai n,ai many] fun res rows=>res= .o 0∧rows=[⟨3,1,vw ao (evn n many)⟩]:=by
 have hm:evm many≤64:=oL many
 have c1:=mV n (List.replicate (evm many) 1) (by rw [List.length_replicate];omega)
 obtain⟨S,hS⟩:=nmE (vw ao (evn n many))
 have iS:bR S=true:=by rw [hS];exact aG _ _
 have pS:aj S=true:=by rw [hS];exact ag _ _
 rw [show shr n (List.replicate (evm many) 1)=evn n many from rfl,←hS]at c1
 rw [←hS]
 refine ae (aK f365) aD func365 fun g F hg hF=> ?_
 cbv
 refine je hg aD (by kernel_rfl) (fun s:Int×LLA=>[(0,.i (n)),(1,.i (many)),(5,.o 0),(6,.i (s.1))]) (fun s=>[.rw ⟨3,1,s.2⟩]) (fun s=>0≤s.1∧(s.1=0∨s.1≤many∧many≤64)∧s.2=vw ao (List.replicate s.1.toNat 1)) (fun s=>64-s.1.toNat)
  (0,[]) ⟨by simp,by simp,rfl⟩ (Wk.weak (wkG [some 0] ⟨rfl,rfl,rfl,rfl,trivial⟩ ⟨wqE rfl rfl,trivial⟩ (by decide) aI)) (fun s B hs hB=> ?_)
 obtain⟨z,E⟩:=s
 obtain⟨h0,h1,hE⟩:=hs
 dsimp only at h0 h1 hE
 have hz64:z.toNat≤64:=by omega
 have hEl:E.length≤1048576:=by rw [hE,af,List.length_replicate];omega
 have pE:aj E=true:=by rw [hE];exact ag _ _
 have kE:∀y∈E,y.length=1:=by rw [hE];exact bC (c:=ao) (k:=1) fun _=>rfl
 have dE:∀y∈E,y.all dat=true:=by rw [hE];exact az
 have tz:g .q .lss z many=decide (z<many):=bn hg _ _
 have tm:g .q .leq many 64=decide (many≤64):=ip hg _ _
 have ez:g .w .add .i64 z 1=z+1:=by rw [aM hg];exact wr1 (by omega) (by omega)
 have aE:E++[[.J 1]]=vw ao (List.replicate (z+1).toNat 1):=by
  rw [show(z+1).toNat=z.toNat+1 by omega,List.replicate_succ',bA,hE];rfl
 have done:¬(z<many∧many≤64)→E=vw ao (List.replicate (evm many) 1):=fun h=>by
  have:z.toNat=evm many:=by unfold evm;split<;>omega
  rw [hE,this]
 by_cases hz:z<many
 ·by_cases hm64:many≤64
  ·have fin:0≤z+1∧(z+1=0∨z+1≤many∧many≤64)∧64-(z+1).toNat<64-z.toNat:=by omega
   cbv
   rw [tz,zqu hz]
   cbv
   rw [tm,zqu hm64]
   cbv
   refine dl hg rfl (by decide) hEl ?_
   cbv
   rw [gG hg,ez]
   generalize E++_=E2 at aE⊢
   have aE:E2=_:=aE
   have pE2:aj E2=true:=by rw [aE];exact ag _ _
   subst hB
   exact⟨(z+1,E2),⟨fin.1,fin.2.1,aE⟩,fin.2.2,Wk.weak (wkG [some 2] ⟨rfl,rfl,rfl,rfl,trivial⟩ ⟨wqE rfl pE2,trivial⟩ (by decide) aI)⟩
  ·rw [←done (by omega)]at c1
   cbv
   rw [tz,zqu hz]
   cbv
   rw [tm,zqt hm64]
   cbv
   first|(refine bB hg c1 (aq (ay rfl) (aq (bi (ab:=⟨_,_,E⟩) rfl kE dE) (aF))) iS ?_;cbv)|(refine bN hg c1 (aq (ay rfl) (aq (bi (ab:=⟨_,_,E⟩) rfl kE dE) (aF))) iS ?_;cbv)
   exact bP hF rfl pS
 ·rw [←done (by omega)]at c1
  cbv
  rw [tz,zqt hz]
  cbv
  first|(refine bB hg c1 (aq (ay rfl) (aq (bi (ab:=⟨_,_,E⟩) rfl kE dE) (aF))) iS ?_;cbv)|(refine bN hg c1 (aq (ay rfl) (aq (bi (ab:=⟨_,_,E⟩) rfl kE dE) (aF))) iS ?_;cbv)
  exact bP hF rfl pS
theorem ut(n many:Int):cY prog 358 [ai n,ai many] fun res rows=>res= .o 0∧rows=[⟨3,1,vw ao (evn n many)⟩]:=by
 have hm:evm many≤64:=oL many
 have c1:=nC n (List.replicate (evm many) 1) (by rw [List.length_replicate];omega)
 have c0:=da many 0 64
 have hno:(decide (0≤many)&&decide (many≤64))=false→evn n many=[]∨evm many=0:=fun h=>by
  right
  simp only [Bool.and_eq_false_iff,zqo]at h
  unfold evm;split<;>omega
 have hn0:evm many=0→evn n many=[]:=fun h=>zqv (by rw [gQ,h])
 obtain⟨S,hS⟩:=nmE (vw ao (evn n many))
 have hSn:evn n many=[]→S=[]:=fun h=>by rw [hS,h];rfl
 have iS:bR S=true:=by rw [hS];exact aG _ _
 have pS:aj S=true:=by rw [hS];exact ag _ _
 rw [show shr n (List.replicate (evm many) 1)=evn n many from rfl,←hS]at c1
 rw [←hS]
 cases hq:(decide (0≤many)&&decide (many≤64))
 ·have e:S=[]:=hSn ((hno hq).elim id hn0)
  rw [hq]at c0
  subst e
  refine ae (aK f358) aD func358 fun g F hg hF=> ?_
  cbv
  repeat'((first|refine ad hg c0 ?_|refine aa hg c0 ?_);cbv)
  exact vU _ _ hF ⟨rfl,rfl⟩
 rw [hq]at c0
 simp only [zqs,zqp]at hq
 have hem:(evm many:Int)=many:=nN hq.1 hq.2
 refine ae (aK f358) aD func358 fun g F hg hF=> ?_
 cbv
 repeat'((first|refine ad hg c0 ?_|refine aa hg c0 ?_);cbv)
 refine je hg aD (by kernel_rfl) (fun s:Int×LLA=>[(0,.i (n)),(5,.o 0),(9,.i (many)),(10,.i (s.1))]) (fun s=>[.rw ⟨3,1,s.2⟩]) (fun s=>0≤s.1∧s.1≤many∧s.2=vw ao (List.replicate s.1.toNat 1)) (fun s=>64-s.1.toNat)
  (0,[]) ⟨by simp,hq.1,rfl⟩ (Wk.weak (wkG [none] ⟨rfl,rfl,rfl,rfl,trivial⟩ ⟨⟨_,rfl,rfl⟩,trivial⟩ (by decide) aI)) (fun s B hs hB=> ?_)
 obtain⟨z,E⟩:=s
 obtain⟨h0,h1,hE⟩:=hs
 dsimp only at h0 h1 hE
 have hz64:z.toNat≤64:=by omega
 have hEl:E.length≤1048576:=by rw [hE,af,List.length_replicate];omega
 have pE:aj E=true:=by rw [hE];exact ag _ _
 have kE:∀y∈E,y.length=1:=by rw [hE];exact bC (c:=ao) (k:=1) fun _=>rfl
 have dE:∀y∈E,y.all dat=true:=by rw [hE];exact az
 have tz:g .q .lss z many=decide (z<many):=bn hg _ _
 have ez:g .w .add .i64 z 1=z+1:=by rw [aM hg];exact wr1 (by omega) (by omega)
 have aE:E++[[.J 1]]=vw ao (List.replicate (z+1).toNat 1):=by
  rw [show(z+1).toNat=z.toNat+1 by omega,List.replicate_succ',bA,hE];rfl
 have done:¬z<many→E=vw ao (List.replicate (evm many) 1):=fun h=>by
  have hem2:(evm many:Int)=many:=nN hq.1 hq.2
  have:z.toNat=evm many:=by omega
  rw [hE,this]
 by_cases hz:z<many
 ·have fin:0≤z+1∧z+1≤many∧64-(z+1).toNat<64-z.toNat:=by omega
  cbv
  rw [tz,zqu hz]
  cbv
  refine dl hg rfl (by decide) hEl ?_
  cbv
  rw [gG hg,ez]
  generalize E++_=E2 at aE⊢
  have aE:E2=_:=aE
  have pE2:aj E2=true:=by rw [aE];exact ag _ _
  subst hB
  exact⟨(z+1,E2),⟨fin.1,fin.2.1,aE⟩,fin.2.2,Wk.weak (wkG [some 2] ⟨rfl,rfl,rfl,rfl,trivial⟩ ⟨wqE rfl pE2,trivial⟩ (by decide) aI)⟩
 ·rw [←done hz]at c1
  cbv
  rw [tz,zqt hz]
  cbv
  first|(refine bB hg c1 (aq (ay rfl) (aq (bi (ab:=⟨_,_,E⟩) rfl kE dE) (aF))) iS ?_;cbv)|(refine bN hg c1 (aq (ay rfl) (aq (bi (ab:=⟨_,_,E⟩) rfl kE dE) (aF))) iS ?_;cbv)
  exact bP hF rfl pS
theorem dN(n many:Int):PC0 365 [ai n,ai many] (.t (.c (.view (vw ao (evn n many))))):=wg (s8 n many) fun _=>rfl
theorem dQ(n many:Int):PC0 358 [ai n,ai many] (.t (.c (.view (vw ao (evn n many))))):=wg (ut n many) fun _=>rfl
theorem nI(free many js:Int):PC0 329 [ai free,ai many,ai js] (.i (led free many js)):=by
 have c0:=da many 1 12
 have cd:=bK free 2
 have c5:=dQ free (2*many)
 have c6:=dQ free (many+1)
 change PC0 _ _ (.t (abl (rng many 1 12)))at c0
 have hl5:rng many 1 12=true→(vw ao (evn free (2*many)))[(0:Int).toNat]? =some [.J (elZ (evn free (2*many)) 0)]:=fun h=>by
  simp only [rng,zqs,zqp]at h
  exact bh (jZ (by omega) (by rw [gQ,nN (by omega) (by omega)];omega))
 have hl6:rng many 1 12=true→(vw ao (evn free (many+1)))[(0:Int).toNat]? =some [.J (elZ (evn free (many+1)) 0)]:=fun h=>by
  simp only [rng,zqs,zqp]at h
  exact bh (jZ (by omega) (by rw [gQ,nN (by omega) (by omega)];omega))
 have hw5:rng many 1 12=true→wrap64 (2*many)=2*many∧wrap64 (many+1)=many+1:=fun h=>by
  simp only [rng,zqs,zqp]at h
  exact⟨aC _ (by omega),aC _ (by omega)⟩
 obtain⟨R,hR⟩:=nmE (led free many js)
 unfold led at hR
 obtain⟨v5,hv5⟩:=nmE (elZ (evn free (2*many)) 0)
 obtain⟨v6,hv6⟩:=nmE (elZ (evn free (many+1)) 0)
 obtain⟨d,hd⟩:=nmE (fdv free 2)
 obtain⟨Y5,hY5⟩:=nmE (vw ao (evn free (2*many)))
 obtain⟨Y6,hY6⟩:=nmE (vw ao (evn free (many+1)))
 obtain⟨I,hI⟩:=nmE (rng many 1 12)
 rw [show PC0 _ _ _=PC0 _ _ (.i R) by rw [hR];unfold led;rfl]
 rw [←hv5,←hv6,←hd,←hI]at hR
 rw [←hv5,←hY5,←hI]at hl5
 rw [←hv6,←hY6,←hI]at hl6
 rw [←hI]at hw5 c0
 rw [←hY5]at c5
 rw [←hY6]at c6
 rw [←hd]at cd
 clear hv5 hv6 hd hY5 hY6 hI
 refine ae (aK f329) aD func329 fun g F hg hF=> ?_
 have e5:I=true→g .w .mul .i64 2 many=2*many:=fun h=>by rw [fO hg,(hw5 h).1]
 have e6:I=true→g .w .add .i64 many 1=many+1:=fun h=>by rw [aM hg,(hw5 h).2]
 have q2:g .q .eql (js) (2)=decide ((js)=(2)):=by rw [bv hg];exact zqn _ _
 have q3:g .q .eql (js) (3)=decide ((js)=(3)):=by rw [bv hg];exact zqn _ _
 have q5:g .q .eql (js) (5)=decide ((js)=(5)):=by rw [bv hg];exact zqn _ _
 have q6:g .q .eql (js) (6)=decide ((js)=(6)):=by rw [bv hg];exact zqn _ _
 have q0:g .q .lss (free) (0)=decide ((free)<(0)):=bn hg _ _
 generalize 2*many=m2 at *
 generalize many+1=m1 at *
 cases I
 ·cbv
  repeat'((first|refine ad hg c0 ?_|refine aa hg c0 ?_);cbv)
  exact ba hF (by rw [hR];rfl)
 replace e5:=e5 rfl
 replace e6:=e6 rfl
 replace hl5:=hl5 rfl
 replace hl6:=hl6 rfl
 by_cases j2:js=2<;>by_cases j3:js=3<;>by_cases j5:js=5<;>by_cases j6:js=6<;>by_cases f0:free<0
 all_goals first
  |(exfalso;omega)
  |((first|rw [zqu j2]at q2|rw [zqt j2]at q2|rw [zqu (Classical.not_not.2 j2)]at q2|rw [zqt (Classical.not_not.2 j2)]at q2);(first|rw [zqu j3]at q3|rw [zqt j3]at q3|rw [zqu (Classical.not_not.2 j3)]at q3|rw [zqt (Classical.not_not.2 j3)]at q3);(first|rw [zqu j5]at q5|rw [zqt j5]at q5|rw [zqu (Classical.not_not.2 j5)]at q5|rw [zqt (Classical.not_not.2 j5)]at q5);(first|rw [zqu j6]at q6|rw [zqt j6]at q6|rw [zqu (Classical.not_not.2 j6)]at q6|rw [zqt (Classical.not_not.2 j6)]at q6);(first|rw [zqu f0]at q0|rw [zqt f0]at q0|rw [zqu (Classical.not_not.2 f0)]at q0|rw [zqt (Classical.not_not.2 f0)]at q0);cbv;(repeat'((first|rw [q2]|rw [q3]|rw [q5]|rw [q6]|rw [q0]|rw [e5]|rw [e6]|refine ad hg c0 ?_|refine aa hg c0 ?_|refine ad hg cd ?_|refine aa hg cd ?_|refine ad hg c5 ?_|refine aa hg c5 ?_|refine ad hg c6 ?_|refine aa hg c6 ?_|refine goX hg _ (by omega) hl5 rfl ?_|refine goX hg _ (by omega) hl6 rfl ?_);cbv));exact ba hF (by rw [hR];simp [j2,j3,j5,j6,f0]))
theorem mZ(free many js:Int):PC0 352 [ai free,ai many,ai js] (.i (led free many js)):=by
 have c0:=bI many 1 12
 have cd:=bJ free 2
 have c5:=dN free (2*many)
 have c6:=dN free (many+1)
 have x5:=kq (evn free (2*many)) (by rw [gQ];have:=oL (2*many);omega)
 have x6:=kq (evn free (many+1)) (by rw [gQ];have:=oL (many+1);omega)
 change PC0 _ _ (.t (abl (rng many 1 12)))at c0
 have hw5:rng many 1 12=true→wrap64 (2*many)=2*many∧wrap64 (many+1)=many+1:=fun h=>by
  simp only [rng,zqs,zqp]at h
  exact⟨aC _ (by omega),aC _ (by omega)⟩
 obtain⟨R,hR⟩:=nmE (led free many js)
 rw [←hR]
 unfold led at hR
 obtain⟨v5,hv5⟩:=nmE (elZ (evn free (2*many)) 0);(try rw [←hv5]at hR);(try rw [←hv5]at x5)
 obtain⟨v6,hv6⟩:=nmE (elZ (evn free (many+1)) 0);(try rw [←hv6]at hR);(try rw [←hv6]at x6)
 obtain⟨d,hd⟩:=nmE (fdv free 2);(try rw [←hd]at hR);(try rw [←hd]at cd)
 obtain⟨Y5,hY5⟩:=nmE (vw ao (evn free (2*many)));(try rw [←hY5]at c5);(try rw [←hY5]at x5)
 obtain⟨Y6,hY6⟩:=nmE (vw ao (evn free (many+1)));(try rw [←hY6]at c6);(try rw [←hY6]at x6)
 obtain⟨I,hI⟩:=nmE (rng many 1 12);(try rw [←hI]at hR);(try rw [←hI]at hw5);(try rw [←hI]at c0)
 clear hv5 hv6 hd hY5 hY6 hI
 refine ae (aK f352) aD func352 fun g F hg hF=> ?_
 have e5:I=true→g .w .mul .i64 2 many=2*many:=fun h=>by rw [fO hg,(hw5 h).1]
 have e6:I=true→g .w .add .i64 many 1=many+1:=fun h=>by rw [aM hg,(hw5 h).2]
 have q2:g .q .eql (js) (2)=decide ((js)=(2)):=by rw [bv hg];exact zqn _ _
 have q3:g .q .eql (js) (3)=decide ((js)=(3)):=by rw [bv hg];exact zqn _ _
 have q5:g .q .eql (js) (5)=decide ((js)=(5)):=by rw [bv hg];exact zqn _ _
 have q6:g .q .eql (js) (6)=decide ((js)=(6)):=by rw [bv hg];exact zqn _ _
 have q0:g .q .lss (free) (0)=decide ((free)<(0)):=bn hg _ _
 generalize 2*many=m2 at *
 generalize many+1=m1 at *
 cases I
 ·cbv
  repeat'((first|refine ad hg c0 ?_|refine aa hg c0 ?_);cbv)
  exact ba hF (by rw [hR];rfl)
 replace e5:=e5 rfl
 replace e6:=e6 rfl
 by_cases j2:js=2<;>by_cases j3:js=3<;>by_cases j5:js=5<;>by_cases j6:js=6<;>by_cases f0:free<0
 all_goals first
  |(exfalso;omega)
  |((first|rw [zqu j2]at q2|rw [zqt j2]at q2|rw [zqu (Classical.not_not.2 j2)]at q2|rw [zqt (Classical.not_not.2 j2)]at q2);(first|rw [zqu j3]at q3|rw [zqt j3]at q3|rw [zqu (Classical.not_not.2 j3)]at q3|rw [zqt (Classical.not_not.2 j3)]at q3);(first|rw [zqu j5]at q5|rw [zqt j5]at q5|rw [zqu (Classical.not_not.2 j5)]at q5|rw [zqt (Classical.not_not.2 j5)]at q5);(first|rw [zqu j6]at q6|rw [zqt j6]at q6|rw [zqu (Classical.not_not.2 j6)]at q6|rw [zqt (Classical.not_not.2 j6)]at q6);(first|rw [zqu f0]at q0|rw [zqt f0]at q0|rw [zqu (Classical.not_not.2 f0)]at q0|rw [zqt (Classical.not_not.2 f0)]at q0);cbv;(repeat'((first|rw [q2]|rw [q3]|rw [q5]|rw [q6]|rw [q0]|rw [e5]|rw [e6]|refine ad hg c0 ?_|refine aa hg c0 ?_|refine ad hg cd ?_|refine aa hg cd ?_|refine ad hg c5 ?_|refine aa hg c5 ?_|refine ad hg c6 ?_|refine aa hg c6 ?_|refine ad hg x5 ?_|refine aa hg x5 ?_|refine ad hg x6 ?_|refine aa hg x6 ?_);cbv));exact ba hF (by rw [hR];simp [j2,j3,j5,j6,f0]))
theorem jS(free many js i:Int)(hm0:0≤many)(hm1:many≤12)(hi0:0≤i)(hi1:i≤12):PC0 330 [ai free,ai many,ai js,ai i] (.i (btw free many js i)):=by
 have hl:∀m:Int,(evn free m).length≤1048576:=fun m=>by rw [gQ];have:=oL m;omega
 have c4:=dQ free (many-1)
 have x4:=cV (evn free (many-1)) (hl _) i
 have c5:=dQ free (2*many)
 have x5:=cV (evn free (2*many)) (hl _) (2*i+1)
 have y5:=cV (evn free (2*many)) (hl _) (2*i+2)
 have c6:=dQ free (many+1)
 have x6:=cV (evn free (many+1)) (hl _) (i+1)
 have w1:=wr1 (a:=many-1) (by omega) (by omega)
 have w2:=wr1 (a:=2*many) (by omega) (by omega)
 have w3:=wr1 (a:=many+1) (by omega) (by omega)
 have w4:=wr1 (a:=i+1) (by omega) (by omega)
 have w5:=wr1 (a:=2*i) (by omega) (by omega)
 have w6:=wr1 (a:=2*i+1) (by omega) (by omega)
 have w7:=wr1 (a:=2*i+2) (by omega) (by omega)
 clear hl
 obtain⟨R,hR⟩:=nmE (btw free many js i)
 rw [←hR]
 unfold btw at hR
 obtain⟨v4,hv4⟩:=nmE (elZ (evn free (many-1)) i);(try rw [←hv4]at hR);(try rw [←hv4]at x4)
 obtain⟨v5,hv5⟩:=nmE (elZ (evn free (2*many)) (2*i+1));(try rw [←hv5]at hR);(try rw [←hv5]at x5)
 obtain⟨u5,hu5⟩:=nmE (elZ (evn free (2*many)) (2*i+2));(try rw [←hu5]at hR);(try rw [←hu5]at y5)
 obtain⟨v6,hv6⟩:=nmE (elZ (evn free (many+1)) (i+1));(try rw [←hv6]at hR);(try rw [←hv6]at x6)
 obtain⟨Y4,hY4⟩:=nmE (vw ao (evn free (many-1)));(try rw [←hY4]at c4);(try rw [←hY4]at x4)
 obtain⟨Y5,hY5⟩:=nmE (vw ao (evn free (2*many)));(try rw [←hY5]at c5);(try rw [←hY5]at x5);(try rw [←hY5]at y5)
 obtain⟨Y6,hY6⟩:=nmE (vw ao (evn free (many+1)));(try rw [←hY6]at c6);(try rw [←hY6]at x6)
 clear hv4 hv5 hu5 hv6 hY4 hY5 hY6
 refine ae (aK f330) aD func330 fun g F hg hF=> ?_
 have e1:g .w .sub .i64 many 1=many-1:=by rw [dd hg,w1]
 have e2:g .w .mul .i64 2 many=2*many:=by rw [fO hg,w2]
 have e3:g .w .add .i64 many 1=many+1:=by rw [aM hg,w3]
 have e4:g .w .add .i64 i 1=i+1:=by rw [aM hg,w4]
 have e5:g .w .mul .i64 2 i=2*i:=by rw [fO hg,w5]
 have e6:g .w .add .i64 (2*i) 1=2*i+1:=by rw [aM hg,w6]
 have e7:g .w .add .i64 (2*i) 2=2*i+2:=by rw [aM hg,w7]
 have e8:g .w .add .i64 v5 u5=wrap64 (v5+u5):=aM hg _ _
 obtain⟨Z,hZ⟩:=nmE (wrap64 (v5+u5));(try rw [←hZ]at hR);(try rw [←hZ]at e8)
 have q4:g .q .eql (js) (4)=decide ((js)=(4)):=by rw [bv hg];exact zqn _ _
 have q5:g .q .eql (js) (5)=decide ((js)=(5)):=by rw [bv hg];exact zqn _ _
 have q6:g .q .eql (js) (6)=decide ((js)=(6)):=by rw [bv hg];exact zqn _ _
 have q0:g .q .lss (free) (0)=decide ((free)<(0)):=bn hg _ _
 clear hm0 hm1 hi0 hi1 w1 w2 w3 w4 w5 w6 w7 hZ
 generalize 2*i+1=k1 at *
 generalize 2*i+2=k2 at *
 generalize 2*i=k3 at *
 generalize i+1=k4 at *
 generalize 2*many=m2 at *
 generalize many+1=m1 at *
 generalize many-1=m3 at *
 by_cases f0:free<0
 ·(first|rw [zqu f0]at q0|rw [zqt f0]at q0|rw [zqu (Classical.not_not.2 f0)]at q0|rw [zqt (Classical.not_not.2 f0)]at q0)
  cbv
  (repeat'(rw [q0];cbv))
  exact ba hF (by rw [hR,if_pos f0])
 (first|rw [zqu f0]at q0|rw [zqt f0]at q0|rw [zqu (Classical.not_not.2 f0)]at q0|rw [zqt (Classical.not_not.2 f0)]at q0)
 by_cases j4:js=4<;>by_cases j5:js=5<;>by_cases j6:js=6
 all_goals first
  |(exfalso;omega)
  |((first|rw [zqu j4]at q4|rw [zqt j4]at q4|rw [zqu (Classical.not_not.2 j4)]at q4|rw [zqt (Classical.not_not.2 j4)]at q4);(first|rw [zqu j5]at q5|rw [zqt j5]at q5|rw [zqu (Classical.not_not.2 j5)]at q5|rw [zqt (Classical.not_not.2 j5)]at q5);(first|rw [zqu j6]at q6|rw [zqt j6]at q6|rw [zqu (Classical.not_not.2 j6)]at q6|rw [zqt (Classical.not_not.2 j6)]at q6);cbv;(repeat'((first|rw [q4]|rw [q5]|rw [q6]|rw [q0]|rw [e1]|rw [e2]|rw [e3]|rw [e4]|rw [e5]|rw [e6]|rw [e7]|rw [e8]|refine ad hg c4 ?_|refine aa hg c4 ?_|refine ad hg c5 ?_|refine aa hg c5 ?_|refine ad hg c6 ?_|refine aa hg c6 ?_|refine ad hg x4 ?_|refine aa hg x4 ?_|refine ad hg x5 ?_|refine aa hg x5 ?_|refine ad hg y5 ?_|refine aa hg y5 ?_|refine ad hg x6 ?_|refine aa hg x6 ?_);cbv));exact ba hF (by rw [hR];simp [j4,j5,j6,f0]))
section
variable {P : Program} {n0 N : Nat} {g : Gd}
theorem mkI(hg:g=G0 P n0 N){n:Int}{by_:Nat}{q:Prop}(hb:by_≤65536)(h0:0≤n)(h1:n≤1048576)(hq:q):g .N (n=n∧0≤n∧(by_:Int)*n≤140737488355328∧n≤4611686018427387904) q:=by
 subst hg
 have h2:(by_:Int)*n≤65536*1048576:=Int.mul_le_mul (by omega) h1 h0 (by omega)
 exact⟨⟨rfl,h0,by omega,by omega⟩,hq⟩
end
theorem pt{α:Type}(c:α→Array Value)(n:Nat)(x:α):List.replicate n (lc (c x))=vw c (List.replicate n x):=by simp [vw]
theorem mi{α:Type}(c:α→Array Value)(xs:List α)(i:Nat)(x:α):(vw c xs).set i (lc (c x))=vw c (xs.set i x):=by simp [vw,List.map_set]
theorem oS (free many js : Int) (hm0 : 0 ≤ many) (hm1 : many ≤ 12) : cY prog 354 [ai free, ai many, ai js] fun res rows => res = .o 0 ∧ rows = [⟨3, 1, vw ao (spc free many js)⟩] := by
  have hneg := Dy free many js
  have hend : ∀ z : Int, 0 ≤ z → (z = 0 ∨ z < many) → ¬ z + 1 < many → spL (btw free many js) many.toNat z.toNat = spc free many js := fun z a b c => Dz free many js hm0 (by omega) (by omega)
  obtain ⟨S, hS⟩ := nmE (vw ao (spc free many js)); (try rw [← hS] at ⊢)
  refine ae (aK f354) aD func354 fun g F hg hF => ?_
  cbv
  refine mkI hg (by decide) hm0 (by omega) ?_
  cbv
  generalize hE0 : g .rp many _ = E
  replace hE : E = vw ao (spL (btw free many js) many.toNat 0) := by rw [← hE0, yM hg]; exact pt ao _ 0
  clear hE0
  have pE : aj E = true := by rw [hE]; exact ag _ _
  have q0 : g .q .lss (free) (0) = decide ((free) < (0)) := bn hg _ _
  by_cases f0 : free < 0
  · (first | rw [zqu f0] at q0 | rw [zqt f0] at q0 | rw [zqu (Classical.not_not.2 f0)] at q0 | rw [zqt (Classical.not_not.2 f0)] at q0)
    (repeat' (first | (rw [q0]; cbv)))
    obtain rfl : E = S := by rw [hS, hneg f0, hE]; simp [spL, ixs]
    exact bP hF rfl pE
  (first | rw [zqu f0] at q0 | rw [zqt f0] at q0 | rw [zqu (Classical.not_not.2 f0)] at q0 | rw [zqt (Classical.not_not.2 f0)] at q0)
  (repeat' (first | (rw [q0]; cbv)))
  refine je hg aD (by kernel_rfl) (fun s : Int × LLA => [(0, .i (free)), (1, .i (many)), (2, .i (js)), (7, .o 0), (8, .i (s.1))]) (fun s => [.rw ⟨3, 1, s.2⟩]) (fun s => 0 ≤ s.1 ∧ (s.1 = 0 ∨ s.1 < many) ∧ s.2 = vw ao (spL (btw free many js) many.toNat s.1.toNat)) (fun s => 12 - s.1.toNat)
    (0, E) ⟨by simp, .inl rfl, hE⟩ (Wk.weak (wkG [some _] ⟨rfl, rfl, rfl, rfl, rfl, trivial⟩ ⟨wqE rfl pE, trivial⟩ (by decide) aI)) (fun s B hs hB => ?_)
  obtain ⟨z, E⟩ := s
  obtain ⟨h0, h1, hE⟩ := hs
  dsimp only at h0 h1 hE
  have pE : aj E = true := by rw [hE]; exact ag _ _
  obtain ⟨z1, hz1⟩ := nmE (z + 1)
  have ez : g .w .add .i64 z 1 = z1 := by rw [aM hg, hz1]; exact wr1 (by omega) (by omega)
  have tz : g .q .lss z1 many = decide (z1 < many) := bn hg _ _
  by_cases hz : z1 < many
  rotate_left
  · (first | rw [zqu hz] at tz | rw [zqt hz] at tz | rw [zqu (Classical.not_not.2 hz)] at tz | rw [zqt (Classical.not_not.2 hz)] at tz)
    cbv
    (repeat' (first | (rw [ez]; cbv) | (rw [tz]; cbv)))
    obtain rfl : E = S := by rw [hS, hE, hend z h0 h1 (by omega)]
    exact bP hF rfl pE
  have hzE : z < bg E := by rw [hE, aN, DB _ (by omega)]; omega
  have hcell : ∃ e, E[z.toNat]? = some e ∧ e.length = 1 := ⟨_, by rw [hE]; exact bh (Ez (btw free many js) (show z.toNat < many.toNat by omega)), rfl⟩
  obtain ⟨b, hb⟩ := nmE (btw free many js z)
  have hset : E.set z.toNat [.J b] = vw ao (spL (btw free many js) many.toNat z1.toNat) := by
    rw [hE, hb, show z1.toNat = z.toNat + 1 by omega, ← DA (btw free many js) (show z.toNat < many.toNat by omega), ← mi, show ((z.toNat : Nat) : Int) = z by omega]; rfl
  have hsame : b = 0 → E = vw ao (spL (btw free many js) many.toNat z1.toNat) := fun h => by
    rw [hE, show z1.toNat = z.toNat + 1 by omega, ← Bn (btw free many js) (show z.toNat < many.toNat by omega)]
    rw [show ((z.toNat : Nat) : Int) = z by omega, ← hb, h]
  have hl : ∀ m : Int, 0 ≤ m → m ≤ 64 → ((evn free m).length : Int) = m := fun m a b => by rw [gQ, nN a b]
  have c4 := dN free (many - 1)
  have c5 := dN free (2 * many)
  have c6 := dN free (many + 1)
  have x4 : (vw ao (evn free (many - 1)))[z.toNat]? = some [.J (elZ (evn free (many - 1)) z)] := bh (jZ h0 (by rw [hl _ (by omega) (by omega)]; omega))
  have x5 : (vw ao (evn free (2 * many)))[(2 * z + 1).toNat]? = some [.J (elZ (evn free (2 * many)) (2 * z + 1))] := bh (jZ (by omega) (by rw [hl _ (by omega) (by omega)]; omega))
  have y5 : (vw ao (evn free (2 * many)))[(2 * z + 2).toNat]? = some [.J (elZ (evn free (2 * many)) (2 * z + 2))] := bh (jZ (by omega) (by rw [hl _ (by omega) (by omega)]; omega))
  have x6 : (vw ao (evn free (many + 1)))[z1.toNat]? = some [.J (elZ (evn free (many + 1)) (z + 1))] := by rw [hz1]; exact bh (jZ (by omega) (by rw [hl _ (by omega) (by omega)]; omega))
  have hbu := hb
  unfold btw at hbu
  rw [if_neg f0] at hbu
  obtain ⟨v4, hv4⟩ := nmE (elZ (evn free (many - 1)) z); (try rw [← hv4] at hbu); (try rw [← hv4] at x4)
  obtain ⟨v5, hv5⟩ := nmE (elZ (evn free (2 * many)) (2 * z + 1)); (try rw [← hv5] at hbu); (try rw [← hv5] at x5)
  obtain ⟨u5, hu5⟩ := nmE (elZ (evn free (2 * many)) (2 * z + 2)); (try rw [← hu5] at hbu); (try rw [← hu5] at y5)
  obtain ⟨v6, hv6⟩ := nmE (elZ (evn free (many + 1)) (z + 1)); (try rw [← hv6] at hbu); (try rw [← hv6] at x6)
  obtain ⟨Y4, hY4⟩ := nmE (vw ao (evn free (many - 1))); (try rw [← hY4] at c4); (try rw [← hY4] at x4)
  obtain ⟨Y5, hY5⟩ := nmE (vw ao (evn free (2 * many))); (try rw [← hY5] at c5); (try rw [← hY5] at x5); (try rw [← hY5] at y5)
  obtain ⟨Y6, hY6⟩ := nmE (vw ao (evn free (many + 1))); (try rw [← hY6] at c6); (try rw [← hY6] at x6)
  have e1 : g .w .sub .i64 many 1 = many - 1 := by rw [dd hg, wr1 (by omega) (by omega)]
  have e2 : g .w .mul .i64 2 many = 2 * many := by rw [fO hg, wr1 (by omega) (by omega)]
  have e3 : g .w .add .i64 many 1 = many + 1 := by rw [aM hg, wr1 (by omega) (by omega)]
  have e5 : g .w .mul .i64 2 z = 2 * z := by rw [fO hg, wr1 (by omega) (by omega)]
  have e6 : g .w .add .i64 (2 * z) 1 = 2 * z + 1 := by rw [aM hg, wr1 (by omega) (by omega)]
  have e7 : g .w .add .i64 (2 * z) 2 = 2 * z + 2 := by rw [aM hg, wr1 (by omega) (by omega)]
  have e8 : g .w .add .i64 v5 u5 = wrap64 (v5 + u5) := aM hg _ _
  obtain ⟨Z, hZ⟩ := nmE (wrap64 (v5 + u5)); (try rw [← hZ] at hbu); (try rw [← hZ] at e8)
  have q4 : g .q .eql (js) (4) = decide ((js) = (4)) := by rw [bv hg]; exact zqn _ _
  have q5 : g .q .eql (js) (5) = decide ((js) = (5)) := by rw [bv hg]; exact zqn _ _
  have q6 : g .q .eql (js) (6) = decide ((js) = (6)) := by rw [bv hg]; exact zqn _ _
  have fuel : 12 - z1.toNat < 12 - z.toNat := by omega
  have n1 : 0 ≤ z1 ∧ (z1 = 0 ∨ z1 < many) := by omega
  have k1p : 0 ≤ 2 * z + 1 := by omega
  have k2p : 0 ≤ 2 * z + 2 := by omega
  clear hv4 hv5 hu5 hv6 hY4 hY5 hY6 hl hZ hb
  generalize 2 * z + 1 = k1 at *
  generalize 2 * z + 2 = k2 at *
  generalize 2 * z = k3 at *
  generalize 2 * many = m2 at *
  generalize many + 1 = mp at *
  generalize many - 1 = m3 at *
  have pS : aj (E.set z.toNat [.J b]) = true := by rw [hset]; exact ag _ _
  obtain ⟨E1, hE1⟩ : ∃ E1, E1 = E.set z.toNat [.J b] := ⟨_, rfl⟩
  rw [← hE1] at hset pS
  (first | rw [zqu hz] at tz | rw [zqt hz] at tz | rw [zqu (Classical.not_not.2 hz)] at tz | rw [zqt (Classical.not_not.2 hz)] at tz)
  by_cases j4 : js = 4 <;> by_cases j5 : js = 5 <;> by_cases j6 : js = 6
  all_goals first
    | (exfalso; omega)
    | ((first | rw [zqu j4] at q4 | rw [zqt j4] at q4 | rw [zqu (Classical.not_not.2 j4)] at q4 | rw [zqt (Classical.not_not.2 j4)] at q4); (first | rw [zqu j5] at q5 | rw [zqt j5] at q5 | rw [zqu (Classical.not_not.2 j5)] at q5 | rw [zqt (Classical.not_not.2 j5)] at q5); (first | rw [zqu j6] at q6 | rw [zqt j6] at q6 | rw [zqu (Classical.not_not.2 j6)] at q6 | rw [zqt (Classical.not_not.2 j6)] at q6)
       simp [j4, j5, j6] at hbu
       cbv
       (repeat' (first | (rw [ez]; cbv) | (rw [tz]; cbv) | (rw [q4]; cbv) | (rw [q5]; cbv) | (rw [q6]; cbv) | (rw [e1]; cbv) | (rw [e2]; cbv) | (rw [e3]; cbv) | (rw [e5]; cbv) | (rw [e6]; cbv) | (rw [e7]; cbv) | (rw [e8]; cbv) | (refine ad hg c4 ?_; cbv) | (refine aa hg c4 ?_; cbv) | (refine ad hg c5 ?_; cbv) | (refine aa hg c5 ?_; cbv) | (refine ad hg c6 ?_; cbv) | (refine aa hg c6 ?_; cbv) | (refine goX hg _ (by omega) x4 rfl ?_; cbv) | (refine goX hg _ (by omega) x5 rfl ?_; cbv) | (refine goX hg _ (by omega) y5 rfl ?_; cbv) | (refine goX hg _ (by omega) x6 rfl ?_; cbv)))
       first
         | (subst hB
            exact ⟨(z1, E), ⟨n1.1, n1.2, hsame hbu⟩, fuel, Wk.weak (wkG [some _] ⟨rfl, rfl, rfl, rfl, rfl, trivial⟩ ⟨wqE rfl pE, trivial⟩ (by decide) aI)⟩)
         | (refine goY hg h0 hzE fun j2 hj2 hjl2 => ?_
            cbv
            refine goN hg (by rw [hj2]; exact hcell) ?_
            cbv
            rw [mH hg, hj2, ← hbu, ez]
            dsimp only [AT.cells]
            rw [← hE1]
            subst hB
            exact ⟨(z1, E1), ⟨n1.1, n1.2, hset⟩, fuel, Wk.weak (wkG [some _] ⟨rfl, rfl, rfl, rfl, rfl, trivial⟩ ⟨wqE rfl pS, trivial⟩ (by decide) aI)⟩))
theorem jM(free many js:Int)(hm0:0≤many)(hm1:many≤12):PC0 354 [ai free,ai many,ai js] (.t (.c (.view (vw ao (spc free many js))))):=wg (oS free many js hm0 hm1) fun _=>rfl
theorem rS(xs:List Int)(hl:xs.length≤1048576):PC0 326 [.c (.view (vw ao xs))] (.i (yu 0 xs)):=by
 obtain⟨V,hV⟩:=nmE (vw ao xs)
 have hVl:V.length=xs.length:=by rw [hV,af]
 have iV:bR V=true:=by rw [hV];exact aG _ _
 have kV:∀y∈V,y.length=1:=by rw [hV];exact bC (c:=ao) (k:=1) fun _=>rfl
 have dV:∀y∈V,y.all dat=true:=by rw [hV];exact az
 obtain⟨R,hR⟩:=nmE (yu 0 xs)
 rw [←hV,←hR]
 refine ae (aK f326) aD func326 fun g F hg hF=> ?_
 cbv
 refine aY hg aD (by kernel_rfl) V (fun x=>lc (ao x)) xs hV hl (fun z(s:Int)=>[(3,.i (s)),(6,.v V),(7,.i (g .ln V)),(8,.i (z))]) (fun z(s:Int)=>[]) (fun z(s:Int)=>True) (fun(s:Int) rest=>yu s rest) (R) (0:Int) hR.symm trivial (Wk.weak (wkG [] ⟨rfl,rfl,rfl,rfl,trivial⟩ trivial (by decide) aI)) (fun z s B hz h0 hi he=> ?_) (fun z s x rest B z0 z1 z2 hx hy h0 hi hc e1 hB=> ?_)
 ·cbv;rw [he];cbv
  exact ba hF h0
 ·cbv;rw [hc];cbv;refine goX hg _ z0 hy rfl ?_;cbv
  (first|refine bq hg (cu _) rfl (fun Q0 hQ0=> ?_)|refine aX hg (cu _) rfl (fun Q0 hQ0=> ?_));cbv
  rw [e1,aM hg,hQ0]
  exact hB (_) _ _ ⟨h0,trivial⟩ (Wk.weak (wkG [] ⟨rfl,rfl,rfl,rfl,trivial⟩ trivial (by decide) aI))
theorem rk(xs:List Int)(hl:xs.length≤1048576):PC0 349 [.c (.view (vw ao xs))] (.i (yu 0 xs)):=by
 obtain⟨V,hV⟩:=nmE (vw ao xs)
 have hVl:V.length=xs.length:=by rw [hV,af]
 have iV:bR V=true:=by rw [hV];exact aG _ _
 have kV:∀y∈V,y.length=1:=by rw [hV];exact bC (c:=ao) (k:=1) fun _=>rfl
 have dV:∀y∈V,y.all dat=true:=by rw [hV];exact az
 obtain⟨R,hR⟩:=nmE (yu 0 xs)
 rw [←hV,←hR]
 refine ae (aK f349) aD func349 fun g F hg hF=> ?_
 cbv
 refine aY hg aD (by kernel_rfl) V (fun x=>lc (ao x)) xs hV hl (fun z(s:Int)=>[(0,.v V),(3,.i (s)),(4,.i (z))]) (fun z(s:Int)=>[]) (fun z(s:Int)=>True) (fun(s:Int) rest=>yu s rest) (R) (0:Int) hR.symm trivial (Wk.weak (wkG [] ⟨rfl,rfl,rfl,trivial⟩ trivial (by decide) aI)) (fun z s B hz h0 hi he=> ?_) (fun z s x rest B z0 z1 z2 hx hy h0 hi hc e1 hB=> ?_)
 ·cbv;rw [he];cbv
  exact ba hF h0
 ·cbv;rw [hc];cbv;refine goX hg _ z0 hy rfl ?_;cbv
  (first|refine bq hg (bQ _) rfl (fun Q0 hQ0=> ?_)|refine aX hg (bQ _) rfl (fun Q0 hQ0=> ?_));cbv
  rw [e1,aM hg,hQ0]
  exact hB (_) _ _ ⟨h0,trivial⟩ (Wk.weak (wkG [] ⟨rfl,rfl,rfl,trivial⟩ trivial (by decide) aI))
theorem fN(xs:List Int)(gap:Int)(hl:xs.length≤1048576):PC0 264 [.c (.view (vw ao xs)),ai gap] (.i (crt xs gap)):=by
 have cT:=rS xs hl
 have hnil:xs=[]↔(xs.length:Int)=0:=by
  cases xs with
  |nil=>simp
  |cons x xs=>simp;omega
 obtain⟨R,hR⟩:=nmE (crt xs gap)
 rw [←hR]
 unfold crt at hR
 simp only [hnil]at hR
 obtain⟨T,hT⟩:=nmE (yu 0 xs);(try rw [←hT]at cT);(try rw [←hT]at hR)
 obtain⟨V,hV⟩:=nmE (vw ao xs)
 have hVl:V.length=xs.length:=by rw [hV,af]
 have iV:bR V=true:=by rw [hV];exact aG _ _
 have kV:∀y∈V,y.length=1:=by rw [hV];exact bC (c:=ao) (k:=1) fun _=>rfl
 have dV:∀y∈V,y.all dat=true:=by rw [hV];exact az
 have hVx:bg V=(xs.length:Int):=by rw [hV,aN]
 rw [←hV]at cT⊢
 have hln:0≤(xs.length:Int)∧(xs.length:Int)≤1048576:=by omega
 clear hnil
 obtain⟨n,hn⟩:=nmE ((xs.length:Int));(try rw [←hn]at hVx);(try rw [←hn]at hln);(try rw [←hn]at hR)
 refine ae (aK f264) aD func264 fun g F hg hF=> ?_
 have t4:g .ln V=n:=by rw [bD hg,hVx]
 have t1:g .q .eql (n) (0)=decide ((n)=(0)):=by rw [bv hg];exact zqn _ _
 have e1:g .w .sub .i64 n 1=n-1:=by rw [dd hg];exact wr1 (by omega) (by omega)
 have e2:g .w .mul .i64 gap (n-1)=wrap64 (gap*(n-1)):=fO hg _ _
 have e3:g .w .add .i64 T (wrap64 (gap*(n-1)))=wrap64 (T+wrap64 (gap*(n-1))):=aM hg _ _
 by_cases h:n=0
 ·rw [if_pos h]at hR
  (first|rw [zqu h]at t1|rw [zqt h]at t1|rw [zqu (Classical.not_not.2 h)]at t1|rw [zqt (Classical.not_not.2 h)]at t1)
  cbv
  (repeat'((first|rw [t4]|rw [t1]);cbv))
  exact ba hF hR.symm
 ·rw [if_neg h]at hR
  (first|rw [zqu h]at t1|rw [zqt h]at t1|rw [zqu (Classical.not_not.2 h)]at t1|rw [zqt (Classical.not_not.2 h)]at t1)
  rw [←hR]at e3
  generalize wrap64 (gap*(n-1))=m2 at *
  generalize n-1=m1 at *
  cbv
  (repeat'((first|rw [t4]|rw [t1]|rw [e1]|rw [e2]|rw [e3]|refine ad hg cT ?_|refine aa hg cT ?_);cbv))
  exact ba hF rfl
theorem fK(xs:List Int)(gap:Int)(hl:xs.length≤1048576):PC0 314 [.c (.view (vw ao xs)),ai gap] (.i (crt xs gap)):=by
 have cT:=rk xs hl
 have hnil:xs=[]↔(xs.length:Int)=0:=by
  cases xs with
  |nil=>simp
  |cons x xs=>simp;omega
 obtain⟨R,hR⟩:=nmE (crt xs gap)
 rw [←hR]
 unfold crt at hR
 simp only [hnil]at hR
 obtain⟨T,hT⟩:=nmE (yu 0 xs);(try rw [←hT]at cT);(try rw [←hT]at hR)
 obtain⟨V,hV⟩:=nmE (vw ao xs)
 have hVl:V.length=xs.length:=by rw [hV,af]
 have iV:bR V=true:=by rw [hV];exact aG _ _
 have kV:∀y∈V,y.length=1:=by rw [hV];exact bC (c:=ao) (k:=1) fun _=>rfl
 have dV:∀y∈V,y.all dat=true:=by rw [hV];exact az
 have hVx:bg V=(xs.length:Int):=by rw [hV,aN]
 rw [←hV]at cT⊢
 have hln:0≤(xs.length:Int)∧(xs.length:Int)≤1048576:=by omega
 clear hnil
 obtain⟨n,hn⟩:=nmE ((xs.length:Int));(try rw [←hn]at hVx);(try rw [←hn]at hln);(try rw [←hn]at hR)
 refine ae (aK f314) aD func314 fun g F hg hF=> ?_
 have t4:g .ln V=n:=by rw [bD hg,hVx]
 have t1:g .q .eql (n) (0)=decide ((n)=(0)):=by rw [bv hg];exact zqn _ _
 have e1:g .w .sub .i64 n 1=n-1:=by rw [dd hg];exact wr1 (by omega) (by omega)
 have e2:g .w .mul .i64 gap (n-1)=wrap64 (gap*(n-1)):=fO hg _ _
 have e3:g .w .add .i64 T (wrap64 (gap*(n-1)))=wrap64 (T+wrap64 (gap*(n-1))):=aM hg _ _
 by_cases h:n=0
 ·rw [if_pos h]at hR
  (first|rw [zqu h]at t1|rw [zqt h]at t1|rw [zqu (Classical.not_not.2 h)]at t1|rw [zqt (Classical.not_not.2 h)]at t1)
  cbv
  (repeat'((first|rw [t4]|rw [t1]);cbv))
  exact ba hF hR.symm
 ·rw [if_neg h]at hR
  (first|rw [zqu h]at t1|rw [zqt h]at t1|rw [zqu (Classical.not_not.2 h)]at t1|rw [zqt (Classical.not_not.2 h)]at t1)
  rw [←hR]at e3
  generalize wrap64 (gap*(n-1))=m2 at *
  generalize n-1=m1 at *
  cbv
  (repeat'((first|rw [t4]|rw [t1]|rw [e1]|rw [e2]|rw [e3]|refine ad hg cT ?_|refine aa hg cT ?_);cbv))
  exact ba hF rfl
theorem lj(xs:List Int)(gap inner:Int)(hl:xs.length≤1048576):PC0 327 [.c (.view (vw ao xs)),ai gap,ai inner] (.t (abl (acr xs gap inner))):=by
 have cg:=da gap 0 1048576
 have ci:=da inner 0 1048576
 change PC0 _ _ (.t (abl (rng gap 0 1048576)))at cg
 change PC0 _ _ (.t (abl (rng inner 0 1048576)))at ci
 obtain⟨R,hR⟩:=nmE (acr xs gap inner)
 rw [←hR]
 unfold acr at hR
 obtain⟨G,hG⟩:=nmE (rng gap 0 1048576);(try rw [←hG]at cg);(try rw [←hG]at hR)
 obtain⟨J,hJ⟩:=nmE (rng inner 0 1048576);(try rw [←hJ]at ci);(try rw [←hJ]at hR)
 obtain⟨q,hq⟩:=nmE (decide ((xs.length:Int)≤12));(try rw [←hq]at hR)
 obtain⟨T,hT⟩:=nmE ((q&&(G&&J)))
 rw [←hT]at hR
 obtain⟨V,hV⟩:=nmE (vw ao xs)
 have hVl:V.length=xs.length:=by rw [hV,af]
 have iV:bR V=true:=by rw [hV];exact aG _ _
 have kV:∀y∈V,y.length=1:=by rw [hV];exact bC (c:=ao) (k:=1) fun _=>rfl
 have dV:∀y∈V,y.all dat=true:=by rw [hV];exact az
 have hVx:bg V=(xs.length:Int):=by rw [hV,aN]
 rw [←hV]
 refine ae (aK f327) aD func327 fun g F hg hF=> ?_
 have t1:g .q .leq (g .ln V) 12=q:=by rw [ip hg,bD hg,hVx,hq]
 cbv
 refine aY hg aD (by kernel_rfl) V (fun x=>lc (ao x)) xs hV hl (fun z(s:Unit)=>[(0,.v V),(1,.i (gap)),(2,.i (inner)),(9,.v V),(10,.i (g .ln V)),(11,.i (z))]) (fun z(s:Unit)=>[]) (fun z(s:Unit)=>True) (fun(s:Unit) rest=>rest.all (fun c=>rng c 0 1048576)&&T) (R) () hR.symm trivial (Wk.weak (wkG [] ⟨rfl,rfl,rfl,rfl,rfl,rfl,trivial⟩ trivial (by decide) aI)) (fun z s B hz h0 hi he=> ?_) (fun z s x rest B z0 z1 z2 hx hy h0 hi hc e1 hB=> ?_)
 rotate_left
 ·cbv;rw [hc];cbv;refine goX hg _ z0 hy rfl ?_;cbv
  (first|refine br hg (da x 0 1048576) rfl (fun R0 hR0=> ?_)|refine aZ hg (da x 0 1048576) rfl (fun R0 hR0=> ?_));cbv
  cases R0<;>cbv
  ·exact bj hF (by rw [←h0,zqD,show rng x 0 1048576=false from hR0.symm];rfl)
  ·rw [e1]
   exact hB (()) _ _ ⟨by rw [←h0,zqD,show rng x 0 1048576=true from hR0.symm];rfl,trivial⟩ (Wk.weak (wkG [] ⟨rfl,rfl,rfl,rfl,rfl,rfl,trivial⟩ trivial (by decide) aI))
 cbv;rw [he];cbv
 have h0:T=R:=h0
 clear hG hJ hq hR
 cases q<;>cases G<;>cases J
 all_goals((repeat'((first|rw [t1]|refine ad hg cg ?_|refine aa hg cg ?_|refine ad hg ci ?_|refine aa hg ci ?_);cbv));exact bj hF (by rw [←h0,hT];rfl))
theorem kC(xs:List Int)(gap inner:Int)(hl:xs.length≤1048576):PC0 351 [.c (.view (vw ao xs)),ai gap,ai inner] (.t (abl (acr xs gap inner))):=by
 have cg:=bI gap 0 1048576
 have ci:=bI inner 0 1048576
 change PC0 _ _ (.t (abl (rng gap 0 1048576)))at cg
 change PC0 _ _ (.t (abl (rng inner 0 1048576)))at ci
 obtain⟨R,hR⟩:=nmE (acr xs gap inner)
 rw [←hR]
 unfold acr at hR
 obtain⟨G,hG⟩:=nmE (rng gap 0 1048576);(try rw [←hG]at cg);(try rw [←hG]at hR)
 obtain⟨J,hJ⟩:=nmE (rng inner 0 1048576);(try rw [←hJ]at ci);(try rw [←hJ]at hR)
 obtain⟨q,hq⟩:=nmE (decide ((xs.length:Int)≤12));(try rw [←hq]at hR)
 obtain⟨T,hT⟩:=nmE ((q&&(G&&J)))
 rw [←hT]at hR
 obtain⟨V,hV⟩:=nmE (vw ao xs)
 have hVl:V.length=xs.length:=by rw [hV,af]
 have iV:bR V=true:=by rw [hV];exact aG _ _
 have kV:∀y∈V,y.length=1:=by rw [hV];exact bC (c:=ao) (k:=1) fun _=>rfl
 have dV:∀y∈V,y.all dat=true:=by rw [hV];exact az
 have hVx:bg V=(xs.length:Int):=by rw [hV,aN]
 rw [←hV]
 refine ae (aK f351) aD func351 fun g F hg hF=> ?_
 have t1:g .q .leq (g .ln V) 12=q:=by rw [ip hg,bD hg,hVx,hq]
 cbv
 refine aY hg aD (by kernel_rfl) V (fun x=>lc (ao x)) xs hV hl (fun z(s:Unit)=>[(0,.v V),(1,.i (gap)),(2,.i (inner)),(7,.i (z))]) (fun z(s:Unit)=>[]) (fun z(s:Unit)=>True) (fun(s:Unit) rest=>rest.all (fun c=>rng c 0 1048576)&&T) (R) () hR.symm trivial (Wk.weak (wkG [] ⟨rfl,rfl,rfl,rfl,trivial⟩ trivial (by decide) aI)) (fun z s B hz h0 hi he=> ?_) (fun z s x rest B z0 z1 z2 hx hy h0 hi hc e1 hB=> ?_)
 rotate_left
 ·cbv;rw [hc];cbv;refine goX hg _ z0 hy rfl ?_;cbv
  (first|refine br hg (bI x 0 1048576) rfl (fun R0 hR0=> ?_)|refine aZ hg (bI x 0 1048576) rfl (fun R0 hR0=> ?_));cbv
  cases R0<;>cbv
  ·exact bj hF (by rw [←h0,zqD,show rng x 0 1048576=false from hR0.symm];rfl)
  ·rw [e1]
   exact hB (()) _ _ ⟨by rw [←h0,zqD,show rng x 0 1048576=true from hR0.symm];rfl,trivial⟩ (Wk.weak (wkG [] ⟨rfl,rfl,rfl,rfl,trivial⟩ trivial (by decide) aI))
 cbv;rw [he];cbv
 have h0:T=R:=h0
 clear hG hJ hq hR
 cases q<;>cases G<;>cases J
 all_goals((repeat'((first|rw [t1]|refine ad hg cg ?_|refine aa hg cg ?_|refine ad hg ci ?_|refine aa hg ci ?_);cbv));exact bj hF (by rw [←h0,hT];rfl))
end Go.Proofs.YtdnnffbbhijmkaaGreat
