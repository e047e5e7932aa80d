/- The cross size of a line: the reference; what a table wants. -/
import Derived.Test.YtckchgoblpgpbaaGreatJ6bc
set_option linter.unusedVariables false
set_option linter.unusedSimpArgs false
set_option maxHeartbeats 4000000
namespace Go.Proofs.YtckchgoblpgpbaaGreat
open Go.ChangeShapes Go.WideShapes Go.ChangeAt Go.RowKit Am Go.Proofs.Tryz
set_option maxRecDepth 100000
variable {α:Type}
theorem AR{f:FuncId}{args:List AT}{t k:Nat}{c:α->Array Value}{xs:List α}(hc:cj prog f args fun res ha=>res= .o 0/\ha=[⟨t,k,vw c xs⟩])(hk:∀x,(c x).size=k):PC0 f args (.t (.c (.view (vw c xs)))):=
 fB hc (sN hk) ij
theorem bH(l:List Int)(hl:l.length<=1048576)(i:Int):PC0 188 [.c (.view (vw ak l)),ai i] (.i (elZ l i)):=by
 obtain⟨V,hV⟩:=nmE (vw ak l)
 have hb:=lmV hV
 have iV:=imV hV
 have kV:=kmV (k:=1) hV fun _=>rfl
 have dV:=dmV hV
 have ha:aC V=(l.length:Int):=by rw [hV,bg]
 have hy:¬i<0->¬(l.length:Int)<=i->V[i.toNat]? =some [.J (elZ l i)]:=fun h0 h1=>by rw [hV];exact bv (tS (by omega) (by omega))
 have ho:i<0\/(l.length:Int)<=i->elZ l i=0:=Bb
 obtain⟨e,he⟩:=nmE (elZ l i)
 rw [<-hV,<-he]
 rw [<-he]at hy ho
 refine ae (aM f188) aB func188 fun g F hg hF=> ?_
 have t1:g .q .lss i 0=decide (i<0):=bF hg _ _
 have t2:g .q .geq i (g .ln V)=decide ((l.length:Int)<=i):=by rw [iP hg,bO hg,ha]
 by_cases h0:i<0
 ·rw [zqu h0]at t1
  cbv
  rw [t1]
  cbv
  exact bj hF (ho (.inl h0)).symm
 ·rw [zqt h0]at t1
  by_cases h1:(l.length:Int)<=i
  ·rw [zqu h1]at t2
   cbv
   rw [t1]
   cbv
   rw [t2]
   cbv
   exact bj hF (ho (.inr h1)).symm
  ·rw [zqt h1]at t2
   cbv
   rw [t1]
   cbv
   rw [t2]
   cbv
   refine goX hg _ (by omega) (hy h0 h1) rfl ?_
   cbv
   exact bj hF rfl
theorem qi(n many:Int):cj prog 289 [ai n,ai many] fun res ha=>res= .o 0/\ha=[⟨3,1,vw ak (evn n many)⟩]:=by
 have hm:evm many<=64:=tR many
 have c1:=ko n (List.replicate (evm many) 1) (by rw [List.length_replicate];omega)
 have c0:=bI many 0 64
 have hf:(decide (0<=many)&&decide (many<=64))=false->evn n many=[]\/evm many=0:=fun h=>by
  right
  simp only [Bool.and_eq_false_iff,zqo]at h
  unfold evm;split<;>omega
 have he:evm many=0->evn n many=[]:=fun h=>zqv (by rw [jO,h])
 obtain⟨S,hS⟩:=nmE (vw ak (evn n many))
 have hc:evn n many=[]->S=[]:=fun h=>by rw [hS,h];rfl
 have iS:=imV hS
 have pS:=pmV hS
 rw [show shr n (List.replicate (evm many) 1)=evn n many from rfl,<-hS]at c1
 rw [<-hS]
 cases hq:(decide (0<=many)&&decide (many<=64))
 ·have e:S=[]:=hc ((hf hq).elim id he)
  rw [hq]at c0
  subst e
  refine ae (aM f289) aB func289 fun g F hg hF=> ?_
  cbv
  repeat'(refine ad hg c0 ?_;cbv)
  exact rA _ _ hF ⟨rfl,rfl⟩
 rw [hq]at c0
 simp only [zqs,zqp]at hq
 have hj:(evm many:Int)=many:=oW hq.1 hq.2
 refine ae (aM f289) aB func289 fun g F hg hF=> ?_
 cbv
 repeat'(refine ad hg c0 ?_;cbv)
 refine iv hg aB (by kernel_rfl) (fun s:Int×LLA=>[(0,.i (n)),(5,.o 0),(9,.i (many)),(10,.i (s.1))]) (fun s=>[.rw ⟨3,1,s.2⟩]) (fun s=>0<=s.1/\s.1<=many/\s.2=vw ak (List.replicate s.1.toNat 1)) (fun s=>64-s.1.toNat)
  (0,[]) ⟨by simp,hq.1,rfl⟩ (Wk.weak (wkG [none] zr4 ⟨⟨_,rfl,rfl⟩,trivial⟩ (by decide) aw)) (fun s B hs hB=> ?_)
 obtain⟨z,E⟩:=s
 obtain⟨h0,h1,hE⟩:=hs
 dsimp only at h0 h1 hE
 have hh:z.toNat<=64:=by omega
 have hb:E.length<=1048576:=by rw [hE,ao,List.length_replicate];omega
 have pE:=pmV hE
 have kE:=kmV (k:=1) hE fun _=>rfl
 have dE:=dmV hE
 have tz:g .q .lss z many=decide (z<many):=bF hg _ _
 have ez:g .w .add .i64 z 1=z+1:=by rw [aJ hg];exact wr1 (by omega) (by omega)
 have aE:E++[[.J 1]]=vw ak (List.replicate (z+1).toNat 1):=by
  rw [show(z+1).toNat=z.toNat+1 by omega,List.replicate_succ',dy,hE];rfl
 have done:¬z<many->E=vw ak (List.replicate (evm many) 1):=fun h=>by
  have hd:(evm many:Int)=many:=oW hq.1 hq.2
  have:z.toNat=evm many:=by omega
  rw [hE,this]
 by_cases hz:z<many
 ·have fin:0<=z+1/\z+1<=many/\64-(z+1).toNat<64-z.toNat:=by omega
  cbv
  rw [tz,zqu hz]
  cbv
  refine fR hg rfl (by decide) hb ?_
  cbv
  rw [ig hg,ez]
  generalize E++_=E2 at aE⊢
  have aE:E2=_:=aE
  have hi:=pmV aE
  subst hB
  exact⟨(z+1,E2),⟨fin.1,fin.2.1,aE⟩,fin.2.2,Wk.weak (wkG [some 2] zr4 ⟨wqE rfl hi,trivial⟩ (by decide) aw)⟩
 ·rw [<-done hz]at c1
  cbv
  rw [tz,zqt hz]
  cbv
  first|(refine bQ hg c1 (ay (be rfl) (ay (bC (ab:=⟨_,_,E⟩) rfl kE dE) (aP))) iS ?_;cbv)|(refine dS hg c1 (ay (be rfl) (ay (bC (ab:=⟨_,_,E⟩) rfl kE dE) (aP))) iS ?_;cbv)
  exact db hF rfl pS
theorem dm(n many:Int):PC0 289 [ai n,ai many] (.t (.c (.view (vw ak (evn n many))))):=AR (qi n many) fun _=>rfl
theorem kw(free many js:Int):PC0 249 [ai free,ai many,ai js] (.i (led free many js)):=by
 have c0:=bI many 1 12
 have cd:=ba free 2
 have c5:=dm free (2*many)
 have c6:=dm free (many+1)
 change PC0 _ _ (.t (abl (rng many 1 12)))at c0
 have ha:rng many 1 12=true->(vw ak (evn free (2*many)))[(0:Int).toNat]? =some [.J (elZ (evn free (2*many)) 0)]:=fun h=>by
  simp only [rng,zqs,zqp]at h
  exact bv (tS (by omega) (by rw [jO,oW (by omega) (by omega)];omega))
 have hb:rng many 1 12=true->(vw ak (evn free (many+1)))[(0:Int).toNat]? =some [.J (elZ (evn free (many+1)) 0)]:=fun h=>by
  simp only [rng,zqs,zqp]at h
  exact bv (tS (by omega) (by rw [jO,oW (by omega) (by omega)];omega))
 have hi:rng many 1 12=true->wrap64 (2*many)=2*many/\wrap64 (many+1)=many+1:=fun h=>by
  simp only [rng,zqs,zqp]at h
  exact⟨az _ (by omega),az _ (by omega)⟩
 obtain⟨R,hR⟩:=nmE (led free many js)
 unfold led at hR
 obtain⟨v5,hf⟩:=nmE (elZ (evn free (2*many)) 0)
 obtain⟨v6,hh⟩:=nmE (elZ (evn free (many+1)) 0)
 obtain⟨d,hd⟩:=nmE (fdv free 2)
 obtain⟨Y5,hc⟩:=nmE (vw ak (evn free (2*many)))
 obtain⟨Y6,he⟩:=nmE (vw ak (evn free (many+1)))
 obtain⟨I,hI⟩:=nmE (rng many 1 12)
 rw [show PC0 _ _ _=PC0 _ _ (.i R) by rw [hR];unfold led;rfl]
 rw [<-hf,<-hh,<-hd,<-hI]at hR
 rw [<-hf,<-hc,<-hI]at ha
 rw [<-hh,<-he,<-hI]at hb
 rw [<-hI]at hi c0
 rw [<-hc]at c5
 rw [<-he]at c6
 rw [<-hd]at cd
 clear hf hh hd hc he hI
 refine ae (aM f249) aB func249 fun g F hg hF=> ?_
 have e5:I=true->g .w .mul .i64 2 many=2*many:=fun h=>by rw [ic hg,(hi h).1]
 have e6:I=true->g .w .add .i64 many 1=many+1:=fun h=>by rw [aJ hg,(hi h).2]
 have q2:g .q .eql (js) (2)=decide ((js)=(2)):=by rw [bA hg];exact zqn _ _
 have q3:g .q .eql (js) (3)=decide ((js)=(3)):=by rw [bA hg];exact zqn _ _
 have q5:g .q .eql (js) (5)=decide ((js)=(5)):=by rw [bA hg];exact zqn _ _
 have q6:g .q .eql (js) (6)=decide ((js)=(6)):=by rw [bA hg];exact zqn _ _
 have q0:g .q .lss (free) (0)=decide ((free)<(0)):=bF hg _ _
 generalize 2*many=m2 at *
 generalize many+1=m1 at *
 cases I
 ·cbv
  repeat'(refine ad hg c0 ?_;cbv)
  exact bj hF (by rw [hR];rfl)
 replace e5:=e5 rfl
 replace e6:=e6 rfl
 replace ha:=ha rfl
 replace hb:=hb rfl
 by_cases j2:js=2<;>by_cases j3:js=3<;>by_cases j5:js=5<;>by_cases j6:js=6<;>by_cases f0:free<0
 all_goals first
  |(exfalso;omega)
  |((first|rw [zqu j2]at q2|rw [zqt j2]at q2|rw [zqu (Classical.not_not.2 j2)]at q2|rw [zqt (Classical.not_not.2 j2)]at q2);(first|rw [zqu j3]at q3|rw [zqt j3]at q3|rw [zqu (Classical.not_not.2 j3)]at q3|rw [zqt (Classical.not_not.2 j3)]at q3);(first|rw [zqu j5]at q5|rw [zqt j5]at q5|rw [zqu (Classical.not_not.2 j5)]at q5|rw [zqt (Classical.not_not.2 j5)]at q5);(first|rw [zqu j6]at q6|rw [zqt j6]at q6|rw [zqu (Classical.not_not.2 j6)]at q6|rw [zqt (Classical.not_not.2 j6)]at q6);(first|rw [zqu f0]at q0|rw [zqt f0]at q0|rw [zqu (Classical.not_not.2 f0)]at q0|rw [zqt (Classical.not_not.2 f0)]at q0);cbv;(repeat'((first|rw [q2]|rw [q3]|rw [q5]|rw [q6]|rw [q0]|rw [e5]|rw [e6]|refine ad hg c0 ?_|refine ad hg cd ?_|refine ad hg c5 ?_|refine ad hg c6 ?_|refine goX hg _ (by omega) ha rfl ?_|refine goX hg _ (by omega) hb rfl ?_);cbv));exact bj hF (by rw [hR];simp [j2,j3,j5,j6,f0]))
theorem gX(free many js i:Int)(hm0:0<=many)(hm1:many<=12)(hi0:0<=i)(hi1:i<=12):PC0 250 [ai free,ai many,ai js,ai i] (.i (btw free many js i)):=by
 have hl:∀m:Int,(evn free m).length<=1048576:=fun m=>by rw [jO];have:=tR m;omega
 have c4:=dm free (many-1)
 have x4:=bH (evn free (many-1)) (hl _) i
 have c5:=dm free (2*many)
 have x5:=bH (evn free (2*many)) (hl _) (2*i+1)
 have y5:=bH (evn free (2*many)) (hl _) (2*i+2)
 have c6:=dm free (many+1)
 have x6:=bH (evn free (many+1)) (hl _) (i+1)
 have w1:=wr1 (a:=many-1) (by omega) (by omega)
 have w2:=wr1 (a:=2*many) (by omega) (by omega)
 have w3:=wr1 (a:=many+1) (by omega) (by omega)
 have w4:=wr1 (a:=i+1) (by omega) (by omega)
 have w5:=wr1 (a:=2*i) (by omega) (by omega)
 have w6:=wr1 (a:=2*i+1) (by omega) (by omega)
 have w7:=wr1 (a:=2*i+2) (by omega) (by omega)
 clear hl
 obtain⟨R,hR⟩:=nmE (btw free many js i)
 rw [<-hR]
 unfold btw at hR
 obtain⟨v4,he⟩:=nmE (elZ (evn free (many-1)) i);(try rw [<-he]at hR);(try rw [<-he]at x4)
 obtain⟨v5,hf⟩:=nmE (elZ (evn free (2*many)) (2*i+1));(try rw [<-hf]at hR);(try rw [<-hf]at x5)
 obtain⟨u5,hd⟩:=nmE (elZ (evn free (2*many)) (2*i+2));(try rw [<-hd]at hR);(try rw [<-hd]at y5)
 obtain⟨v6,hh⟩:=nmE (elZ (evn free (many+1)) (i+1));(try rw [<-hh]at hR);(try rw [<-hh]at x6)
 obtain⟨Y4,hb⟩:=nmE (vw ak (evn free (many-1)));(try rw [<-hb]at c4);(try rw [<-hb]at x4)
 obtain⟨Y5,ha⟩:=nmE (vw ak (evn free (2*many)));(try rw [<-ha]at c5);(try rw [<-ha]at x5);(try rw [<-ha]at y5)
 obtain⟨Y6,hc⟩:=nmE (vw ak (evn free (many+1)));(try rw [<-hc]at c6);(try rw [<-hc]at x6)
 clear he hf hd hh hb ha hc
 refine ae (aM f250) aB func250 fun g F hg hF=> ?_
 have e1:g .w .sub .i64 many 1=many-1:=by rw [dP hg,w1]
 have e2:g .w .mul .i64 2 many=2*many:=by rw [ic hg,w2]
 have e3:g .w .add .i64 many 1=many+1:=by rw [aJ hg,w3]
 have e4:g .w .add .i64 i 1=i+1:=by rw [aJ hg,w4]
 have e5:g .w .mul .i64 2 i=2*i:=by rw [ic hg,w5]
 have e6:g .w .add .i64 (2*i) 1=2*i+1:=by rw [aJ hg,w6]
 have e7:g .w .add .i64 (2*i) 2=2*i+2:=by rw [aJ hg,w7]
 have e8:g .w .add .i64 v5 u5=wrap64 (v5+u5):=aJ hg _ _
 obtain⟨Z,hZ⟩:=nmE (wrap64 (v5+u5));(try rw [<-hZ]at hR);(try rw [<-hZ]at e8)
 have q4:g .q .eql (js) (4)=decide ((js)=(4)):=by rw [bA hg];exact zqn _ _
 have q5:g .q .eql (js) (5)=decide ((js)=(5)):=by rw [bA hg];exact zqn _ _
 have q6:g .q .eql (js) (6)=decide ((js)=(6)):=by rw [bA hg];exact zqn _ _
 have q0:g .q .lss (free) (0)=decide ((free)<(0)):=bF hg _ _
 clear hm0 hm1 hi0 hi1 w1 w2 w3 w4 w5 w6 w7 hZ
 generalize 2*i+1=k1 at *
 generalize 2*i+2=k2 at *
 generalize 2*i=k3 at *
 generalize i+1=k4 at *
 generalize 2*many=m2 at *
 generalize many+1=m1 at *
 generalize many-1=m3 at *
 by_cases f0:free<0
 ·(first|rw [zqu f0]at q0|rw [zqt f0]at q0|rw [zqu (Classical.not_not.2 f0)]at q0|rw [zqt (Classical.not_not.2 f0)]at q0)
  cbv
  (repeat'(rw [q0];cbv))
  exact bj hF (by rw [hR,if_pos f0])
 (first|rw [zqu f0]at q0|rw [zqt f0]at q0|rw [zqu (Classical.not_not.2 f0)]at q0|rw [zqt (Classical.not_not.2 f0)]at q0)
 by_cases j4:js=4<;>by_cases j5:js=5<;>by_cases j6:js=6
 all_goals first
  |(exfalso;omega)
  |((first|rw [zqu j4]at q4|rw [zqt j4]at q4|rw [zqu (Classical.not_not.2 j4)]at q4|rw [zqt (Classical.not_not.2 j4)]at q4);(first|rw [zqu j5]at q5|rw [zqt j5]at q5|rw [zqu (Classical.not_not.2 j5)]at q5|rw [zqt (Classical.not_not.2 j5)]at q5);(first|rw [zqu j6]at q6|rw [zqt j6]at q6|rw [zqu (Classical.not_not.2 j6)]at q6|rw [zqt (Classical.not_not.2 j6)]at q6);cbv;(repeat'((first|rw [q4]|rw [q5]|rw [q6]|rw [q0]|rw [e1]|rw [e2]|rw [e3]|rw [e4]|rw [e5]|rw [e6]|rw [e7]|rw [e8]|refine ad hg c4 ?_|refine ad hg c5 ?_|refine ad hg c6 ?_|refine ad hg x4 ?_|refine ad hg x5 ?_|refine ad hg y5 ?_|refine ad hg x6 ?_);cbv));exact bj hF (by rw [hR];simp [j4,j5,j6,f0]))
section
variable {P:Program}{n0 N:Nat}{g:Gd}
end
theorem zQ(c:α->Array Value)(n:Nat)(x:α):List.replicate n (lc (c x))=vw c (List.replicate n x):=by simp [vw]
theorem rO(c:α->Array Value)(xs:List α)(i:Nat)(x:α):(vw c xs).set i (lc (c x))=vw c (xs.set i x):=by simp [vw,List.map_set]
theorem n9(xs:List Int)(hl:xs.length<=1048576):PC0 246 [.c (.view (vw ak xs))] (.i (Bx 0 xs)):=by
 obtain⟨V,hV⟩:=nmE (vw ak xs)
 have hb:=lmV hV
 have iV:=imV hV
 have kV:=kmV (k:=1) hV fun _=>rfl
 have dV:=dmV hV
 obtain⟨R,hR⟩:=nmE (Bx 0 xs)
 rw [<-hV,<-hR]
 refine ae (aM f246) aB func246 fun g F hg hF=> ?_
 cbv
 refine aU hg aB (by kernel_rfl) V (fun x=>lc (ak x)) xs hV hl (fun z(s:Int)=>[(3,.i (s)),(6,.v V),(7,.i (g .ln V)),(8,.i (z))]) (fun z(s:Int)=>[]) (fun z(s:Int)=>True) (fun(s:Int) rest=>Bx s rest) (R) (0:Int) hR.symm trivial (Wk.weak (wkG [] zr4 trivial (by decide) aw)) (fun z s B hz h0 hi he=> ?_) (fun z s x rest B z0 z1 z2 hx hy h0 hi hc e1 hB=> ?_)
 ·cbv;rw [he];cbv
  exact bj hF h0
 ·cbv;rw [hc];cbv;refine goX hg _ z0 hy rfl ?_;cbv
  (first|refine bk hg (bu _) rfl (fun Q0 ha=> ?_)|refine aD hg (bu _) rfl (fun Q0 ha=> ?_));cbv
  rw [e1,aJ hg,ha]
  exact hB (_) _ _ ⟨h0,trivial⟩ (Wk.weak (wkG [] zr4 trivial (by decide) aw))
theorem eG(xs:List Int)(gap:Int)(hl:xs.length<=1048576):PC0 179 [.c (.view (vw ak xs)),ai gap] (.i (crt xs gap)):=by
 have cT:=n9 xs hl
 have ha:xs=[]↔(xs.length:Int)=0:=by
  cases xs with
  |nil=>simp
  |cons x xs=>simp;omega
 obtain⟨R,hR⟩:=nmE (crt xs gap)
 rw [<-hR]
 unfold crt at hR
 simp only [ha]at hR
 obtain⟨T,hT⟩:=nmE (Bx 0 xs);(try rw [<-hT]at cT);(try rw [<-hT]at hR)
 obtain⟨V,hV⟩:=nmE (vw ak xs)
 have hd:=lmV hV
 have iV:=imV hV
 have kV:=kmV (k:=1) hV fun _=>rfl
 have dV:=dmV hV
 have hb:aC V=(xs.length:Int):=by rw [hV,bg]
 rw [<-hV]at cT⊢
 have hc:0<=(xs.length:Int)/\(xs.length:Int)<=1048576:=by omega
 clear ha
 obtain⟨n,hn⟩:=nmE ((xs.length:Int));(try rw [<-hn]at hb);(try rw [<-hn]at hc);(try rw [<-hn]at hR)
 refine ae (aM f179) aB func179 fun g F hg hF=> ?_
 have t4:g .ln V=n:=by rw [bO hg,hb]
 have t1:g .q .eql (n) (0)=decide ((n)=(0)):=by rw [bA hg];exact zqn _ _
 have e1:g .w .sub .i64 n 1=n-1:=by rw [dP hg];exact wr1 (by omega) (by omega)
 have e2:g .w .mul .i64 gap (n-1)=wrap64 (gap*(n-1)):=ic hg _ _
 have e3:g .w .add .i64 T (wrap64 (gap*(n-1)))=wrap64 (T+wrap64 (gap*(n-1))):=aJ hg _ _
 by_cases h:n=0
 ·rw [if_pos h]at hR
  (first|rw [zqu h]at t1|rw [zqt h]at t1|rw [zqu (Classical.not_not.2 h)]at t1|rw [zqt (Classical.not_not.2 h)]at t1)
  cbv
  (repeat'((first|rw [t4]|rw [t1]);cbv))
  exact bj hF hR.symm
 ·rw [if_neg h]at hR
  (first|rw [zqu h]at t1|rw [zqt h]at t1|rw [zqu (Classical.not_not.2 h)]at t1|rw [zqt (Classical.not_not.2 h)]at t1)
  rw [<-hR]at e3
  generalize wrap64 (gap*(n-1))=m2 at *
  generalize n-1=m1 at *
  cbv
  (repeat'((first|rw [t4]|rw [t1]|rw [e1]|rw [e2]|rw [e3]|refine ad hg cT ?_);cbv))
  exact bj hF rfl
theorem iJ(xs:List Int)(gap inner:Int)(hl:xs.length<=1048576):PC0 247 [.c (.view (vw ak xs)),ai gap,ai inner] (.t (abl (acr xs gap inner))):=by
 have cg:=bI gap 0 1048576
 have ci:=bI inner 0 1048576
 change PC0 _ _ (.t (abl (rng gap 0 1048576)))at cg
 change PC0 _ _ (.t (abl (rng inner 0 1048576)))at ci
 obtain⟨R,hR⟩:=nmE (acr xs gap inner)
 rw [<-hR]
 unfold acr at hR
 obtain⟨G,hG⟩:=nmE (rng gap 0 1048576);(try rw [<-hG]at cg);(try rw [<-hG]at hR)
 obtain⟨J,hJ⟩:=nmE (rng inner 0 1048576);(try rw [<-hJ]at ci);(try rw [<-hJ]at hR)
 obtain⟨q,hq⟩:=nmE (decide ((xs.length:Int)<=12));(try rw [<-hq]at hR)
 obtain⟨T,hT⟩:=nmE ((q&&(G&&J)))
 rw [<-hT]at hR
 obtain⟨V,hV⟩:=nmE (vw ak xs)
 have hd:=lmV hV
 have iV:=imV hV
 have kV:=kmV (k:=1) hV fun _=>rfl
 have dV:=dmV hV
 have hb:aC V=(xs.length:Int):=by rw [hV,bg]
 rw [<-hV]
 refine ae (aM f247) aB func247 fun g F hg hF=> ?_
 have t1:g .q .leq (g .ln V) 12=q:=by rw [iO hg,bO hg,hb,hq]
 cbv
 refine aU hg aB (by kernel_rfl) V (fun x=>lc (ak x)) xs hV hl (fun z(s:Unit)=>[(0,.v V),(1,.i (gap)),(2,.i (inner)),(9,.v V),(10,.i (g .ln V)),(11,.i (z))]) (fun z(s:Unit)=>[]) (fun z(s:Unit)=>True) (fun(s:Unit) rest=>rest.all (fun c=>rng c 0 1048576)&&T) (R) () hR.symm trivial (Wk.weak (wkG [] zr6 trivial (by decide) aw)) (fun z s B hz h0 hi he=> ?_) (fun z s x rest B z0 z1 z2 hx hy h0 hi hc e1 hB=> ?_)
 rotate_left
 ·cbv;rw [hc];cbv;refine goX hg _ z0 hy rfl ?_;cbv
  (first|refine bN hg (bI x 0 1048576) rfl (fun R0 ha=> ?_)|refine bf hg (bI x 0 1048576) rfl (fun R0 ha=> ?_));cbv
  cases R0<;>cbv
  ·exact aY hF (by rw [<-h0,zqD,show rng x 0 1048576=false from ha.symm];rfl)
  ·rw [e1]
   exact hB (()) _ _ ⟨by rw [<-h0,zqD,show rng x 0 1048576=true from ha.symm];rfl,trivial⟩ (Wk.weak (wkG [] zr6 trivial (by decide) aw))
 cbv;rw [he];cbv
 have h0:T=R:=h0
 clear hG hJ hq hR
 cases q<;>cases G<;>cases J
 all_goals((repeat'((first|rw [t1]|refine ad hg cg ?_|refine ad hg ci ?_);cbv));exact aY hF (by rw [<-h0,hT];rfl))
variable {out cs:List α}
theorem vR{z:Nat}{v:α}(h:out.length=z)(hz:z<cs.length):(out++cs.drop z).set z v=(out++[v])++cs.drop (z+1):=by
 rw [List.set_append_right _ _ (by omega),h,Nat.sub_self,List.drop_eq_getElem_cons hz,List.set_cons_zero,zqC]
 rfl
theorem wO{z:Nat}(h:out.length=z):(out++cs.drop z)[z]? =cs[z]? :=by
 rw [zqg (by omega),h]
 simp
theorem jK(cs:List Int)(gap inner ct:Int)(hl:cs.length<=64):cj prog 245 [.c (.view (vw ak cs)),ai gap,ai inner,ai ct] fun res hq=>res= .o 0/\hq=[⟨3,1,vw ak (xE cs gap inner ct)⟩]:=by
 have cC:=fQ cs (by omega)
 have cT:=eG cs gap (by omega)
 have cA:=iJ cs gap inner (by omega)
 have cE:=dm (wrap64 (inner-crt cs gap)) (cs.length:Int)
 have ha:(evn (wrap64 (inner-crt cs gap)) (cs.length:Int)).length=cs.length:=by rw [jO];have:=oW (many:=(cs.length:Int)) (by omega) (by omega);omega
 obtain⟨R,hR⟩:=nmE (xE cs gap inner ct)
 rw [<-hR]
 unfold xE at hR
 obtain⟨T,hT⟩:=nmE (crt cs gap);(try rw [<-hT]at cT);(try rw [<-hT]at cE);(try rw [<-hT]at ha);(try rw [<-hT]at hR)
 obtain⟨D,hD⟩:=nmE (wrap64 (inner-T));(try rw [<-hD]at cE);(try rw [<-hD]at ha);(try rw [<-hD]at hR)
 obtain⟨A,hA⟩:=nmE (acr cs gap inner);(try rw [<-hA]at cA);(try rw [<-hA]at hR)
 obtain⟨ev,ho⟩:=nmE (evn D (cs.length:Int));(try rw [<-ho]at cE);(try rw [<-ho]at ha);(try rw [<-ho]at hR)
 obtain⟨V,hV⟩:=nmE (vw ak cs)
 have hJ:=lmV hV
 have iV:=imV hV
 have kV:=kmV (k:=1) hV fun _=>rfl
 have dV:=dmV hV
 have hs:aC V=(cs.length:Int):=by rw [hV,bg]
 have pV:=pmV hV
 rw [<-hV]at cC cT cA
 rw [<-hV]
 obtain⟨n,hn⟩:=nmE ((cs.length:Int));(try rw [<-hn]at hs);(try rw [<-hn]at cE)
 have kV:=kmV (k:=1) hV fun _=>rfl
 have hd:ev.length=cs.length->(cs.zip ev).length=cs.length:=fun h=>by rw [zqB,h];omega
 replace hd:=hd ha
 have hp:(vw ak ev)=(cs.zip ev).map (fun t=>lc (ak t.2)):=by
  have:∀(a b:List Int),b.length=a.length->vw ak b=(a.zip b).map (fun t=>lc (ak t.2)):=by
   intro a
   induction a with
   |nil=>intro b h;rw [zqv h];rfl
   |cons x a ih=>
    intro b h
    cases b with
    |nil=>simp at h
    |cons y b=>rw [List.zip_cons_cons,zqA,<-ih b (by simpa using h)];rfl
  exact this _ _ ha
 have hv:∀{i:Nat}{t:Int×Int},(cs.zip ev)[i]? =some t->cs[i]? =some t.1:=fun{i t} h=>by
  have:=List.getElem?_zip_eq_some.1 h
  exact this.1
 obtain⟨zs,hm⟩:=nmE (cs.zip ev);(try rw [<-hm]at hd);(try rw [<-hm]at hp);(try rw [<-hm]at hR)
 obtain⟨Y,hY⟩:=nmE (vw ak ev);(try rw [<-hY]at cE);(try rw [<-hY]at hp)
 rw [<-hm]at hv
 have hL:0<=n/\n<=64:=by omega
 have hG:zs.length<=1048576:=by omega
 refine ae (aM f245) aB func245 fun g F hg hF=> ?_
 have t4:g .ln V=n:=by rw [bO hg,hs]
 have e1:g .w .sub .i64 inner T=D:=by rw [dP hg,hD]
 have q1:g .q .neq (ct) (1)=decide (¬(ct)=(1)):=by rw [d5 hg];exact iR _ _
 have q2:g .q .leq (D) (0)=decide ((D)<=(0)):=iO hg _ _
 have hh:R=cs->F [.c (.own 0)] [.rw ⟨3,1,V⟩]:=fun h=>by rw [h,<-hV]at hF;exact db hF rfl pV
 cases hA2:A
 ·rw [hA2]at cA hR
  simp only [Bool.false_eq_true,false_and,if_false]at hR
  cbv
  refine bQ hg cC (bK rfl) iV ?_
  cbv
  (repeat'((first|rw [e1]|refine ad hg cT ?_|refine ad hg cA ?_);cbv))
  exact hh hR
 rw [hA2]at cA hR
 by_cases h1:ct=1
 rotate_left
 ·rw [zqu h1]at q1
  simp only [h1,false_and,and_false,if_false]at hR
  cbv
  refine bQ hg cC (bK rfl) iV ?_
  cbv
  (repeat'((first|rw [e1]|rw [q1]|refine ad hg cT ?_|refine ad hg cA ?_);cbv))
  exact hh hR
 rw [zqt (Classical.not_not.2 h1)]at q1
 by_cases h2:0<D
 rotate_left
 ·rw [zqu (show D<=0 by omega)]at q2
  simp only [h1,h2,and_false,if_false]at hR
  cbv
  refine bQ hg cC (bK rfl) iV ?_
  cbv
  (repeat'((first|rw [e1]|rw [q1]|rw [q2]|refine ad hg cT ?_|refine ad hg cA ?_);cbv))
  exact hh hR
 rw [zqt (show¬D<=0 by omega)]at q2
 simp only [h1,h2,and_self,if_true]at hR
 replace hV:V=vw ak cs:=hV
 cbv
 refine bQ hg cC (bK rfl) iV ?_
 cbv
 (repeat'((first|rw [e1]|rw [q1]|rw [q2]|rw [t4]|refine ad hg cT ?_|refine ad hg cA ?_|refine ad hg cE ?_);cbv))
 have hY:Y=zs.map (fun t=>lc (ak t.2)):=hp
 refine aU hg aB (by kernel_rfl) Y (fun t=>lc (ak t.2)) zs hY hG (fun z(s:List Int×LLA)=>[(9,.o 0),(37,.v Y),(38,.i (g .ln Y)),(39,.i (z))]) (fun z(s:List Int×LLA)=>[.rw ⟨3,1,s.2⟩]) (fun z(s:List Int×LLA)=>s.2=vw ak (s.1++cs.drop z.toNat)/\s.1.length=z.toNat) (fun(s:List Int×LLA) rest=>s.1++rest.map (fun p=>wrap64 (p.1+p.2))) (R) ([],V) (by rw [hR];rfl) ⟨by rw [hV];rfl,rfl⟩ (Wk.weak (wkG [some 0] zr4 ⟨wqE rfl pV,trivial⟩ (by decide) aw)) (fun z s B hz h0 hi he=> ?_) (fun z s x rest B z0 z1 z2 hx hy h0 hi hc e1 hB=> ?_)
 ·obtain⟨hk,E⟩:=s
  obtain⟨i1,i2⟩:=hi
  dsimp only at i1 i2 h0
  have pE:=pmV i1
  have:cs.drop z.toNat=[]:=List.drop_eq_nil_of_le (by rw [<-hd,hz,hY,ar,zql];omega)
  obtain rfl:hk=R:=by simpa using h0
  rw [this,List.append_nil]at i1
  rw [<-i1]at hF
  cbv;rw [he];cbv
  exact db hF rfl pE
 ·obtain⟨hk,E⟩:=s
  obtain⟨x0,x1⟩:=x
  obtain⟨i1,i2⟩:=hi
  dsimp only at i1 i2 h0 hy
  have ht:=hv hx
  have hH:z.toNat<cs.length:=(List.getElem?_eq_some_iff.1 ht).1
  have hw:z<aC E:=by rw [i1,bg];simp;omega
  have hf:E[z.toNat]? =some [.J x0]:=by rw [i1];exact bv (by rw [wO i2];exact ht)
  have hb:E.set z.toNat [.J (wrap64 (x0+x1))]=vw ak ((hk++[wrap64 (x0+x1)])++cs.drop (z.toNat+1)):=by rw [i1,<-vR i2 hH,<-rO];rfl
  have e2:g .w .add .i64 x0 x1=wrap64 (x0+x1):=aJ hg _ _
  have hC:(hk++[wrap64 (x0+x1)])++rest.map (fun p=>wrap64 (p.1+p.2))=R:=by rw [<-h0];simp
  have nl:(hk++[wrap64 (x0+x1)]).length=(z+1).toNat:=by simp;omega
  rw [show z.toNat+1=(z+1).toNat by omega]at hb
  generalize wrap64 (x0+x1)=Q at *
  obtain⟨E2,hr⟩:∃E2,E2=E.set z.toNat [.J Q]:=⟨_,rfl⟩
  rw [<-hr]at hb
  have hI:=pmV hb
  cbv;rw [hc];cbv;refine goX hg _ z0 hy rfl ?_;cbv
  refine goY hg z0 hw fun j hj hK=> ?_
  cbv
  refine⟨_,by rw [hj];exact hf,?_⟩
  cbv
  rw [e2]
  refine goY hg z0 hw fun j2 hu hE=> ?_
  cbv
  refine goN hg ⟨_,by rw [hu];exact hf,rfl⟩ ?_
  cbv
  rw [qI hg,hu,e1]
  dsimp only [AT.cells]
  rw [<-hr]
  exact hB ((hk++[Q],E2)) _ _ ⟨hC,⟨hb,nl⟩⟩ (Wk.weak (wkG [some 0] zr4 ⟨wqE rfl hI,trivial⟩ (by decide) aw))
theorem lj(cs:List Int)(gap inner ct:Int)(hl:cs.length<=64):cj prog 180 [.c (.view (vw ak cs)),ai gap,ai inner,ai ct] fun res hk=>res= .o 0/\hk=[⟨3,1,vw ak (pll cs gap inner ct)⟩]:=by
 have cT:=eG cs gap (by omega)
 have cA:=iJ cs gap inner (by omega)
 have cJ:=lQ ct
 have cS:=bu (wrap64 (inner-crt cs gap))
 have cL:=kw (sg (wrap64 (inner-crt cs gap))) (cs.length:Int) (yi ct)
 have cB:=fun i(h:(cs.length:Int)<=12) h0 h1=>gX (sg (wrap64 (inner-crt cs gap))) (cs.length:Int) (yi ct) i (by omega) h h0 h1
 have hb:acr cs gap inner=true->(cs.length:Int)<=12:=fun h=>by simp only [acr,zqs,zqp]at h;exact h.2.1
 obtain⟨R,hR⟩:=nmE (pll cs gap inner ct)
 rw [<-hR]
 unfold pll at hR
 obtain⟨BW,hq⟩:=nmE (btw (sg (wrap64 (inner-crt cs gap))) (cs.length:Int) (yi ct))
 rw [<-hq]at hR cB
 obtain⟨T,hT⟩:=nmE (crt cs gap);(try rw [<-hT]at cT);(try rw [<-hT]at cS);(try rw [<-hT]at cL);(try rw [<-hT]at cB);(try rw [<-hT]at hR)
 obtain⟨LD,hp⟩:=nmE (led (sg (wrap64 (inner-T))) (cs.length:Int) (yi ct));(try rw [<-hp]at cL);(try rw [<-hp]at hR)
 obtain⟨fr,hh⟩:=nmE (sg (wrap64 (inner-T)));(try rw [<-hh]at cS);(try rw [<-hh]at cL);(try rw [<-hh]at cB)
 obtain⟨D,hD⟩:=nmE (wrap64 (inner-T));(try rw [<-hD]at cS)
 obtain⟨js,hj⟩:=nmE (yi ct);(try rw [<-hj]at cJ);(try rw [<-hj]at cL);(try rw [<-hj]at cB)
 obtain⟨A,hA⟩:=nmE (acr cs gap inner);(try rw [<-hA]at cA);(try rw [<-hA]at hR);(try rw [<-hA]at hb)
 obtain⟨V,hV⟩:=nmE (vw ak cs)
 have hv:=lmV hV
 have iV:=imV hV
 have kV:=kmV (k:=1) hV fun _=>rfl
 have dV:=dmV hV
 have hf:aC V=(cs.length:Int):=by rw [hV,bg]
 rw [<-hV]at cT cA
 rw [<-hV]
 have ht:0<=(cs.length:Int):=by omega
 obtain⟨n,hn⟩:=nmE ((cs.length:Int));(try rw [<-hn]at hf);(try rw [<-hn]at cL);(try rw [<-hn]at cB);(try rw [<-hn]at hb);(try rw [<-hn]at ht)
 refine ae (aM f180) aB func180 fun g F hg hF=> ?_
 have t4:g .ln V=n:=by rw [bO hg,hf]
 have e0:g .w .sub .i64 inner T=D:=by rw [dP hg,hD]
 cases hA2:A
 ·rw [hA2]at cA hR
  cbv
  (repeat'(refine ad hg cA ?_;cbv))
  obtain rfl:R=[]:=hR
  exact rA _ _ hF ⟨rfl,rfl⟩
 rw [hA2]at cA hR
 replace hR:R=plG BW gap 0 LD cs:=hR
 replace hb:=hb hA2
 cbv
 (repeat'((first|rw [e0]|rw [t4]|refine ad hg cA ?_|refine ad hg cJ ?_|refine ad hg cT ?_|refine ad hg cS ?_|refine ad hg cL ?_);cbv))
 refine aU hg aB (by kernel_rfl) V (fun x=>lc (ak x)) cs hV (by omega) (fun z(s:Int×List Int×LLA)=>[(1,.i (gap)),(9,.i (js)),(10,.i (n)),(11,.i (fr)),(12,.i (s.1)),(13,.o 0),(35,.v V),(36,.i (g .ln V)),(37,.i (z))]) (fun z(s:Int×List Int×LLA)=>[.rw ⟨3,1,s.2.2⟩]) (fun z(s:Int×List Int×LLA)=>s.2.2=vw ak s.2.1/\(s.2.1.length:Int)=z) (fun(s:Int×List Int×LLA) rest=>s.2.1++plG BW gap (s.2.1.length:Int) s.1 rest) (R) (LD,[],[]) (by rw [hR];rfl) ⟨rfl,rfl⟩ (Wk.weak (wkG [none] ⟨rfl,rfl,rfl,rfl,rfl,rfl,rfl,by rw [t4];rfl,rfl,trivial⟩ ⟨⟨_,rfl,rfl⟩,trivial⟩ (by decide) aw)) (fun z s B hz h0 hi he=> ?_) (fun z s x rest B z0 z1 z2 hx hy h0 hi hc e1 hB=> ?_)
 ·obtain⟨a,ha,E⟩:=s
  obtain⟨i1,i2⟩:=hi
  dsimp only at i1 i2 h0
  have pE:=pmV i1
  obtain rfl:ha=R:=by simpa [plG]using h0
  rw [<-i1]at hF
  cbv;rw [he];cbv
  exact db hF rfl pE
 ·obtain⟨a,ha,E⟩:=s
  obtain⟨i1,i2⟩:=hi
  dsimp only at i1 i2 h0
  have hr:E.length<=1048576:=by rw [i1,ao];omega
  have hd:=cB z hb z0 (by rw [hf]at *;omega)
  have hm:(ha++[a])++plG BW gap ((ha++[a]).length:Int) (wrap64 (a+wrap64 (wrap64 (x+gap)+BW z))) rest=R:=by
   rw [<-h0,<-i2];simp [plG]
  have nl:((ha++[a]).length:Int)=z+1:=by simp;omega
  obtain⟨bw,hs⟩:=nmE (BW z)
  rw [<-hs]at hd hm
  have e2:g .w .add .i64 x gap=wrap64 (x+gap):=aJ hg _ _
  have e3:g .w .add .i64 (wrap64 (x+gap)) bw=wrap64 (wrap64 (x+gap)+bw):=aJ hg _ _
  have e4:g .w .add .i64 a (wrap64 (wrap64 (x+gap)+bw))=wrap64 (a+wrap64 (wrap64 (x+gap)+bw)):=aJ hg _ _
  have aE:E++[[.J a]]=vw ak (ha++[a]):=by rw [i1,dy];rfl
  obtain⟨E2,ho⟩:∃E2,E2=E++[[.J a]]:=⟨_,rfl⟩
  rw [<-ho]at aE
  have hu:=pmV aE
  generalize wrap64 (a+wrap64 (wrap64 (x+gap)+bw))=Q1 at *
  generalize wrap64 (wrap64 (x+gap)+bw)=Q2 at *
  generalize wrap64 (x+gap)=Q3 at *
  cbv;rw [hc];cbv;refine goX hg _ z0 hy rfl ?_;cbv
  (repeat'((first|rw [e1]|rw [e2]|rw [e3]|rw [e4]|refine ad hg hd ?_|refine fR hg rfl (by decide) hr ?_;cbv;rw [ig hg,<-ho]);cbv))
  exact hB ((Q1,ha++[a],E2)) _ _ ⟨hm,⟨aE,nl⟩⟩ (Wk.weak (wkG [some 2] zr9 ⟨wqE rfl hu,trivial⟩ (by decide) aw))
theorem ky(xs:List av)(hl:xs.length<=1048576):PC0 185 [.c (.view (vw av.c xs))] (.i (bas xs)):=by
 obtain⟨V,hV⟩:=nmE (vw av.c xs)
 have ha:=lmV hV
 have iV:=imV hV
 have kV:=kmV (k:=7) hV fun _=>rfl
 have dV:=dmV hV
 obtain⟨R,hR⟩:=nmE (bas xs)
 rw [<-hV,<-hR]
 refine ae (aM f185) aB func185 fun g F hg hF=> ?_
 cbv
 refine aU hg aB (by kernel_rfl) V (fun x=>lc (av.c x)) xs hV hl (fun z(s:Int×Bool)=>[(3,.i (s.1)),(4,.t (abl (s.2))),(8,.v V),(9,.i (g .ln V)),(10,.i (z))]) (fun z(s:Int×Bool)=>[]) (fun z(s:Int×Bool)=>True) (fun(s:Int×Bool) rest=>C8 s.1 s.2 rest) (R) ((0:Int),false) (by rw [hR];rfl) trivial (Wk.weak (wkG [] zr5 trivial (by decide) aw)) (fun z s B hz h0 hi he=> ?_) (fun z s x rest B z0 z1 z2 hx hy h0 hi hc e1 hB=> ?_)
 ·cbv;rw [he];cbv
  exact bj hF h0
 ·obtain⟨y0,y1,y2,y3,y4,y5,y6⟩:=x
  obtain⟨m,f⟩:=s
  have cB:=kv ⟨y0,y1,y2,y3,y4,y5,y6⟩
  simp only [C8]at h0
  obtain⟨o,ho⟩:=nmE (onB ⟨y0,y1,y2,y3,y4,y5,y6⟩);(try rw [<-ho]at cB);(try rw [<-ho]at h0)
  obtain⟨S,hS⟩:=nmE (wrap64 (y1+y6));(try rw [<-hS]at h0)
  have eS:g .w .add .i64 y1 y6=S:=by rw [aJ hg,hS]
  have t0:g .q .gtr (S) (m)=decide ((m)<(S)):=dD hg _ _
  clear hS ho
  cbv;rw [hc];cbv;refine goX hg _ z0 hy rfl ?_;cbv
  (repeat'(rw [eS];cbv))
  by_cases hh:m<S
  all_goals
   (first|rw [zqu hh]at t0|rw [zqt hh]at t0|rw [zqu (Classical.not_not.2 hh)]at t0|rw [zqt (Classical.not_not.2 hh)]at t0)
   cases o<;>cases f
  all_goals
   ((repeat'((first|rw [t0]|rw [e1]|refine ad hg cB ?_);cbv)))
   first
    |(exact hB ((m,false)) _ _ ⟨(by simpa [hh]using h0),trivial⟩ (Wk.weak (wkG [] zr5 trivial (by decide) aw)))
    |(exact hB ((m,true)) _ _ ⟨(by simpa [hh]using h0),trivial⟩ (Wk.weak (wkG [] zr5 trivial (by decide) aw)))
    |(exact hB ((S,true)) _ _ ⟨(by simpa [hh]using h0),trivial⟩ (Wk.weak (wkG [] zr5 trivial (by decide) aw)))
theorem C0{xs:List av}(h:12<(xs.length:Int)):cro xs=0:=by
 unfold cro;rw [zqt (by omega)];rfl
theorem CZ{xs:List av}(h:¬12<(xs.length:Int)):cro xs=if xs.all za=true then cl (C1 (bas xs) 0 xs)else 0:=by
 unfold cro;rw [zqu (by omega)]
 cases xs.all za<;>rfl
theorem oq(xs:List av)(hl:xs.length<=1048576):PC0 244 [.c (.view (vw av.c xs))] (.i (cro xs)):=by
 have cB:=ky xs hl
 have hb:= @C0 xs
 have ha:= @CZ xs
 obtain⟨n,hn⟩:∃n:Int,n=(xs.length:Int):=⟨_,rfl⟩
 obtain⟨R,hR⟩:=nmE (cro xs)
 rw [<-hR,<-hn]at hb ha
 rw [<-hR]
 obtain⟨B0,hd⟩:=nmE (bas xs);(try rw [<-hd]at cB);(try rw [<-hd]at ha)
 obtain⟨V,hV⟩:=nmE (vw av.c xs)
 have hh:=lmV hV
 have iV:=imV hV
 have kV:=kmV (k:=7) hV fun _=>rfl
 have dV:=dmV hV
 rw [<-hV]at cB
 rw [<-hV]
 have hf:aC V=n:=by rw [hV,bg,hn]
 refine ae (aM f244) aB func244 fun g F hg hF=> ?_
 have t4:g .ln V=n:=by rw [bO hg,hf]
 have t0:g .q .gtr (n) (12)=decide ((12)<(n)):=dD hg _ _
 cbv
 rw [t4]
 by_cases h0:12<n
 ·(first|rw [zqu h0]at t0|rw [zqt h0]at t0|rw [zqu (Classical.not_not.2 h0)]at t0|rw [zqt (Classical.not_not.2 h0)]at t0)
  (repeat'(rw [t0];cbv))
  exact bj hF (hb h0).symm
 ·have ha:=(ha h0).symm
  (first|rw [zqu h0]at t0|rw [zqt h0]at t0|rw [zqu (Classical.not_not.2 h0)]at t0|rw [zqt (Classical.not_not.2 h0)]at t0)
  (repeat'((first|rw [t0]|rw [t4]|refine ad hg cB ?_);cbv))
  clear hb
  obtain⟨nn,hj⟩:=nmE n
  rw [<-t4]
  refine aU hg aB (by kernel_rfl) V (fun x=>lc (av.c x)) xs hV hl (fun z(s:Int)=>[(3,.i (s)),(4,.i (B0)),(12,.v V),(13,.i (g .ln V)),(14,.i (z))]) (fun z(s:Int)=>[]) (fun z(s:Int)=>True) (fun(s:Int) rest=>if rest.all za=true then cl (C1 B0 s rest)else 0) (R) (0:Int) ha trivial (Wk.weak (wkG [] zr5 trivial (by decide) aw)) (fun z s B hz h0 hi he=> ?_) (fun z s x rest B z0 z1 z2 hx hy h0 hi hc e1 hB=> ?_)
  ·have cC:=aq s
   have h0:cl s=R:=h0
   obtain⟨C,hC⟩:=nmE (cl s);(try rw [<-hC]at cC);(try rw [<-hC]at h0)
   cbv;rw [he];cbv
   repeat'(refine ad hg cC ?_;cbv)
   exact bj hF h0
  ·obtain⟨y0,y1,y2,y3,y4,y5,y6⟩:=x
   have cO:=kv ⟨y0,y1,y2,y3,y4,y5,y6⟩
   have cS:=km ⟨y0,y1,y2,y3,y4,y5,y6⟩
   rw [zqD]at h0
   simp only [C1,Eh]at h0
   obtain⟨o,ho⟩:=nmE (onB ⟨y0,y1,y2,y3,y4,y5,y6⟩);(try rw [<-ho]at cO);(try rw [<-ho]at h0)
   obtain⟨k,hk⟩:=nmE (za ⟨y0,y1,y2,y3,y4,y5,y6⟩);(try rw [<-hk]at cS);(try rw [<-hk]at h0)
   obtain⟨S,hS⟩:=nmE (wrap64 (wrap64 (wrap64 (B0+y0)+y2)-y6));(try rw [<-hS]at h0)
   obtain⟨T,hT⟩:=nmE (wrap64 (wrap64 (y0+y1)+y2));(try rw [<-hT]at h0)
   have eS:g .w .sub .i64 (g .w .add .i64 (g .w .add .i64 B0 y0) y2) y6=S:=by rw [aJ hg,aJ hg,dP hg,hS]
   have eT:g .w .add .i64 (g .w .add .i64 y0 y1) y2=T:=by rw [aJ hg,aJ hg,hT]
   have mS:g .mx s S=mx2 s S:=by rw [zq hg];rfl
   have mT:g .mx s T=mx2 s T:=by rw [zq hg];rfl
   clear hS hT ho hk ha
   cbv;rw [hc];cbv;refine goX hg _ z0 hy rfl ?_;cbv
   cases k
   ·(repeat'(refine ad hg cS ?_;cbv))
    exact bj hF h0
   ·rw [Bool.true_and]at h0
    cases o
    ·(repeat'((first|rw [eT]|rw [mT]|rw [e1]|refine ad hg cS ?_|refine ad hg cO ?_);cbv))
     exact hB ((mx2 s T)) _ _ ⟨h0,trivial⟩ (Wk.weak (wkG [] zr5 trivial (by decide) aw))
    ·(repeat'((first|rw [eS]|rw [mS]|rw [e1]|refine ad hg cS ?_|refine ad hg cO ?_);cbv))
     exact hB ((mx2 s S)) _ _ ⟨h0,trivial⟩ (Wk.weak (wkG [] zr5 trivial (by decide) aw))
def r5(room:Int):List aK->aK×Bool
 | []=>(⟨0,0,0⟩,false)
 |r::rs=>if room= -1\/r.room<=room then(r,true)else r5 room rs
theorem vn(room:Int):∀rs:List aK,wnt rs room=(cl (r5 room rs).1.wide,cl (r5 room rs).1.high)
 | []=>rfl
 |r::rs=>by
  unfold wnt r5
  by_cases h:room= -1\/r.room<=room
  ·rw [if_pos h,List.find?_cons_of_pos (by simpa using h)]
  ·rw [if_neg h,List.find?_cons_of_neg (by simpa using h)]
   exact vn room rs
theorem zc(room:Int):∀rs:List aK,(r5 room rs).2=false->(r5 room rs).1=⟨0,0,0⟩
 | [],_=>rfl
 |r::rs,h=>by
  unfold r5 at h⊢
  by_cases h1:room= -1\/r.room<=room
  ·rw [if_pos h1]at h;cases h
  ·rw [if_neg h1]at h⊢;exact zc room rs h
theorem wT{F:List AT->EH->Prop}{eh:EH}{a b c:Int}{q:Bool}{R:aK×Bool}(hF:F=jS 0 (fun res h'=>∃rows,h'=rows.map .live/\(res= .tup [.agg [.J R.1.room,.J R.1.wide,.J R.1.high],.c (.B R.2)]/\rows=[])))(h:(⟨⟨a,b,c⟩,q⟩:aK×Bool)=R):F [.agg [.J a,.J b,.J c],.c (.B q)] eh:=by
 subst h;exact mh hF rfl ⟨rfl,rfl⟩
theorem oe(rs:List aK)(room:Int)(hl:rs.length<=1048576):PC0 231 [.agg [.view (vw aK.c rs)],ai room] (.tup [.agg [.imm (.int .i64 (r5 room rs).1.room),.imm (.int .i64 (r5 room rs).1.wide),.imm (.int .i64 (r5 room rs).1.high)],.c (.imm (.bool (r5 room rs).2))]):=by
 obtain⟨V,hV⟩:=nmE (vw aK.c rs)
 have ha:=lmV hV
 have iV:=imV hV
 have kV:=kmV (k:=3) hV fun _=>rfl
 have dV:=dmV hV
 obtain⟨R,hR⟩:=nmE (r5 room rs)
 rw [<-hV,<-hR]
 refine ae (aM f231) aB func231 fun g F hg hF=> ?_
 have t0:g .q .eql (room) ((-1))=decide ((room)=((-1))):=by rw [bA hg];exact zqn _ _
 cbv
 refine aU hg aB (by kernel_rfl) V (fun x=>lc (aK.c x)) rs hV hl (fun z(s:Unit)=>[(1,.i (room)),(4,.p 0),(9,.v V),(10,.i (g .ln V)),(11,.i (z))]) (fun z(s:Unit)=>[.bx 147 3 [.J 0,.J 0,.J 0]]) (fun z(s:Unit)=>True) (fun(s:Unit) rest=>r5 room rest) (R) () hR.symm trivial (Wk.weak (wkG [some 1] zr5 ⟨wqE rfl rfl,trivial⟩ (by decide) aw)) (fun z s B hz h0 hi he=> ?_) (fun z s x rest B z0 z1 z2 hx hy h0 hi hc e1 hB=> ?_)
 ·cbv;rw [he];cbv
  exact wT hF h0
 ·obtain⟨y0,y1,y2⟩:=x
  simp only [r5]at h0
  have t1:g .q .leq (y0) (room)=decide ((y0)<=(room)):=iO hg _ _
  cbv;rw [hc];cbv;refine goX hg _ z0 hy rfl ?_;cbv
  by_cases h1:room= -1
  ·(first|rw [zqu h1]at t0|rw [zqt h1]at t0|rw [zqu (Classical.not_not.2 h1)]at t0|rw [zqt (Classical.not_not.2 h1)]at t0)
   (repeat'(rw [t0];cbv))
   exact wT hF (by simpa [h1]using h0)
  ·(first|rw [zqu h1]at t0|rw [zqt h1]at t0|rw [zqu (Classical.not_not.2 h1)]at t0|rw [zqt (Classical.not_not.2 h1)]at t0)
   by_cases h2:y0<=room
   ·(first|rw [zqu h2]at t1|rw [zqt h2]at t1|rw [zqu (Classical.not_not.2 h2)]at t1|rw [zqt (Classical.not_not.2 h2)]at t1)
    (repeat'((first|rw [t0]|rw [t1]);cbv))
    exact wT hF (by simpa [h1,h2]using h0)
   ·(first|rw [zqu h2]at t1|rw [zqt h2]at t1|rw [zqu (Classical.not_not.2 h2)]at t1|rw [zqt (Classical.not_not.2 h2)]at t1)
    (repeat'((first|rw [t0]|rw [t1]|rw [e1]);cbv))
    exact hB (()) _ _ ⟨(by simpa [h1,h2]using h0),trivial⟩ (Wk.weak (wkG [some _] zr5 ⟨wqE rfl rfl,trivial⟩ (by decide) aw))
theorem ni(rs:List aK)(room:Int)(hl:rs.length<=1048576):PC0 171 [.agg [.view (vw aK.c rs)],ai room] (.tup [ai (wnt rs room).1,ai (wnt rs room).2]):=by
 have cR:=oe rs room hl
 rw [vn]
 have ha:=zc room rs
 obtain⟨V,hV⟩:=nmE (vw aK.c rs)
 have hb:=lmV hV
 have iV:=imV hV
 have kV:=kmV (k:=3) hV fun _=>rfl
 have dV:=dmV hV
 rw [<-hV]at cR
 rw [<-hV]
 obtain⟨R,hR⟩:=nmE (r5 room rs);(try rw [<-hR]at cR);(try rw [<-hR]at ha);(try rw [<-hR]at⊢)
 obtain⟨⟨a,b,c⟩,q⟩:=R
 dsimp only at *
 have c1:=aq b
 have c2:=aq c
 refine ae (aM f171) aB func171 fun g F hg hF=> ?_
 cbv
 repeat'(refine ad hg cR ?_;cbv)
 cases q
 ·have h:=ha rfl
  simp only [aK.mk.injEq]at h
  obtain⟨rfl,rfl,rfl⟩:=h
  try cbv
  exact uR hF ⟨rfl,rfl⟩
 ·obtain⟨B,hB⟩:=nmE (cl b);(try rw [<-hB]at c1);(try rw [<-hB]at hF)
  obtain⟨C,hC⟩:=nmE (cl c);(try rw [<-hC]at c2);(try rw [<-hC]at hF)
  try cbv
  repeat'((first|refine aa hg c1 ?_|refine aa hg c2 ?_);cbv)
  exact uR hF ⟨rfl,rfl⟩
end Go.Proofs.YtckchgoblpgpbaaGreat
