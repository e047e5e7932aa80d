/- The program's layout: the sizes of a line, the frames of a line (two inner loops). -/
import Derived.Test.YtckchgoblpgpbaaGreatJ5bn
set_option linter.unusedVariables false
set_option linter.unusedSimpArgs false
set_option maxHeartbeats 16000000
namespace Go.Proofs.YtckchgoblpgpbaaGreat
open Go.ChangeShapes Go.WideShapes Go.ChangeAt Go.RowKit Am Go.Proofs.Tryz
set_option maxRecDepth 100000
theorem Gu{α β γ:Type}{c:α->γ}:∀{xs:List α}{ys:List β},xs.length=ys.length->(xs.zip ys).map (fun t=>c t.1)=xs.map c
 | [],[],_=>rfl
 |x::xs,y::ys,h=>by simp only [List.zip_cons_cons,zqA];rw [Gu (by simpa using h)]
theorem DJ{α β:Type}:∀{xs:List α}{ys:List β}{i:Nat}{t:α×β},(xs.zip ys)[i]? =some t->ys[i]? =some t.2
 | [],_,i,t,h=>by simp at h
 |_::_,[],i,t,h=>by simp at h
 |x::xs,y::ys,0,t,h=>by simp at h;subst h;rfl
 |x::xs,y::ys,i+1,t,h=>by simp only [List.zip_cons_cons,List.getElem?_cons_succ]at h⊢;exact DJ h
theorem nO(i:Int):PC0 188 [.c (.N),ai i] (.i (elZ [] i)):=by
 have he:elZ [] i=0:=Bf i
 rw [he]
 refine ae (aJ f188) ay func188 fun g F hg hF=> ?_
 have q1:g .q .lss (i) (0)=decide ((i)<(0)):=bh hg _ _
 have q2:g .q .geq i 0=decide (0<=i):=iu hg _ _
 by_cases h:i<0
 ·(first|rw [zqu h]at q1|rw [zqt h]at q1|rw [zqu (Classical.not_not.2 h)]at q1|rw [zqt (Classical.not_not.2 h)]at q1)
  cbv
  (repeat'(rw [q1];cbv))
  exact aV hF rfl
 ·rw [zqu (show 0<=i by omega)]at q2
  (first|rw [zqu h]at q1|rw [zqt h]at q1|rw [zqu (Classical.not_not.2 h)]at q1|rw [zqt (Classical.not_not.2 h)]at q1)
  cbv
  (repeat'((first|rw [q1]|rw [q2]);cbv))
  exact aV hF rfl
theorem vX(xs:List ag)(ss:List Int)(gap inner js:Int)(hl:xs.length<=1048576)(hs:ss.length<=1048576):dc prog 251 [.c (.view (vw ag.c xs)),.c (.view (vw ak ss)),ai gap,ai inner,ai js] fun res h4=>∃(e:Int)(b:Bool),res= .tup [.c (.own 0),ai e,abl b]/\h4=[⟨3,1,vw ak (alg xs ss gap inner js)⟩]:=by
 have cI:=jc xs hl
 have cg:=db gap 0 1048576
 have ci:=db inner 0 1048576
 change PC0 _ _ (.t (abl (rng gap 0 1048576)))at cg
 change PC0 _ _ (.t (abl (rng inner 0 1048576)))at ci
 have cO:=fq xs ss gap hl hs
 have cS:=bN (wrap64 (inner-wrap64 (hP xs ss gap)))
 have cA:=sr xs hl
 have cE:=ej (alF xs ss gap inner) (auN xs)
 have cL:=nK (alF xs ss gap inner) (xs.length:Int) js
 have cB:=fun i(h:(xs.length:Int)<=12) h0 h1=>j9 (alF xs ss gap inner) (xs.length:Int) js i (by omega) h h0 h1
 change PC0 _ _ (.i (alF xs ss gap inner))at cS
 have hh:al5 xs ss gap inner=false->alg xs ss gap inner js=[]:=fun h=>by rw [alg,if_pos h]
 have hb:al5 xs ss gap inner=true->alg xs ss gap inner js=wz (alE xs ss gap inner) (alS xs (alF xs ss gap inner) js) gap (xs.length:Int) 0 (al0 xs (alF xs ss gap inner) js) 0 (xs.zip ss):=fun h=>by rw [alg,h];rfl
 have xq:=yD xs
 have hr:ep xs=true->(xs.length:Int)<=12:=fun h=>by simp only [ep,zqs,zqp]at h;exact h.2
 unfold al5 at hh hb
 obtain⟨AL,xb⟩:=nmE (alg xs ss gap inner js)
 rw [<-xb]at hh hb⊢
 have hp:alE xs ss gap inner=if 0<auN xs/\0<alF xs ss gap inner then evn (alF xs ss gap inner) (auN xs)else []:=rfl
 have hN:∀i,alS xs (alF xs ss gap inner) js i=if auN xs=0 then btw (alF xs ss gap inner) (xs.length:Int) js i else 0:=fun _=>rfl
 have hk:al0 xs (alF xs ss gap inner) js=if auN xs=0 then led (alF xs ss gap inner) (xs.length:Int) js else 0:=rfl
 obtain⟨D,hD⟩:=nmE (wrap64 (inner-wrap64 (hP xs ss gap)));(try rw [<-hD]at cS)
 obtain⟨OU,hX⟩:=nmE (wrap64 (hP xs ss gap));(try rw [<-hX]at cO);(try rw [<-hX]at hD)
 obtain⟨EX,hT⟩:=nmE (alE xs ss gap inner);(try rw [<-hT]at hp);(try rw [<-hT]at hb)
 obtain⟨SP,xd⟩:=nmE (alS xs (alF xs ss gap inner) js)
 obtain⟨A0,xa⟩:=nmE (al0 xs (alF xs ss gap inner) js)
 rw [<-xd]at hN hb
 rw [<-xa]at hk hb
 obtain⟨LD,hU⟩:=nmE (led (alF xs ss gap inner) (xs.length:Int) js);(try rw [<-hU]at cL);(try rw [<-hU]at hk)
 obtain⟨BW,xc⟩:=nmE (btw (alF xs ss gap inner) (xs.length:Int) js)
 rw [<-xc]at hN cB
 obtain⟨fr,ho⟩:=nmE (alF xs ss gap inner);(try rw [<-ho]at cE);(try rw [<-ho]at cL);(try rw [<-ho]at cB);(try rw [<-ho]at hp);(try rw [<-ho]at hk);(try rw [<-ho]at cS)
 obtain⟨au,hm⟩:=nmE (auN xs);(try rw [<-hm]at cA);(try rw [<-hm]at cE);(try rw [<-hm]at hp);(try rw [<-hm]at hN);(try rw [<-hm]at hk);(try rw [<-hm]at xq)
 obtain⟨n,hn⟩:=nmE ((xs.length:Int));(try rw [<-hn]at cL);(try rw [<-hn]at cB);(try rw [<-hn]at hb);(try rw [<-hn]at hr)
 have xj:(xs.zip ss).length<=1048576:=by rw [zqB];omega
 have xi:= @DJ _ _ xs ss
 have xw:=Gu (c:=fun x=>lc (ag.c x)) (xs:=xs) (ys:=ss)
 obtain⟨zs,hO⟩:=nmE (xs.zip ss);(try rw [<-hO]at hb);(try rw [<-hO]at xj);(try rw [<-hO]at xi)
 obtain⟨V,hV⟩:=nmE (vw ag.c xs)
 have xo:=lmV hV
 have iV:=imV hV
 have kV:=kmV (k:=9) hV fun _=>rfl
 have dV:=dmV hV
 obtain⟨W,hW⟩:=nmE (vw ak ss)
 have xp:=lmV hW
 have iW:=imV hW
 have kW:=kmV (k:=1) hW fun _=>rfl
 have dW:=dmV hW
 rw [<-hV]at cI cO cA
 rw [<-hW]at cO
 rw [<-hV,<-hW]
 have xe:aX V=n:=by rw [hV,aQ,hn]
 obtain⟨q,hq⟩:=nmE (decide (ss.length=xs.length))
 obtain⟨Z,hZ⟩:=nmE (ss.all (fun s=>rng s 0 1048576))
 obtain⟨I,hI⟩:=nmE (ep xs);(try rw [<-hI]at cI);(try rw [<-hI]at hr);(try rw [<-hI]at hh);(try rw [<-hI]at hb)
 obtain⟨G,hG⟩:=nmE (rng gap 0 1048576);(try rw [<-hG]at cg);(try rw [<-hG]at hh);(try rw [<-hG]at hb)
 obtain⟨J,hJ⟩:=nmE (rng inner 0 1048576);(try rw [<-hJ]at ci);(try rw [<-hJ]at hh);(try rw [<-hJ]at hb)
 rw [<-hq]at hh hb
 rw [<-hZ]at hh hb
 clear hX hT xd xa hU xc ho hI hG hJ hm xb
 refine k8 ([(23,.hand),(25,.hand)]) ([]) (c:=aJ f251) ay func251 (by kernel_rfl) (by kernel_rfl) (by rfl) (by kernel_rfl) fun g xy hd F hu hM hg hF=> ?_
 have tl:g .q .neq (g .ln W) (g .ln V)= !q:=by
  rw [bn hg,bF hg,bF hg,az,az,xo,xp,hq]
  by_cases h:ss.length=xs.length
  ·simp [h]
  ·simp [h];omega
 have fg:AL=[]->F [.c (.N),.c (.J 0),.c (.B false)] []:=fun h=>
  Cx hF (.tup [.c (.own 0),ai 0,abl false]) [⟨3,1,[]⟩] _ (wkG [none] ⟨zr3,trivial⟩ ⟨⟨_,rfl,rfl⟩,trivial⟩ (by decide) aD) ⟨0,false,rfl,by rw [h];rfl⟩
 by_cases hc4:(I&&(q&&(G&&J)))=true
 rotate_left
 ·have hA:AL=[]:=hh (by rw [Bool.and_eq_false_iff];exact .inr (Bool.eq_false_iff.2 hc4))
  cases I<;>cases q<;>cases G<;>cases J
  all_goals first
   |exact absurd rfl hc4
   |(cbv;(repeat'((first|rw [tl]|refine ad hg cI ?_|refine ad hg cg ?_|refine ad hg ci ?_);cbv));exact fg hA)
 rw [hc4,Bool.and_true]at hh hb
 simp only [zqs]at hc4
 obtain⟨rfl,rfl,rfl,rfl⟩:=hc4
 have xt:=hr rfl
 have xu:ss.length=xs.length:=of_decide_eq_true hq.symm
 replace hV:V=zs.map (fun t=>lc (ag.c t.1)):=by rw [hO,xw xu.symm,hV];rfl
 cbv
 (repeat'((first|rw [tl]|refine ad hg cI ?_|refine ad hg cg ?_|refine ad hg ci ?_);cbv))
 refine lI ([(23,.hand),(25,.hand)]) ([]) hu hM hg ay (by kernel_rfl) W (fun x=>lc (ak x)) ss hW hs (fun z(s:Unit)=>[(0,.v V),(1,.v W),(2,.i (gap)),(3,.i (inner)),(4,.i (js)),(44,.v W),(45,.i (g .ln W)),(46,.i (z))]) (fun z(s:Unit)=>[]) (fun z(s:Unit)=>True) (fun(s:Unit) rest=>rest.all (fun s=>rng s 0 1048576)) (Z) () hZ.symm trivial (Wk.weak (wkG [] zr8 trivial (by decide) aD)) (fun z s B hz h0 hi he=> ?_) (fun z s x rest B z0 z1 z2 hx hy h0 hi hc e1 hB=> ?_)
 rotate_left
 ·cbv;rw [hc];cbv;refine goX hg _ z0 hy rfl ?_;cbv
  (first|refine bz hg (db x 0 1048576) rfl (fun R0 h2=> ?_)|refine bd hg (db x 0 1048576) rfl (fun R0 h2=> ?_));cbv
  cases R0<;>cbv
  ·exact fg (hh (by rw [<-h0,zqD,show rng x 0 1048576=false from h2.symm];rfl))
  ·rw [e1]
   exact hB (()) _ _ ⟨by rw [<-h0,zqD,show rng x 0 1048576=true from h2.symm];rfl,trivial⟩ (Wk.weak (wkG [] zr8 trivial (by decide) aD))
 cbv;rw [he];cbv
 obtain rfl:Z=true:=h0.symm
 replace hb:=hb rfl
 clear hh h0
 have eS:g .w .sub .i64 inner OU=D:=by rw [bZ hg,hD]
 have t1:g .q .gtr au 0=decide (0<au):=cu hg _ _
 have t2:g .q .gtr fr 0=decide (0<fr):=cu hg _ _
 have t3:g .q .eql au 0=decide (au=0):=by rw [bj hg];exact zqn _ _
 have t4:g .ln V=n:=by rw [bF hg,xe]
 rw [<-t4]at cL
 have xx:∃(C:AC)(a0:Int),dat C=true/\(∀i:Int,PC0 188 [.c C,ai i] (.i (elZ EX i)))/\a0=A0/\((au=0/\C= .N)\/(¬au=0/\C= .N/\¬0<fr/\a0=0)\/(¬au=0/\0<fr/\C= .view (vw ak EX)/\EX=evn fr au/\a0=0)):=by
  by_cases ha:au=0
  ·have:EX=[]:=by rw [hp,if_neg (by omega)]
   exact⟨_,A0,rfl,fun i=>by rw [this];exact nO i,rfl,.inl ⟨ha,rfl⟩⟩
  ·rw [if_neg ha]at hk
   by_cases hf:0<fr
   ·have:EX=evn fr au:=by rw [hp,if_pos (by omega)]
    refine⟨.view (vw ak EX),A0,rfl,fun i=>cY EX (by rw [this,gP];have:=oK au;omega) i,rfl,.inr (.inr ⟨ha,hf,rfl,this,hk⟩)⟩
   ·have:EX=[]:=by rw [hp,if_neg (by omega)]
    exact⟨_,A0,rfl,fun i=>by rw [this];exact nO i,rfl,.inr (.inl ⟨ha,rfl,hf,hk⟩)⟩
 obtain⟨C,a0,dC,cC,ha,hC⟩:=xx
 have pC:dP C=true:=by cases C<;>first|rfl|cases dC
 (repeat'((first|rw [eS]|refine ad hg cO ?_|refine ad hg cS ?_|refine ad hg cA ?_);cbv))
 rcases hC with⟨ha1,hC⟩|⟨ha1,hC,hf,ha2⟩|⟨ha1,hf,hC,hEv,ha2⟩
 case' inl=>
  rw [zqu ha1]at t3
  rw [zqt (show¬0<au by omega)]at t1
  rw [if_pos ha1,<-ha]at hk
  rw [<-hk]at cL
  (repeat'((first|rw [t1]|rw [t3]|refine ad hg cL ?_);cbv))
 case' inr.inl=>
  rw [zqt ha1]at t3
  rw [zqu (show 0<au by omega)]at t1
  rw [zqt hf]at t2
  (repeat'((first|rw [t1]|rw [t2]|rw [t3]);cbv))
 case' inr.inr=>
  rw [zqt ha1]at t3
  rw [zqu (show 0<au by omega)]at t1
  rw [zqu hf]at t2
  rw [<-hEv]at cE
  obtain⟨Y,hY⟩:=nmE (vw ak EX);(try rw [<-hY]at cE);(try rw [<-hY]at hC)
  (repeat'((first|rw [t1]|rw [t2]|rw [t3]|refine ad hg cE ?_);cbv))
 all_goals
  refine lI ([(23,.hand),(25,.hand)]) ([]) hu hM hg ay (by kernel_rfl) V (fun t=>lc (ag.c t.1)) zs hV xj (fun z(s:Int×Int×List Int×LLA)=>[(0,.v V),(1,.v W),(2,.i (gap)),(4,.i (js)),(15,.i (fr)),(16,.i (au)),(17,.p 0),(18,.p 1),(19,.t (.c (.clo 291 (1::0::[])))),(20,.i (s.1)),(21,.o 2),(80,.v V),(81,.i (g .ln V)),(82,.i (z))]) (fun z(s:Int×Int×List Int×LLA)=>[.bx 24 1 [C],.bx 3 1 [.J s.2.1],.rw ⟨3,1,s.2.2.2⟩]) (fun z(s:Int×Int×List Int×LLA)=>s.2.2.2=vw ak s.2.2.1/\(s.2.2.1.length:Int)=z/\0<=s.2.1/\s.2.1<=2*z) (fun(s:Int×Int×List Int×LLA) rest=>s.2.2.1++wz EX SP gap n (s.2.2.1.length:Int) s.1 s.2.1 rest) (AL) (a0,0,[],[]) (by rw [hb,<-ha];rfl) ⟨rfl,rfl,Int.le_refl 0,Int.le_refl 0⟩ (Wk.weak (wkG [some 0,some 1,none] ⟨rfl,rfl,rfl,rfl,rfl,rfl,rfl,rfl,zr3,by first|rfl|(rw [ha2];rfl),rfl,rfl,rfl,rfl,trivial⟩ ⟨⟨_,_,rfl,rfl,rfl,rfl,.inl ⟨by rw [hC],rfl⟩⟩,wqE rfl rfl,⟨_,rfl,rfl⟩,trivial⟩ (by decide) aD)) (fun z s B hz h0 hi he=> ?_) (fun z s x rest B z0 z1 z2 hx hy h0 hi hc e1 hB=> ?_)
  ·obtain⟨a,k,hj,E⟩:=s
   obtain⟨i1,i2,i3,i4⟩:=hi
   dsimp only at i1 i2 i3 i4 h0
   have pE:=pmV i1
   obtain rfl:hj=AL:=by simpa [wz]using h0
   cbv;rw [he];cbv
   exact Cx hF (.tup [.c (.own 0),ai a,abl true]) [⟨3,1,E⟩] _ (wkG [some 2] ⟨zr3,trivial⟩ ⟨wqE rfl pE,trivial⟩ (by decide) aD) ⟨a,true,rfl,by rw [i1]⟩
  ·obtain⟨a,k,hj,E⟩:=s
   obtain⟨⟨x0,x1,x2,x3,x4,x5,x6,x7,x8⟩,sz⟩:=x
   obtain⟨i1,i2,i3,i4⟩:=hi
   dsimp only at i1 i2 i3 i4 h0 hy
   have xv:W[z.toNat]? =some [.J sz]:=by rw [hW];exact bf (xi hx)
   have hR:=yG EX C dC cC k i3 (by omega) x7
   have hH:=yG EX C dC cC (auK k x7) (by unfold auK;split<;>omega) (by unfold auK;split<;>omega) x8
   have xn:E.length<=1048576:=by rw [i1,aq];omega
   obtain⟨P1,hL⟩:=nmE (GU EX a k ⟨x0,x1,x2,x3,x4,x5,x6,x7,x8⟩);(try rw [<-hL]at h0)
   obtain⟨v1,xg⟩:=nmE (auT EX k x7);(try rw [<-xg]at hR)
   obtain⟨k1,hv⟩:=nmE (auK k x7);(try rw [<-hv]at hR);(try rw [<-hv]at hH)
   obtain⟨v2,xh⟩:=nmE (auT EX k1 x8);(try rw [<-xh]at hH)
   obtain⟨k2,h3⟩:=nmE (auK k1 x8);(try rw [<-h3]at hH)
   have h6:g .w .add .i64 x5 v1=wrap64 (x5+v1):=aN hg _ _
   have h7:g .w .add .i64 a (wrap64 (x5+v1))=P1:=by rw [aN hg,hL,xg];rfl
   have xk:g .w .add .i64 sz x6=wrap64 (sz+x6):=aN hg _ _
   have xl:g .w .add .i64 (wrap64 (sz+x6)) v2=wrap64 (wrap64 (sz+x6)+v2):=aN hg _ _
   have xm:g .w .add .i64 P1 (wrap64 (wrap64 (sz+x6)+v2))=wrap64 (P1+wrap64 (wrap64 (sz+x6)+v2)):=aN hg _ _
   have eQ:Hj EX SP gap n z a k ⟨x0,x1,x2,x3,x4,x5,x6,x7,x8⟩ sz=(if z+1<n then wrap64 (wrap64 (wrap64 (P1+wrap64 (wrap64 (sz+x6)+v2))+gap)+SP z)else wrap64 (P1+wrap64 (wrap64 (sz+x6)+v2))):=by
    rw [hL,xh,hv];rfl
   generalize wrap64 (x5+v1)=u1 at h6 h7
   generalize wrap64 (P1+wrap64 (wrap64 (sz+x6)+v2))=Q at *
   generalize wrap64 (wrap64 (sz+x6)+v2)=u3 at *
   generalize wrap64 (sz+x6)=u2 at *
   have h8:g .w .add .i64 Q gap=wrap64 (Q+gap):=aN hg _ _
   have h9:g .w .add .i64 (wrap64 (Q+gap)) (BW z)=wrap64 (wrap64 (Q+gap)+BW z):=aN hg _ _
   have hw:=hN z
   have t5:g .q .lss (z+1) (g .ln V)=decide (z+1<n):=by rw [bh hg,t4]
   have hK:=cB z (hr rfl) z0 (by rw [<-xe]at hr;have:=hr rfl;omega)
   rw [<-t4]at hK
   obtain⟨bw,xr⟩:=nmE (BW z)
   rw [<-xr]at h9 hw hK
   obtain⟨z3,ht⟩:=nmE (z+1)
   rw [<-ht]at e1 t5 eQ
   have nb:0<=k2/\k2<=2*(z+1):=by rw [h3,hv];unfold auK;split<;>split<;>omega
   have nl:((hj++[P1]).length:Int)=z+1:=by simp;omega
   have xf:hj++wz EX SP gap n (hj.length:Int) a k ((⟨x0,x1,x2,x3,x4,x5,x6,x7,x8⟩,sz)::rest)=(hj++[P1])++wz EX SP gap n (z+1) (Hj EX SP gap n z a k ⟨x0,x1,x2,x3,x4,x5,x6,x7,x8⟩ sz) k2 rest:=by
    rw [i2,h3,hv,hL,zqC];rfl
   rw [xf,<-ht,eQ]at h0
   rw [<-ht]at nl nb
   clear xf eQ
   have hE:aC [[C]]=true:=by simp [aC,pC]
   have pE:=pmV i1
   cbv
   rw [hc]
   cbv
   refine goX hg _ z0 hy rfl ?_
   cbv
   refine dr hg hM ay [1,2,3,4,5] (.op 0 [] (.op 6 [7,8] (.op 9 [] .done .none) .none) (.op 6 [7] (.op 0 [8] (.op 9 [] .done .none) .none) .none)) (by kernel_rfl) (by kernel_rfl) (S:=Unit) (fun _=>True) (fun _=>[(0,.v V),(1,.v W),(2,.i (gap)),(4,.i (js)),(15,.i (fr)),(16,.i (au)),(17,.p 0),(18,.p 1),(19,.t (.c (.clo 291 (1::0::[])))),(20,.i (P1)),(21,.o 2),(80,.v V),(81,.i (g .ln V)),(82,.i (z)),(22,.i (z)),(23,.p 3)]) (fun _=>[.bx 24 1 [C],.bx 3 1 [.J k1],.rw ⟨3,1,E⟩,.bx 237 9 [.J x0,.J x1,.J x2,.J x3,.J x4,.J x5,.J x6,.B x7,.B x8]]) (fun BL hS=> ?_) (fun _ _=> ?_)
   ·cbv
    (repeat'(first|exact trivial|exact rfl|((first|refine DD hg pC hR rfl rfl rfl ?_|rw [h6]|rw [h7]);cbv)|exact hS () trivial _ _ (Wk.weak (wkG [some 0,some 1,some 2,some 3] ⟨rfl,rfl,rfl,rfl,rfl,rfl,rfl,rfl,zr3,rfl,rfl,rfl,rfl,rfl,rfl,rfl,trivial⟩ ⟨wqE rfl hE,wqE rfl rfl,wqE rfl pE,wqE rfl rfl,trivial⟩ (by decide) aD))|refine And.intro ?_ ?_))
   cbv
   refine dg hg rfl (by decide) xn ?_
   cbv
   rw [gd hg]
   have aE:E++[[.J P1]]=vw ak (hj++[P1]):=by rw [i1,bv];rfl
   generalize E++_=E2 at aE⊢
   replace aE:E2=vw ak (hj++[P1]):=aE
   have hQ:=pmV aE
   refine dr hg hM ay [1,2,3,4,5,6,7,8,9,10] (.op 0 [] (.op 11 [12,13] (.op 14 [] .done .none) .none) (.op 11 [12] (.op 0 [13] (.op 14 [] .done .none) .none) .none)) (by kernel_rfl) (by kernel_rfl) (S:=Unit) (fun _=>True) (fun _=>[(0,.v V),(1,.v W),(2,.i (gap)),(4,.i (js)),(15,.i (fr)),(16,.i (au)),(17,.p 0),(18,.p 1),(19,.t (.c (.clo 291 (1::0::[])))),(20,.i (Q)),(21,.o 2),(80,.v V),(81,.i (g .ln V)),(82,.i (z)),(22,.i (z)),(23,.p 3)]) (fun _=>[.bx 24 1 [C],.bx 3 1 [.J k2],.rw ⟨3,1,E2⟩,.bx 237 9 [.J x0,.J x1,.J x2,.J x3,.J x4,.J x5,.J x6,.B x7,.B x8]]) (fun BL hS=> ?_) (fun _ _=> ?_)
   ·cbv
    (repeat'(first|exact trivial|exact rfl|((first|refine DD hg pC hH rfl rfl rfl ?_|refine goX hg _ z0 xv rfl ?_|rw [xk]|rw [xl]|rw [xm]);cbv)|exact hS () trivial _ _ (Wk.weak (wkG [some 0,some 1,some 5,some 3] ⟨rfl,rfl,rfl,rfl,rfl,rfl,rfl,rfl,zr3,rfl,rfl,rfl,rfl,rfl,rfl,rfl,trivial⟩ ⟨wqE rfl hE,wqE rfl rfl,wqE rfl hQ,wqE rfl rfl,trivial⟩ (by decide) aD))|refine And.intro ?_ ?_))
   cbv
   skip
   by_cases h5:z3<n
   ·rw [zqu h5]at t5
    rw [if_pos h5]at h0
    by_cases hau0:au=0
    all_goals first
     |exact absurd hau0 ha1
     |exact absurd ha1 hau0
     |(
      rw [if_pos hau0]at hw
      rw [hw]at h0
      generalize wrap64 (Q+gap)=Q2 at *
      generalize wrap64 (Q2+bw)=Q3 at *
      (repeat'((first|rw [e1]|rw [t5]|rw [h8]|rw [h9]|rw [t3]|refine ad hg hK ?_);cbv))
      subst ht
      exact hB ((Q3,k2,hj++[P1],E2)) _ _ ⟨(by dsimp only;rw [nl];exact h0),⟨aE,nl,nb.1,nb.2⟩⟩ (Wk.weak (wkG [some 0,some 1,some 2] ⟨rfl,rfl,rfl,rfl,rfl,rfl,rfl,rfl,zr3,rfl,rfl,rfl,rfl,rfl,trivial⟩ ⟨wqE rfl hE,wqE rfl rfl,wqE rfl hQ,trivial⟩ (by decide) aD)))
     |(
      rw [if_neg hau0]at hw
      rw [hw,Int.add_zero,vb]at h0
      generalize wrap64 (Q+gap)=Q2 at *
      (repeat'((first|rw [e1]|rw [t5]|rw [h8]|rw [t3]);cbv))
      subst ht
      exact hB ((Q2,k2,hj++[P1],E2)) _ _ ⟨(by dsimp only;rw [nl];exact h0),⟨aE,nl,nb.1,nb.2⟩⟩ (Wk.weak (wkG [some 0,some 1,some 2] ⟨rfl,rfl,rfl,rfl,rfl,rfl,rfl,rfl,zr3,rfl,rfl,rfl,rfl,rfl,trivial⟩ ⟨wqE rfl hE,wqE rfl rfl,wqE rfl hQ,trivial⟩ (by decide) aD)))
   ·rw [zqt h5]at t5
    rw [if_neg h5]at h0
    (repeat'((first|rw [e1]|rw [t5]);cbv))
    subst ht
    exact hB ((Q,k2,hj++[P1],E2)) _ _ ⟨(by dsimp only;rw [nl];exact h0),⟨aE,nl,nb.1,nb.2⟩⟩ (Wk.weak (wkG [some 0,some 1,some 2] ⟨rfl,rfl,rfl,rfl,rfl,rfl,rfl,rfl,zr3,rfl,rfl,rfl,rfl,rfl,trivial⟩ ⟨wqE rfl hE,wqE rfl rfl,wqE rfl hQ,trivial⟩ (by decide) aD))
theorem nG(xs:List ag)(ss:List Int)(gap inner js:Int)(hl:xs.length<=1048576)(hs:ss.length<=1048576):dc prog 183 [.c (.view (vw ag.c xs)),.c (.view (vw ak ss)),ai gap,ai inner,ai js] fun res ha=>res= .o 0/\ha=[⟨3,1,vw ak (alg xs ss gap inner js)⟩]:=by
 have cP:=vX xs ss gap inner js hl hs
 obtain⟨V,hV⟩:=nmE (vw ag.c xs);(try rw [<-hV]at cP);(try rw [<-hV]at⊢)
 obtain⟨W,hW⟩:=nmE (vw ak ss);(try rw [<-hW]at cP);(try rw [<-hW]at⊢)
 obtain⟨E,hE⟩:=nmE (vw ak (alg xs ss gap inner js));(try rw [<-hE]at cP);(try rw [<-hE]at⊢)
 have pE:=pmV hE
 refine ae (aJ f183) ay func183 fun g F hg hF=> ?_
 cbv
 refine uS hg (fE cP rfl fun res ha hq=> ?_)
 obtain⟨e,b,rfl,rfl⟩:=hq
 refine⟨[.rw ⟨3,1,E⟩],by simp only [zqA,List.map_nil];rw [show AB.shift _ ⟨3,1,E⟩=(⟨3,1,E⟩:AB)from congrArg (AB.mk _ _) (iE pE)];rfl,?_⟩
 cbv
 exact bR hF rfl pE
theorem uW(ex:List Int)(sp:Int->Int)(gap many:Int):∀(ps:List (ag×Int))(i a k:Int),(wz ex sp gap many i a k ps).length=ps.length
 | [],_,_,_=>rfl
 |(x,s)::r,i,a,k=>by simp only [wz,zqx,uW ex sp gap many r]
theorem EO(xs:List ag)(ss:List Int)(gap inner js:Int):(alg xs ss gap inner js).length<=ss.length:=by
 unfold alg
 split
 ·exact Nat.zero_le _
 ·rw [uW,zqB];exact Nat.min_le_right ..
variable {Q:Exit->List (Nat×AV)->EH->Prop}
theorem Ch{g:Gd}(hg:g= @G0 bp0 prog 0 f125.ntmps)(V:LLA)(rtl:Bool)(n:Int)(s0:aj)(row:Bool)(iw ih al ac:aI)(w0 w1 h0' h1':Int)(K:LLA)(IN AC':Int)(vI vL vZ vS vC vT:LLA)(fl ft fr fb:Int)(zo:Int)(E:LLA)(pE:aC E=true)(ZZ:List Int)(hvZ:vZ=vw ak ZZ)(l:List Int)(L:LLA)(hL:L=vw ak l)(hll:l.length<=1048576)(hlb:∀i∈l,0<=i/\i<(ZZ.length:Int))
  (hQ:∀(z:Int)(E2:LLA),E2=vw ak (l.map (elZ ZZ))->Q (.exit 6) [(220,.t (abl (false))),(4,.p 0),(6,.p 1),(7,.p 2),(8,.p 3),(9,.p 4),(11,.v vI),(12,.v vL),(13,.i (IN)),(14,.v vZ),(15,.v vS),(16,.v vC),(18,.i (AC')),(20,.v vT),(28,.p 5),(29,.o 6),(210,.v vL),(211,.i (g .ln vL)),(212,.i (zo)),(30,.i (zo)),(31,.v L),(32,.o 7),(217,.v L),(218,.i (g .ln L)),(219,.i (z))] [.bx 76 3 (mo V rtl),.bx 122 2 [.J w0,.J w1],.bx 122 2 [.J h0',.J h1'],.bx 127 4 [.J 0,.J 0,.J 0,.N],.bx 196 75 (plL n s0 ⟨w0,w1⟩ ⟨h0',h1'⟩ row iw ih al ac (.view K)),.bx 34 4 [.J fl,.J ft,.J fr,.J fb],.rw ⟨45,5,E⟩,.rw ⟨3,1,E2⟩]):
  g .L (lV (aJ f125) 3) Q [(4,.p 0),(6,.p 1),(7,.p 2),(8,.p 3),(9,.p 4),(11,.v vI),(12,.v vL),(13,.i (IN)),(14,.v vZ),(15,.v vS),(16,.v vC),(18,.i (AC')),(20,.v vT),(28,.p 5),(29,.o 6),(210,.v vL),(211,.i (g .ln vL)),(212,.i (zo)),(30,.i (zo)),(31,.v L),(32,.o 7),(217,.v L),(218,.i (g .ln L)),(219,.i (0))] [.bx 76 3 (mo V rtl),.bx 122 2 [.J w0,.J w1],.bx 122 2 [.J h0',.J h1'],.bx 127 4 [.J 0,.J 0,.J 0,.N],.bx 196 75 (plL n s0 ⟨w0,w1⟩ ⟨h0',h1'⟩ row iw ih al ac (.view K)),.bx 34 4 [.J fl,.J ft,.J fr,.J fb],.rw ⟨45,5,E⟩,.rw ⟨3,1,[]⟩]:=by
 obtain⟨R,hR⟩:=nmE (l.map (elZ ZZ))
 rw [<-hR]at hQ
 have hm:R.length<=1048576:=by rw [hR,zql];exact hll
 refine aY hg ay (by kernel_rfl) L (fun x=>lc (ak x)) l hL hll (fun z(s:List Int×LLA)=>[(4,.p 0),(6,.p 1),(7,.p 2),(8,.p 3),(9,.p 4),(11,.v vI),(12,.v vL),(13,.i (IN)),(14,.v vZ),(15,.v vS),(16,.v vC),(18,.i (AC')),(20,.v vT),(28,.p 5),(29,.o 6),(210,.v vL),(211,.i (g .ln vL)),(212,.i (zo)),(30,.i (zo)),(31,.v L),(32,.o 7),(217,.v L),(218,.i (g .ln L)),(219,.i (z))]) (fun z(s:List Int×LLA)=>[.bx 76 3 (mo V rtl),.bx 122 2 [.J w0,.J w1],.bx 122 2 [.J h0',.J h1'],.bx 127 4 [.J 0,.J 0,.J 0,.N],.bx 196 75 (plL n s0 ⟨w0,w1⟩ ⟨h0',h1'⟩ row iw ih al ac (.view K)),.bx 34 4 [.J fl,.J ft,.J fr,.J fb],.rw ⟨45,5,E⟩,.rw ⟨3,1,s.2⟩]) (fun z(s:List Int×LLA)=>s.2=vw ak s.1) (fun(s:List Int×LLA) rest=>s.1++rest.map (elZ ZZ)) (R) ([],[]) (by rw [hR];rfl) rfl (Wk.weak (wkG [some _,some _,some _,some _,some _,some _,some 6,some 7] ⟨rfl,rfl,rfl,rfl,rfl,rfl,rfl,rfl,rfl,rfl,rfl,rfl,rfl,rfl,rfl,rfl,rfl,rfl,rfl,rfl,rfl,rfl,rfl,rfl,trivial⟩ ⟨wqE rfl rfl,wqE rfl rfl,wqE rfl rfl,wqE rfl rfl,wqE rfl rfl,wqE rfl rfl,wqE rfl pE,wqE rfl rfl,trivial⟩ (by decide) aD)) (fun z s B hz h0 hi he=> ?_) (fun z s x rest B z0 z1 z2 hx hy h0 hi hc e1 hB=> ?_)
 ·obtain⟨hb,E1⟩:=s
  dsimp only at hi h0
  obtain rfl:hb=R:=by simpa using h0
  have hQ:=hQ z E1 hi
  cbv;rw [he];cbv
  exact hQ
 ·obtain⟨hb,E1⟩:=s
  dsimp only at hi h0
  have hd:=hlb x (zqd hx)
  have hh:=hd.1
  obtain⟨v,hv⟩:=nmE (elZ ZZ x)
  have hk:vZ[x.toNat]? =some [.J v]:=by rw [hvZ,hv];exact bf (kj hh hd.2)
  have ha:=congrArg List.length h0
  rw [zqe]at ha
  have hj:E1.length<=1048576:=by rw [hi,aq];omega
  have h3:(hb++[v])++rest.map (elZ ZZ)=R:=by rw [<-h0,hv];simp
  have aE:E1++[[.J v]]=vw ak (hb++[v]):=by rw [hi,bv];rfl
  obtain⟨E2,hf⟩:∃E2,E2=E1++[[.J v]]:=⟨_,rfl⟩
  rw [<-hf]at aE
  have hl:=pmV aE
  clear ha hv hd hR
  cbv;rw [hc];cbv;refine goX hg _ z0 hy rfl ?_;cbv
  (repeat'((first|rw [e1]|refine goX hg _ hh hk rfl ?_|refine dg hg rfl (by decide) hj ?_;cbv;rw [gd hg,<-hf]);cbv))
  exact hB ((hb++[v],E2)) _ _ ⟨h3,aE⟩ (Wk.weak (wkG [some _,some _,some _,some _,some _,some _,some 6,some 9] ⟨rfl,rfl,rfl,rfl,rfl,rfl,rfl,rfl,rfl,rfl,rfl,rfl,rfl,rfl,rfl,rfl,rfl,rfl,rfl,rfl,rfl,rfl,rfl,rfl,trivial⟩ ⟨wqE rfl rfl,wqE rfl rfl,wqE rfl rfl,wqE rfl rfl,wqE rfl rfl,wqE rfl rfl,wqE rfl pE,wqE rfl hl,trivial⟩ (by decide) aD))
theorem Cg{g:Gd}(hg:g= @G0 bp0 prog 0 f125.ntmps)(V:LLA)(rtl:Bool)(n:Int)(s0:aj)(row:Bool)(iw ih al ac:aI)(w0 w1 h0' h1':Int)(K:LLA)(IN AC':Int)(vI vL vZ vS vC vT:LLA)(fl ft fr fb:Int)(zo:Int)(kids:List Int)(hK:K=vw ak kids)(I:List ag)(ZZ CC ST PS:List Int)(S1:List ar)(hvZ:vZ=vw ak ZZ)(hvC:vC=vw ak CC)(hvT:vT=vw ak ST)(hvS:vS=vw ar.c S1)(vP:LLA)(hvP:vP=vw ak PS)(hPl:PS.length<=1048576)(hTl:ST.length<=1048576)
  (hzl:ZZ.length=kids.length) (hsl:S1.length=kids.length) (hf:lw s0=⟨fl,ft,fr,fb⟩) (z0':0<=zo) (c:Int) (hcc:CC[zo.toNat]? =some c) (lb:Int) (l:List Int) (L:LLA) (hL:L=vw ak l) (hll:l.length<=1048576) (done:List aM) (hld:l=ixs done.length l.length) (hle:done.length+l.length<=kids.length)
  (E:LLA) (hE:E=vw aM.c (done++List.replicate (kids.length-done.length) ⟨0,0,0,0,0⟩))
  (hQ:∀(z:Int)(E:LLA)(D:List aM),D=done++rg ⟨s0,row,⟨w0,w1⟩,⟨h0',h1'⟩,iw,ih,al,ac,kids⟩ rtl IN AC' ZZ S1 (elZ ST zo) c lb PS 0 l->E=vw aM.c (D++List.replicate (kids.length-D.length) ⟨0,0,0,0,0⟩)->Q (.exit 8) [(252,.t (abl (false))),(4,.p 0),(6,.p 1),(7,.p 2),(8,.p 3),(9,.p 4),(11,.v vI),(12,.v vL),(13,.i (IN)),(14,.v vZ),(15,.v vS),(16,.v vC),(18,.i (AC')),(20,.v vT),(28,.p 5),(29,.o 6),(210,.v vL),(211,.i (g .ln vL)),(212,.i (zo)),(30,.i (zo)),(31,.v L),(35,.v vP),(36,.i (lb)),(249,.v L),(250,.i (g .ln L)),(251,.i (z))] [.bx 76 3 (mo V rtl),.bx 122 2 [.J w0,.J w1],.bx 122 2 [.J h0',.J h1'],.bx 127 4 [.J 0,.J 0,.J 0,.N],.bx 196 75 (plL n s0 ⟨w0,w1⟩ ⟨h0',h1'⟩ row iw ih al ac (.view K)),.bx 34 4 [.J fl,.J ft,.J fr,.J fb],.rw ⟨45,5,E⟩]):
  g .L (lV (aJ f125) 4) Q [(4,.p 0),(6,.p 1),(7,.p 2),(8,.p 3),(9,.p 4),(11,.v vI),(12,.v vL),(13,.i (IN)),(14,.v vZ),(15,.v vS),(16,.v vC),(18,.i (AC')),(20,.v vT),(28,.p 5),(29,.o 6),(210,.v vL),(211,.i (g .ln vL)),(212,.i (zo)),(30,.i (zo)),(31,.v L),(35,.v vP),(36,.i (lb)),(249,.v L),(250,.i (g .ln L)),(251,.i (0))] [.bx 76 3 (mo V rtl),.bx 122 2 [.J w0,.J w1],.bx 122 2 [.J h0',.J h1'],.bx 127 4 [.J 0,.J 0,.J 0,.N],.bx 196 75 (plL n s0 ⟨w0,w1⟩ ⟨h0',h1'⟩ row iw ih al ac (.view K)),.bx 34 4 [.J fl,.J ft,.J fr,.J fb],.rw ⟨45,5,E⟩]:=by
 obtain⟨q,hq⟩:∃q:Pl,q=⟨s0,row,⟨w0,w1⟩,⟨h0',h1'⟩,iw,ih,al,ac,kids⟩:=⟨_,rfl⟩
 rw [<-hq]at hQ
 obtain⟨D1,hs⟩:=nmE (done++rg q rtl IN AC' ZZ S1 (elZ ST zo) c lb PS 0 l)
 have h2:D1.length=done.length+l.length:=by rw [hs,zqe,lO]
 have hQ:=fun z E=>hQ z E D1 hs
 have hA:(done++rg q rtl IN AC' ZZ S1 (elZ ST zo) c lb PS 0 l,ixs 0 done.length++l)=(D1,ixs 0 D1.length):=Prod.ext hs.symm (by show ixs 0 done.length++l=ixs 0 D1.length;rw [h2,jK,Int.zero_add,<-hld])
 have h1:vC[zo.toNat]? =some [.J c]:=by rw [hvC];exact bf hcc
 have xb:=pmV hE
 have hp:=cY ST hTl zo
 rw [<-hvT]at hp
 obtain⟨st,hY⟩:=nmE (elZ ST zo)
 rw [<-hY]at hp hA
 have hj:=fun z=>cY PS hPl z
 rw [<-hvP]at hj
 have hw:=lr s0 rtl
 have hu:=ki s0 rtl
 obtain⟨mb,hP⟩:=nmE (lh s0 rtl);(try rw [<-hP]at hw)
 obtain⟨cb,hN⟩:=nmE (lx s0 rtl);(try rw [<-hN]at hu)
 clear hld hcc hs
 refine aY hg ay (by kernel_rfl) L (fun x=>lc (ak x)) l hL hll (fun z(s:Int×List aM×LLA)=>[(4,.p 0),(6,.p 1),(7,.p 2),(8,.p 3),(9,.p 4),(11,.v vI),(12,.v vL),(13,.i (IN)),(14,.v vZ),(15,.v vS),(16,.v vC),(18,.i (AC')),(20,.v vT),(28,.p 5),(29,.o 6),(210,.v vL),(211,.i (g .ln vL)),(212,.i (zo)),(30,.i (zo)),(31,.v L),(35,.v vP),(36,.i (lb)),(249,.v L),(250,.i (g .ln L)),(251,.i (z))]) (fun z(s:Int×List aM×LLA)=>[.bx 76 3 (mo V rtl),.bx 122 2 [.J w0,.J w1],.bx 122 2 [.J h0',.J h1'],.bx 127 4 [.J 0,.J 0,.J 0,.N],.bx 196 75 (plL n s0 ⟨w0,w1⟩ ⟨h0',h1'⟩ row iw ih al ac (.view K)),.bx 34 4 [.J fl,.J ft,.J fr,.J fb],.rw ⟨45,5,s.2.2⟩]) (fun z(s:Int×List aM×LLA)=>s.1=z/\s.2.2=vw aM.c (s.2.1++List.replicate (kids.length-s.2.1.length) ⟨0,0,0,0,0⟩)) (fun(s:Int×List aM×LLA) rest=>(s.2.1++rg q rtl IN AC' ZZ S1 st c lb PS s.1 rest,ixs 0 s.2.1.length++rest)) ((D1,ixs 0 D1.length)) (0,done,E) hA ⟨rfl,hE⟩ (Wk.weak (wkG [some _,some _,some _,some _,some _,some _,some 6] ⟨rfl,rfl,rfl,rfl,rfl,rfl,rfl,rfl,rfl,rfl,rfl,rfl,rfl,rfl,rfl,rfl,rfl,rfl,rfl,rfl,rfl,rfl,rfl,rfl,rfl,trivial⟩ ⟨wqE rfl rfl,wqE rfl rfl,wqE rfl rfl,wqE rfl rfl,wqE rfl rfl,wqE rfl rfl,wqE rfl xb,trivial⟩ (by decide) aD)) (fun z s B hz h0 hi he=> ?_) (fun z s x rest B z0 z1 z2 hx hy h0 hi hc e1 hB=> ?_)
 ·obtain⟨j,D,E1⟩:=s
  obtain⟨i1,i2⟩:=hi
  obtain⟨hh,hk⟩:=Prod.mk.inj h0
  dsimp only at i1 i2
  obtain rfl:D=D1:=by simpa [rg]using hh
  have hQ:=hQ z E1 i2
  cbv;rw [he];cbv
  exact hQ
 ·obtain⟨j,D,E1⟩:=s
  obtain⟨i1,i2⟩:=hi
  obtain⟨hh,hk⟩:=Prod.mk.inj h0
  dsimp only at i1 i2 hh hk hy
  subst i1
  have hl:D.length<D1.length:=by have:=congrArg List.length hh;simp [rg]at this;omega
  have hZ:x=(D.length:Int):=by
   have e:=congrArg (fun l=>l[D.length]?) hk
   simp only [zqg (show(ixs 0 D.length).length<=D.length by rw [bX];exact Nat.le_refl _),bX,Nat.sub_self,zqw]at e
   rw [vV _ _ _ hl]at e
   simpa using e
  have hd:0<=x:=by omega
  have hV:x.toNat=D.length:=by omega
  have h5:D.length<S1.length:=by omega
  obtain⟨sd,hT⟩:∃sd,S1[x.toNat]? =some sd:=⟨_,zqc (by omega)⟩
  obtain⟨kd,hO⟩:∃kd,kids[x.toNat]? =some kd:=⟨_,zqc (by omega)⟩
  obtain⟨zz,hW⟩:∃zz,ZZ[x.toNat]? =some zz:=⟨_,zqc (by omega)⟩
  have h4:K[x.toNat]? =some [.J kd]:=by rw [hK];exact bf hO
  have h7:vZ[x.toNat]? =some [.J zz]:=by rw [hvZ];exact bf hW
  have h6:vS[x.toNat]? =some (lc (ar.c sd)):=by rw [hvS];exact bf hT
  have hS:List.replicate (kids.length-D.length) (⟨0,0,0,0,0⟩:aM)=⟨0,0,0,0,0⟩::List.replicate (kids.length-(D.length+1)) ⟨0,0,0,0,0⟩:=by
   rw [show kids.length-D.length=(kids.length-(D.length+1))+1 by omega,List.replicate_succ]
  have xa:x<aX E1:=by rw [i2,aQ];simp;omega
  have hm:E1[x.toNat]? =some (lc (aM.c ⟨0,0,0,0,0⟩)):=by rw [i2];exact bf (by rw [zqg (by omega),hV,Nat.sub_self,hS];rfl)
  have ha:∀v,E1.set x.toNat (lc (aM.c v))=vw aM.c ((D++[v])++List.replicate (kids.length-(D++[v]).length) ⟨0,0,0,0,0⟩):=fun v=>by
   rw [i2,hV,mB,List.set_append_right _ _ (Nat.le_refl _),Nat.sub_self,hS,List.set_cons_zero,zqe,zqm,zqC];rfl
  have hj:=hj j
  obtain⟨pj,ht⟩:=nmE (elZ PS j);(try rw [<-ht]at hj);(try rw [<-ht]at hh)
  have e2:elZ kids x=kd:=by have:=nP hO;rwa [Int.toNat_of_nonneg hd]at this
  have e3:elZ ZZ x=zz:=by have:=nP hW;rwa [Int.toNat_of_nonneg hd]at this
  have hv:=lq IN pj zz mb
  obtain⟨a1,hJ⟩:=nmE (De IN pj zz mb);(try rw [<-hJ]at hv)
  have cP:=nH sd c lb
  obtain⟨pa,hR⟩:=nmE (Ed sd c lb);(try rw [<-hR]at cP)
  obtain⟨sp,hU⟩:=nmE (wrap64 (st+pa))
  have hr:=lq AC' sp sd.size cb
  obtain⟨b1,hM⟩:=nmE (De AC' sp sd.size cb);(try rw [<-hM]at hr)
  obtain⟨X1,hF⟩:=nmE (wrap64 (b1+fl))
  obtain⟨X2,hG⟩:=nmE (wrap64 (a1+ft))
  obtain⟨X3,hH⟩:=nmE (wrap64 (a1+fl))
  obtain⟨X4,hI⟩:=nmE (wrap64 (b1+ft))
  have ho:Er q rtl IN AC' ZZ S1 st c lb pj x=if row then⟨kd,X3,X4,zz,sd.size⟩else⟨kd,X1,X2,sd.size,zz⟩:=by
   rw [hF,hG,hH,hI,hM,hU,hR,hJ,hP,hN,hq]
   unfold Er
   dsimp only
   rw [vt hd hT,e2,e3,hf]
  obtain⟨fm,hb⟩:=nmE (Er q rtl IN AC' ZZ S1 st c lb pj x)
  rw [<-hb]at ho
  have h3:((D++[fm])++rg q rtl IN AC' ZZ S1 st c lb PS (j+1) rest,ixs 0 (D++[fm]).length++rest)=(D1,ixs 0 D1.length):=Prod.ext (by rw [<-hh,hb,ht];simp [rg]) (by
   show ixs 0 (D++[fm]).length++rest=ixs 0 D1.length
   rw [<-hk,zqe,zqm,nB,Int.zero_add,<-hZ];simp)
  obtain⟨E2,hC⟩:=nmE (E1.set x.toNat (lc (aM.c fm)))
  have ha:=ha fm
  rw [<-hC]at ha
  have xc:=pmV ha
  have t1:g .w .add .i64 st pa=sp:=by rw [aN hg,hU]
  have t2:g .w .add .i64 b1 fl=X1:=by rw [aN hg,hF]
  have t3:g .w .add .i64 a1 ft=X2:=by rw [aN hg,hG]
  have t4:g .w .add .i64 a1 fl=X3:=by rw [aN hg,hH]
  have t5:g .w .add .i64 b1 ft=X4:=by rw [aN hg,hI]
  obtain⟨y0,y1,y2,y3,y4,y5,y6⟩:=sd
  dsimp only at ho hr
  clear hZ hl hV h5 hk hb hF hG hH hI hM hU hR hJ hP hN hq hf e2 e3 hT hO hW hS i2 hvZ hvC hvT hvS hvP hK ht hY hA
  have hD:vS[x.toNat]? =some [.J y0,.J y1,.J y2,.B y3,.B y4,.J y5,.J y6]:=h6
  have hn:∃e,E1[x.toNat]? =some e/\e.length=5:=⟨_,hm,rfl⟩
  clear hm
  cases row
  all_goals
   (try simp only [Bool.false_eq_true,if_false]at ho)
   (try simp only [if_true]at ho)
   subst ho
   cbv
   rw [hc]
   cbv
   refine goX hg _ z0 hy rfl ?_
   cbv
   ((repeat'((first|rw [t1]|rw [t2]|rw [t3]|rw [t4]|rw [t5]|refine dy hg hj rfl rfl ?_|refine aa hg hw ?_|refine aa hg hu ?_|refine aa hg hv ?_|refine aa hg hr ?_|refine aa hg cP ?_|refine aa hg hp ?_|refine goX hg _ hd h7 rfl ?_|refine goX hg _ hd h4 rfl ?_|refine goX hg _ hd hD rfl ?_|refine goX hg _ z0' h1 rfl ?_);cbv)))
   refine goY hg hd xa fun j2 hX h9=> ?_
   cbv
   obtain⟨e,he,h8⟩:=hn
   refine goN hg ⟨_,by rw [hX];exact he,h8⟩ ?_
   cbv
   rw [mP hg,hX,e1]
   dsimp only [AT.cells]
   first
    |rw [show E1.set x.toNat [.imm (.int .i64 kd),.imm (.int .i64 X3),.imm (.int .i64 X4),.imm (.int .i64 zz),.imm (.int .i64 y0)]=E2 from hC.symm]
    |rw [show E1.set x.toNat [.imm (.int .i64 kd),.imm (.int .i64 X1),.imm (.int .i64 X2),.imm (.int .i64 y0),.imm (.int .i64 zz)]=E2 from hC.symm]
   exact hB ((j+1,_,E2)) _ _ ⟨h3,⟨rfl,ha⟩⟩ (Wk.weak (wkG [some _,some _,some _,some _,some _,some _,some 6] ⟨rfl,rfl,rfl,rfl,rfl,rfl,rfl,rfl,rfl,rfl,rfl,rfl,rfl,rfl,rfl,rfl,rfl,rfl,rfl,rfl,rfl,rfl,rfl,rfl,rfl,trivial⟩ ⟨wqE rfl rfl,wqE rfl rfl,wqE rfl rfl,wqE rfl rfl,wqE rfl rfl,wqE rfl rfl,wqE rfl xc,trivial⟩ (by decide) aD))
end Go.Proofs.YtckchgoblpgpbaaGreat
