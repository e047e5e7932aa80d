/- Stretched lines, the line of an item: the reference; the sides of a line. -/
import Derived.Test.YtdnnffbbhijmkaaGreatQbh
set_option linter.unusedVariables false
set_option linter.unusedSimpArgs false
set_option maxHeartbeats 4000000
namespace Go.Proofs.YtdnnffbbhijmkaaGreat
open Go.ChangeShapes Go.WideShapes Go.ChangeAt Go.RowKit Am Go.Proofs.Tryz
set_option maxRecDepth 100000
theorem th{α:Type}{out cs:List α}{z:Nat}{v:α}(h:out.length=z)(hz:z<cs.length):(out++cs.drop z).set z v=(out++[v])++cs.drop (z+1):=by
 rw [List.set_append_right _ _ (by omega),h,Nat.sub_self,List.drop_eq_getElem_cons hz,List.set_cons_zero,zqC]
 rfl
theorem uv{α:Type}{out cs:List α}{z:Nat}(h:out.length=z):(out++cs.drop z)[z]? =cs[z]? :=by
 rw [zqg (by omega),h]
 simp
theorem mB(cs:List Int)(gap inner ct:Int)(hl:cs.length≤64):cY prog 325 [.c (.view (vw ao cs)),ai gap,ai inner,ai ct] fun res rows=>res= .o 0∧rows=[⟨3,1,vw ao (we cs gap inner ct)⟩]:=by
 have cC:=il cs (by omega)
 have cT:=fN cs gap (by omega)
 have cA:=lj cs gap inner (by omega)
 have cE:=dQ (wrap64 (inner-crt cs gap)) (cs.length:Int)
 have hevl:(evn (wrap64 (inner-crt cs gap)) (cs.length:Int)).length=cs.length:=by rw [gQ];have:=nN (many:=(cs.length:Int)) (by omega) (by omega);omega
 obtain⟨R,hR⟩:=nmE (we cs gap inner ct)
 rw [←hR]
 unfold we at hR
 obtain⟨T,hT⟩:=nmE (crt cs gap);(try rw [←hT]at cT);(try rw [←hT]at cE);(try rw [←hT]at hevl);(try rw [←hT]at hR)
 obtain⟨D,hD⟩:=nmE (wrap64 (inner-T));(try rw [←hD]at cE);(try rw [←hD]at hevl);(try rw [←hD]at hR)
 obtain⟨A,hA⟩:=nmE (acr cs gap inner);(try rw [←hA]at cA);(try rw [←hA]at hR)
 obtain⟨ev,hev⟩:=nmE (evn D (cs.length:Int));(try rw [←hev]at cE);(try rw [←hev]at hevl);(try rw [←hev]at hR)
 obtain⟨V,hV⟩:=nmE (vw ao cs)
 have hVl:V.length=cs.length:=by rw [hV,af]
 have iV:bR V=true:=by rw [hV];exact aG _ _
 have kV:∀y∈V,y.length=1:=by rw [hV];exact bC (c:=ao) (k:=1) fun _=>rfl
 have dV:∀y∈V,y.all dat=true:=by rw [hV];exact az
 have hVx:bg V=(cs.length:Int):=by rw [hV,aN]
 have pV:aj V=true:=by rw [hV];exact ag _ _
 rw [←hV]at cC cT cA
 rw [←hV]
 obtain⟨n,hn⟩:=nmE ((cs.length:Int));(try rw [←hn]at hVx);(try rw [←hn]at cE)
 have kV:∀y∈V,y.length=1:=by rw [hV];exact bC (c:=ao) (k:=1) fun _=>rfl
 have zipl:ev.length=cs.length→(cs.zip ev).length=cs.length:=fun h=>by rw [zqB,h];omega
 replace zipl:=zipl hevl
 have hzY:(vw ao ev)=(cs.zip ev).map (fun t=>lc (ao t.2)):=by
  have:∀(a b:List Int),b.length=a.length→vw ao b=(a.zip b).map (fun t=>lc (ao t.2)):=by
   intro a
   induction a with
   |nil=>intro b h;rw [zqv h];rfl
   |cons x a ih=>
    intro b h
    cases b with
    |nil=>simp at h
    |cons y b=>rw [List.zip_cons_cons,zqA,←ih b (by simpa using h)];rfl
  exact this _ _ hevl
 have hz1:∀{i:Nat}{t:Int×Int},(cs.zip ev)[i]? =some t→cs[i]? =some t.1:=fun{i t} h=>by
  have:=List.getElem?_zip_eq_some.1 h
  exact this.1
 obtain⟨zs,hzs⟩:=nmE (cs.zip ev);(try rw [←hzs]at zipl);(try rw [←hzs]at hzY);(try rw [←hzs]at hR)
 obtain⟨Y,hY⟩:=nmE (vw ao ev);(try rw [←hY]at cE);(try rw [←hY]at hzY)
 rw [←hzs]at hz1
 have hln:0≤n∧n≤64:=by omega
 have hzl:zs.length≤1048576:=by omega
 refine ae (aK f325) aD func325 fun g F hg hF=> ?_
 have t4:g .ln V=n:=by rw [bD hg,hVx]
 have e1:g .w .sub .i64 inner T=D:=by rw [dd hg,hD]
 have q1:g .q .neq (ct) (1)=decide (¬(ct)=(1)):=by rw [bk hg];exact dx _ _
 have q2:g .q .leq (D) (0)=decide ((D)≤(0)):=ip hg _ _
 have finV:R=cs→F [.c (.own 0)] [.rw ⟨3,1,V⟩]:=fun h=>by rw [h,←hV]at hF;exact bP hF rfl pV
 cases hA2:A
 ·rw [hA2]at cA hR
  simp only [Bool.false_eq_true,false_and,if_false]at hR
  cbv
  refine bB hg cC (bp rfl) iV ?_
  cbv
  (repeat'((first|rw [e1]|refine ad hg cT ?_|refine aa hg cT ?_|refine ad hg cA ?_|refine aa hg cA ?_);cbv))
  exact finV hR
 rw [hA2]at cA hR
 by_cases h1:ct=1
 rotate_left
 ·rw [zqu h1]at q1
  simp only [h1,false_and,and_false,if_false]at hR
  cbv
  refine bB hg cC (bp rfl) iV ?_
  cbv
  (repeat'((first|rw [e1]|rw [q1]|refine ad hg cT ?_|refine aa hg cT ?_|refine ad hg cA ?_|refine aa hg cA ?_);cbv))
  exact finV hR
 rw [zqt (Classical.not_not.2 h1)]at q1
 by_cases h2:0<D
 rotate_left
 ·rw [zqu (show D≤0 by omega)]at q2
  simp only [h1,h2,and_false,if_false]at hR
  cbv
  refine bB hg cC (bp rfl) iV ?_
  cbv
  (repeat'((first|rw [e1]|rw [q1]|rw [q2]|refine ad hg cT ?_|refine aa hg cT ?_|refine ad hg cA ?_|refine aa hg cA ?_);cbv))
  exact finV hR
 rw [zqt (show¬D≤0 by omega)]at q2
 simp only [h1,h2,and_self,if_true]at hR
 replace hV:V=vw ao cs:=hV
 cbv
 refine bB hg cC (bp rfl) iV ?_
 cbv
 (repeat'((first|rw [e1]|rw [q1]|rw [q2]|rw [t4]|refine ad hg cT ?_|refine aa hg cT ?_|refine ad hg cA ?_|refine aa hg cA ?_|refine ad hg cE ?_|refine aa hg cE ?_);cbv))
 have hY:Y=zs.map (fun t=>lc (ao t.2)):=hzY
 refine aY hg aD (by kernel_rfl) Y (fun t=>lc (ao t.2)) zs hY hzl (fun z(s:List Int×LLA)=>[(9,.o 0),(37,.v Y),(38,.i (g .ln Y)),(39,.i (z))]) (fun z(s:List Int×LLA)=>[.rw ⟨3,1,s.2⟩]) (fun z(s:List Int×LLA)=>s.2=vw ao (s.1++cs.drop z.toNat)∧s.1.length=z.toNat) (fun(s:List Int×LLA) rest=>s.1++rest.map (fun p=>wrap64 (p.1+p.2))) (R) ([],V) (by rw [hR];rfl) ⟨by rw [hV];rfl,rfl⟩ (Wk.weak (wkG [some 0] ⟨rfl,rfl,rfl,rfl,trivial⟩ ⟨wqE rfl pV,trivial⟩ (by decide) aI)) (fun z s B hz h0 hi he=> ?_) (fun z s x rest B z0 z1 z2 hx hy h0 hi hc e1 hB=> ?_)
 ·obtain⟨out,E⟩:=s
  obtain⟨i1,i2⟩:=hi
  dsimp only at i1 i2 h0
  have pE:aj E=true:=by rw [i1];exact ag _ _
  have:cs.drop z.toNat=[]:=List.drop_eq_nil_of_le (by rw [←zipl,hz,hY,aB,zql];omega)
  obtain rfl:out=R:=by simpa using h0
  rw [this,List.append_nil]at i1
  rw [←i1]at hF
  cbv;rw [he];cbv
  exact bP hF rfl pE
 ·obtain⟨out,E⟩:=s
  obtain⟨x0,x1⟩:=x
  obtain⟨i1,i2⟩:=hi
  dsimp only at i1 i2 h0 hy
  have hcs:=hz1 hx
  have hzn:z.toNat<cs.length:=(List.getElem?_eq_some_iff.1 hcs).1
  have hzE:z<bg E:=by rw [i1,aN];simp;omega
  have hcell:E[z.toNat]? =some [.J x0]:=by rw [i1];exact bh (by rw [uv i2];exact hcs)
  have hset:E.set z.toNat [.J (wrap64 (x0+x1))]=vw ao ((out++[wrap64 (x0+x1)])++cs.drop (z.toNat+1)):=by rw [i1,←th i2 hzn,←mi];rfl
  have e2:g .w .add .i64 x0 x1=wrap64 (x0+x1):=aM hg _ _
  have h01:(out++[wrap64 (x0+x1)])++rest.map (fun p=>wrap64 (p.1+p.2))=R:=by rw [←h0];simp
  have nl:(out++[wrap64 (x0+x1)]).length=(z+1).toNat:=by simp;omega
  rw [show z.toNat+1=(z+1).toNat by omega]at hset
  generalize wrap64 (x0+x1)=Q at *
  obtain⟨E2,hE2⟩:∃E2,E2=E.set z.toNat [.J Q]:=⟨_,rfl⟩
  rw [←hE2]at hset
  have pE2:aj E2=true:=by rw [hset];exact ag _ _
  cbv;rw [hc];cbv;refine goX hg _ z0 hy rfl ?_;cbv
  refine goY hg z0 hzE fun j hj hjl=> ?_
  cbv
  refine⟨_,by rw [hj];exact hcell,?_⟩
  cbv
  rw [e2]
  refine goY hg z0 hzE fun j2 hj2 hjl2=> ?_
  cbv
  refine goN hg ⟨_,by rw [hj2];exact hcell,rfl⟩ ?_
  cbv
  rw [mH hg,hj2,e1]
  dsimp only [AT.cells]
  rw [←hE2]
  exact hB ((out++[Q],E2)) _ _ ⟨h01,⟨hset,nl⟩⟩ (Wk.weak (wkG [some 0] ⟨rfl,rfl,rfl,rfl,trivial⟩ ⟨wqE rfl pE2,trivial⟩ (by decide) aI))
theorem og(cs:List Int)(gap inner ct:Int)(hl:cs.length≤64):cY prog 265 [.c (.view (vw ao cs)),ai gap,ai inner,ai ct] fun res rows=>res= .o 0∧rows=[⟨3,1,vw ao (pll cs gap inner ct)⟩]:=by
 have cT:=fN cs gap (by omega)
 have cA:=lj cs gap inner (by omega)
 have cJ:=o6 ct
 have cS:=cu (wrap64 (inner-crt cs gap))
 have cL:=nI (sg (wrap64 (inner-crt cs gap))) (cs.length:Int) (uP ct)
 have cB:=fun i(h:(cs.length:Int)≤12) h0 h1=>jS (sg (wrap64 (inner-crt cs gap))) (cs.length:Int) (uP ct) i (by omega) h h0 h1
 have hok:acr cs gap inner=true→(cs.length:Int)≤12:=fun h=>by simp only [acr,zqs,zqp]at h;exact h.2.1
 obtain⟨R,hR⟩:=nmE (pll cs gap inner ct)
 rw [←hR]
 unfold pll at hR
 obtain⟨BW,hBW⟩:=nmE (btw (sg (wrap64 (inner-crt cs gap))) (cs.length:Int) (uP ct))
 rw [←hBW]at hR cB
 obtain⟨T,hT⟩:=nmE (crt cs gap);(try rw [←hT]at cT);(try rw [←hT]at cS);(try rw [←hT]at cL);(try rw [←hT]at cB);(try rw [←hT]at hR)
 obtain⟨LD,hLD⟩:=nmE (led (sg (wrap64 (inner-T))) (cs.length:Int) (uP ct));(try rw [←hLD]at cL);(try rw [←hLD]at hR)
 obtain⟨fr,hfr⟩:=nmE (sg (wrap64 (inner-T)));(try rw [←hfr]at cS);(try rw [←hfr]at cL);(try rw [←hfr]at cB)
 obtain⟨D,hD⟩:=nmE (wrap64 (inner-T));(try rw [←hD]at cS)
 obtain⟨js,hjs⟩:=nmE (uP ct);(try rw [←hjs]at cJ);(try rw [←hjs]at cL);(try rw [←hjs]at cB)
 obtain⟨A,hA⟩:=nmE (acr cs gap inner);(try rw [←hA]at cA);(try rw [←hA]at hR);(try rw [←hA]at hok)
 obtain⟨V,hV⟩:=nmE (vw ao cs)
 have hVl:V.length=cs.length:=by rw [hV,af]
 have iV:bR V=true:=by rw [hV];exact aG _ _
 have kV:∀y∈V,y.length=1:=by rw [hV];exact bC (c:=ao) (k:=1) fun _=>rfl
 have dV:∀y∈V,y.all dat=true:=by rw [hV];exact az
 have hVx:bg V=(cs.length:Int):=by rw [hV,aN]
 rw [←hV]at cT cA
 rw [←hV]
 have hln:0≤(cs.length:Int):=by omega
 obtain⟨n,hn⟩:=nmE ((cs.length:Int));(try rw [←hn]at hVx);(try rw [←hn]at cL);(try rw [←hn]at cB);(try rw [←hn]at hok);(try rw [←hn]at hln)
 refine ae (aK f265) aD func265 fun g F hg hF=> ?_
 have t4:g .ln V=n:=by rw [bD hg,hVx]
 have e0:g .w .sub .i64 inner T=D:=by rw [dd hg,hD]
 cases hA2:A
 ·rw [hA2]at cA hR
  cbv
  (repeat'((first|refine ad hg cA ?_|refine aa hg cA ?_);cbv))
  obtain rfl:R=[]:=hR
  exact vU _ _ hF ⟨rfl,rfl⟩
 rw [hA2]at cA hR
 replace hR:R=plG BW gap 0 LD cs:=hR
 replace hok:=hok hA2
 cbv
 (repeat'((first|rw [e0]|rw [t4]|refine ad hg cA ?_|refine aa hg cA ?_|refine ad hg cJ ?_|refine aa hg cJ ?_|refine ad hg cT ?_|refine aa hg cT ?_|refine ad hg cS ?_|refine aa hg cS ?_|refine ad hg cL ?_|refine aa hg cL ?_);cbv))
 refine aY hg aD (by kernel_rfl) V (fun x=>lc (ao x)) cs hV (by omega) (fun z(s:Int×List Int×LLA)=>[(1,.i (gap)),(9,.i (js)),(10,.i (n)),(11,.i (fr)),(12,.i (s.1)),(13,.o 0),(35,.v V),(36,.i (g .ln V)),(37,.i (z))]) (fun z(s:Int×List Int×LLA)=>[.rw ⟨3,1,s.2.2⟩]) (fun z(s:Int×List Int×LLA)=>s.2.2=vw ao s.2.1∧(s.2.1.length:Int)=z) (fun(s:Int×List Int×LLA) rest=>s.2.1++plG BW gap (s.2.1.length:Int) s.1 rest) (R) (LD,[],[]) (by rw [hR];rfl) ⟨rfl,rfl⟩ (Wk.weak (wkG [none] ⟨rfl,rfl,rfl,rfl,rfl,rfl,rfl,by rw [t4];rfl,rfl,trivial⟩ ⟨⟨_,rfl,rfl⟩,trivial⟩ (by decide) aI)) (fun z s B hz h0 hi he=> ?_) (fun z s x rest B z0 z1 z2 hx hy h0 hi hc e1 hB=> ?_)
 ·obtain⟨a,out,E⟩:=s
  obtain⟨i1,i2⟩:=hi
  dsimp only at i1 i2 h0
  have pE:aj E=true:=by rw [i1];exact ag _ _
  obtain rfl:out=R:=by simpa [plG]using h0
  rw [←i1]at hF
  cbv;rw [he];cbv
  exact bP hF rfl pE
 ·obtain⟨a,out,E⟩:=s
  obtain⟨i1,i2⟩:=hi
  dsimp only at i1 i2 h0
  have hEl:E.length≤1048576:=by rw [i1,af];omega
  have cBz:=cB z hok z0 (by rw [hVx]at *;omega)
  have h01:(out++[a])++plG BW gap ((out++[a]).length:Int) (wrap64 (a+wrap64 (wrap64 (x+gap)+BW z))) rest=R:=by
   rw [←h0,←i2];simp [plG]
  have nl:((out++[a]).length:Int)=z+1:=by simp;omega
  obtain⟨bw,hbw⟩:=nmE (BW z)
  rw [←hbw]at cBz h01
  have e2:g .w .add .i64 x gap=wrap64 (x+gap):=aM hg _ _
  have e3:g .w .add .i64 (wrap64 (x+gap)) bw=wrap64 (wrap64 (x+gap)+bw):=aM hg _ _
  have e4:g .w .add .i64 a (wrap64 (wrap64 (x+gap)+bw))=wrap64 (a+wrap64 (wrap64 (x+gap)+bw)):=aM hg _ _
  have aE:E++[[.J a]]=vw ao (out++[a]):=by rw [i1,bA];rfl
  obtain⟨E2,hE2⟩:∃E2,E2=E++[[.J a]]:=⟨_,rfl⟩
  rw [←hE2]at aE
  have pE2:aj E2=true:=by rw [aE];exact ag _ _
  generalize wrap64 (a+wrap64 (wrap64 (x+gap)+bw))=Q1 at *
  generalize wrap64 (wrap64 (x+gap)+bw)=Q2 at *
  generalize wrap64 (x+gap)=Q3 at *
  cbv;rw [hc];cbv;refine goX hg _ z0 hy rfl ?_;cbv
  (repeat'((first|rw [e1]|rw [e2]|rw [e3]|rw [e4]|refine ad hg cBz ?_|refine aa hg cBz ?_|refine goX hg _ (by omega) hy rfl ?_|refine dl hg rfl (by decide) hEl ?_;cbv;rw [gG hg,←hE2]);cbv))
  exact hB ((Q1,out++[a],E2)) _ _ ⟨h01,⟨aE,nl⟩⟩ (Wk.weak (wkG [some 2] ⟨rfl,rfl,rfl,rfl,rfl,rfl,rfl,rfl,rfl,trivial⟩ ⟨wqE rfl pE2,trivial⟩ (by decide) aI))
theorem nK(xs:List av)(hl:xs.length≤1048576):PC0 268 [.c (.view (vw av.c xs))] (.i (bas xs)):=by
 obtain⟨V,hV⟩:=nmE (vw av.c xs)
 have hVl:V.length=xs.length:=by rw [hV,af]
 have iV:bR V=true:=by rw [hV];exact aG _ _
 have kV:∀y∈V,y.length=7:=by rw [hV];exact bC (c:=av.c) (k:=7) fun _=>rfl
 have dV:∀y∈V,y.all dat=true:=by rw [hV];exact az
 obtain⟨R,hR⟩:=nmE (bas xs)
 rw [←hV,←hR]
 refine ae (aK f268) aD func268 fun g F hg hF=> ?_
 cbv
 refine aY hg aD (by kernel_rfl) V (fun x=>lc (av.c x)) xs hV hl (fun z(s:Int×Bool)=>[(3,.i (s.1)),(4,.t (abl (s.2))),(8,.v V),(9,.i (g .ln V)),(10,.i (z))]) (fun z(s:Int×Bool)=>[]) (fun z(s:Int×Bool)=>True) (fun(s:Int×Bool) rest=>Bf s.1 s.2 rest) (R) ((0:Int),false) (by rw [hR];rfl) trivial (Wk.weak (wkG [] ⟨rfl,rfl,rfl,rfl,rfl,trivial⟩ trivial (by decide) aI)) (fun z s B hz h0 hi he=> ?_) (fun z s x rest B z0 z1 z2 hx hy h0 hi hc e1 hB=> ?_)
 ·cbv;rw [he];cbv
  exact ba hF h0
 ·obtain⟨y0,y1,y2,y3,y4,y5,y6⟩:=x
  obtain⟨m,f⟩:=s
  have cB:=nH ⟨y0,y1,y2,y3,y4,y5,y6⟩
  simp only [Bf]at h0
  obtain⟨o,ho⟩:=nmE (onB ⟨y0,y1,y2,y3,y4,y5,y6⟩);(try rw [←ho]at cB);(try rw [←ho]at h0)
  obtain⟨S,hS⟩:=nmE (wrap64 (y1+y6));(try rw [←hS]at h0)
  have eS:g .w .add .i64 y1 y6=S:=by rw [aM hg,hS]
  have t0:g .q .gtr (S) (m)=decide ((m)<(S)):=cj hg _ _
  clear hS ho
  cbv;rw [hc];cbv;refine goX hg _ z0 hy rfl ?_;cbv
  (repeat'(rw [eS];cbv))
  by_cases hh:m<S
  all_goals
   (first|rw [zqu hh]at t0|rw [zqt hh]at t0|rw [zqu (Classical.not_not.2 hh)]at t0|rw [zqt (Classical.not_not.2 hh)]at t0)
   cases o<;>cases f
  all_goals
   ((repeat'((first|rw [eS]|rw [t0]|rw [e1]|refine ad hg cB ?_|refine aa hg cB ?_);cbv)))
   first
    |(exact hB ((m,false)) _ _ ⟨(by simpa [hh]using h0),trivial⟩ (Wk.weak (wkG [] ⟨rfl,rfl,rfl,rfl,rfl,trivial⟩ trivial (by decide) aI)))
    |(exact hB ((m,true)) _ _ ⟨(by simpa [hh]using h0),trivial⟩ (Wk.weak (wkG [] ⟨rfl,rfl,rfl,rfl,rfl,trivial⟩ trivial (by decide) aI)))
    |(exact hB ((S,true)) _ _ ⟨(by simpa [hh]using h0),trivial⟩ (Wk.weak (wkG [] ⟨rfl,rfl,rfl,rfl,rfl,trivial⟩ trivial (by decide) aI)))
theorem m6(xs:List av)(hl:xs.length≤1048576):PC0 318 [.c (.view (vw av.c xs))] (.i (bas xs)):=by
 obtain⟨V,hV⟩:=nmE (vw av.c xs)
 have hVl:V.length=xs.length:=by rw [hV,af]
 have iV:bR V=true:=by rw [hV];exact aG _ _
 have kV:∀y∈V,y.length=7:=by rw [hV];exact bC (c:=av.c) (k:=7) fun _=>rfl
 have dV:∀y∈V,y.all dat=true:=by rw [hV];exact az
 obtain⟨R,hR⟩:=nmE (bas xs)
 rw [←hV,←hR]
 refine ae (aK f318) aD func318 fun g F hg hF=> ?_
 cbv
 refine aY hg aD (by kernel_rfl) V (fun x=>lc (av.c x)) xs hV hl (fun z(s:Int×Bool)=>[(0,.v V),(3,.i (s.1)),(4,.t (abl (s.2))),(5,.i (z))]) (fun z(s:Int×Bool)=>[]) (fun z(s:Int×Bool)=>True) (fun(s:Int×Bool) rest=>Bf s.1 s.2 rest) (R) ((0:Int),false) (by rw [hR];rfl) trivial (Wk.weak (wkG [] ⟨rfl,rfl,rfl,rfl,trivial⟩ trivial (by decide) aI)) (fun z s B hz h0 hi he=> ?_) (fun z s x rest B z0 z1 z2 hx hy h0 hi hc e1 hB=> ?_)
 ·cbv;rw [he];cbv
  exact ba hF h0
 ·obtain⟨y0,y1,y2,y3,y4,y5,y6⟩:=x
  obtain⟨m,f⟩:=s
  have cB:=mY ⟨y0,y1,y2,y3,y4,y5,y6⟩
  simp only [Bf]at h0
  obtain⟨o,ho⟩:=nmE (onB ⟨y0,y1,y2,y3,y4,y5,y6⟩);(try rw [←ho]at cB);(try rw [←ho]at h0)
  obtain⟨S,hS⟩:=nmE (wrap64 (y1+y6));(try rw [←hS]at h0)
  have eS:g .w .add .i64 y1 y6=S:=by rw [aM hg,hS]
  have t0:g .q .gtr (S) (m)=decide ((m)<(S)):=cj hg _ _
  clear hS ho
  cbv;rw [hc];cbv;refine goX hg _ z0 hy rfl ?_;cbv
  by_cases hh:m<S
  all_goals
   (first|rw [zqu hh]at t0|rw [zqt hh]at t0|rw [zqu (Classical.not_not.2 hh)]at t0|rw [zqt (Classical.not_not.2 hh)]at t0)
   cases o<;>cases f
  all_goals
   ((repeat'((first|rw [eS]|rw [t0]|rw [e1]|refine ad hg cB ?_|refine aa hg cB ?_|refine goX hg _ (by omega) hy rfl ?_);cbv)))
   first
    |(exact hB ((m,false)) _ _ ⟨(by simpa [hh]using h0),trivial⟩ (Wk.weak (wkG [] ⟨rfl,rfl,rfl,rfl,trivial⟩ trivial (by decide) aI)))
    |(exact hB ((m,true)) _ _ ⟨(by simpa [hh]using h0),trivial⟩ (Wk.weak (wkG [] ⟨rfl,rfl,rfl,rfl,trivial⟩ trivial (by decide) aI)))
    |(exact hB ((S,true)) _ _ ⟨(by simpa [hh]using h0),trivial⟩ (Wk.weak (wkG [] ⟨rfl,rfl,rfl,rfl,trivial⟩ trivial (by decide) aI)))
def Gh(xs:List av)(p:Int×Int×Bool):Int:=if 12<(xs.length:Int)then 0 else cl (if p.2.2=true∧p.1<wrap64 (bas xs+p.2.1)then wrap64 (bas xs+p.2.1)else p.1)
theorem GD(xs:List av):(if xs.all tf=true then Gh xs (cr2 0 0 false xs)else 0)=cro xs:=by
 unfold cro Gh
 rcases Bool.eq_false_or_eq_true (xs.all tf)with h|h
 ·rw [if_pos h,Ec h,h]
  by_cases hl:12<(xs.length:Int)
  ·rw [if_pos hl,if_pos (by rw [zqt (by omega)];rfl)]
  ·rw [if_neg hl,if_neg (by rw [zqu (by omega)];decide)]
 ·rw [if_neg (by rw [h];decide),if_pos (by rw [h];simp)]
theorem FA{xs:List av}(h:12<(xs.length:Int)):cro xs=0:=by
 unfold cro;rw [zqt (by omega)];rfl
theorem Fy{xs:List av}(h:¬12<(xs.length:Int)):cro xs=if xs.all tf=true then cl (Db (bas xs) 0 xs)else 0:=by
 unfold cro;rw [zqu (by omega)]
 cases xs.all tf<;>rfl
theorem r6(xs:List av)(hl:xs.length≤1048576):PC0 324 [.c (.view (vw av.c xs))] (.i (cro xs)):=by
 have cB:=nK xs hl
 have h12:= @FA xs
 have hle:= @Fy xs
 obtain⟨n,hn⟩:∃n:Int,n=(xs.length:Int):=⟨_,rfl⟩
 obtain⟨R,hR⟩:=nmE (cro xs)
 rw [←hR,←hn]at h12 hle
 rw [←hR]
 obtain⟨B0,hB0⟩:=nmE (bas xs);(try rw [←hB0]at cB);(try rw [←hB0]at hle)
 obtain⟨V,hV⟩:=nmE (vw av.c xs)
 have hVl:V.length=xs.length:=by rw [hV,af]
 have iV:bR V=true:=by rw [hV];exact aG _ _
 have kV:∀y∈V,y.length=7:=by rw [hV];exact bC (c:=av.c) (k:=7) fun _=>rfl
 have dV:∀y∈V,y.all dat=true:=by rw [hV];exact az
 rw [←hV]at cB
 rw [←hV]
 have hVx:bg V=n:=by rw [hV,aN,hn]
 refine ae (aK f324) aD func324 fun g F hg hF=> ?_
 have t4:g .ln V=n:=by rw [bD hg,hVx]
 have t0:g .q .gtr (n) (12)=decide ((12)<(n)):=cj hg _ _
 cbv
 rw [t4]
 by_cases h0:12<n
 ·(first|rw [zqu h0]at t0|rw [zqt h0]at t0|rw [zqu (Classical.not_not.2 h0)]at t0|rw [zqt (Classical.not_not.2 h0)]at t0)
  (repeat'(rw [t0];cbv))
  exact ba hF (h12 h0).symm
 ·have hle:=(hle h0).symm
  (first|rw [zqu h0]at t0|rw [zqt h0]at t0|rw [zqu (Classical.not_not.2 h0)]at t0|rw [zqt (Classical.not_not.2 h0)]at t0)
  (repeat'((first|rw [t0]|rw [t4]|refine ad hg cB ?_|refine aa hg cB ?_);cbv))
  clear h12
  obtain⟨nn,hnn⟩:=nmE n
  rw [←t4]
  refine aY hg aD (by kernel_rfl) V (fun x=>lc (av.c x)) xs hV hl (fun z(s:Int)=>[(3,.i (s)),(4,.i (B0)),(12,.v V),(13,.i (g .ln V)),(14,.i (z))]) (fun z(s:Int)=>[]) (fun z(s:Int)=>True) (fun(s:Int) rest=>if rest.all tf=true then cl (Db B0 s rest)else 0) (R) (0:Int) hle trivial (Wk.weak (wkG [] ⟨rfl,rfl,rfl,rfl,rfl,trivial⟩ trivial (by decide) aI)) (fun z s B hz h0 hi he=> ?_) (fun z s x rest B z0 z1 z2 hx hy h0 hi hc e1 hB=> ?_)
  ·have cC:=bf s
   have h0:cl s=R:=h0
   obtain⟨C,hC⟩:=nmE (cl s);(try rw [←hC]at cC);(try rw [←hC]at h0)
   cbv;rw [he];cbv
   repeat'((first|refine ad hg cC ?_|refine aa hg cC ?_);cbv)
   exact ba hF h0
  ·obtain⟨y0,y1,y2,y3,y4,y5,y6⟩:=x
   have cO:=nH ⟨y0,y1,y2,y3,y4,y5,y6⟩
   have cS:=nA ⟨y0,y1,y2,y3,y4,y5,y6⟩
   rw [zqD]at h0
   simp only [Db,GF]at h0
   obtain⟨o,ho⟩:=nmE (onB ⟨y0,y1,y2,y3,y4,y5,y6⟩);(try rw [←ho]at cO);(try rw [←ho]at h0)
   obtain⟨k,hk⟩:=nmE (tf ⟨y0,y1,y2,y3,y4,y5,y6⟩);(try rw [←hk]at cS);(try rw [←hk]at h0)
   obtain⟨S,hS⟩:=nmE (wrap64 (wrap64 (wrap64 (B0+y0)+y2)-y6));(try rw [←hS]at h0)
   obtain⟨T,hT⟩:=nmE (wrap64 (wrap64 (y0+y1)+y2));(try rw [←hT]at h0)
   have eS:g .w .sub .i64 (g .w .add .i64 (g .w .add .i64 B0 y0) y2) y6=S:=by rw [aM hg,aM hg,dd hg,hS]
   have eT:g .w .add .i64 (g .w .add .i64 y0 y1) y2=T:=by rw [aM hg,aM hg,hT]
   have mS:g .mx s S=mx2 s S:=by rw [C5 hg];rfl
   have mT:g .mx s T=mx2 s T:=by rw [C5 hg];rfl
   clear hS hT ho hk hle
   cbv;rw [hc];cbv;refine goX hg _ z0 hy rfl ?_;cbv
   cases k
   ·(repeat'((first|refine ad hg cS ?_|refine aa hg cS ?_);cbv))
    exact ba hF h0
   ·rw [Bool.true_and]at h0
    cases o
    ·(repeat'((first|rw [eT]|rw [mT]|rw [e1]|refine ad hg cS ?_|refine aa hg cS ?_|refine ad hg cO ?_|refine aa hg cO ?_);cbv))
     exact hB ((mx2 s T)) _ _ ⟨h0,trivial⟩ (Wk.weak (wkG [] ⟨rfl,rfl,rfl,rfl,rfl,trivial⟩ trivial (by decide) aI))
    ·(repeat'((first|rw [eS]|rw [mS]|rw [e1]|refine ad hg cS ?_|refine aa hg cS ?_|refine ad hg cO ?_|refine aa hg cO ?_);cbv))
     exact hB ((mx2 s S)) _ _ ⟨h0,trivial⟩ (Wk.weak (wkG [] ⟨rfl,rfl,rfl,rfl,rfl,trivial⟩ trivial (by decide) aI))
theorem rA(xs:List av)(hl:xs.length≤1048576):PC0 347 [.c (.view (vw av.c xs))] (.i (cro xs)):=by
 have cB:=m6 xs hl
 have hK:=GD xs
 obtain⟨n,hn⟩:∃n:Int,n=(xs.length:Int):=⟨_,rfl⟩
 obtain⟨R,hR⟩:=nmE (cro xs)
 have hKd:∀p,Gh xs p=if 12<n then 0 else cl (if p.2.2=true∧p.1<wrap64 (bas xs+p.2.1)then wrap64 (bas xs+p.2.1)else p.1):=fun p=>by rw [hn];rfl
 rw [←hR]at hK
 rw [←hR]
 obtain⟨B0,hB0⟩:=nmE (bas xs);(try rw [←hB0]at cB);(try rw [←hB0]at hKd)
 obtain⟨KK,hKK⟩:=nmE (Gh xs);(try rw [←hKK]at hKd);(try rw [←hKK]at hK)
 obtain⟨V,hV⟩:=nmE (vw av.c xs)
 have hVl:V.length=xs.length:=by rw [hV,af]
 have iV:bR V=true:=by rw [hV];exact aG _ _
 have kV:∀y∈V,y.length=7:=by rw [hV];exact bC (c:=av.c) (k:=7) fun _=>rfl
 have dV:∀y∈V,y.all dat=true:=by rw [hV];exact az
 rw [←hV]at cB
 rw [←hV]
 have hVx:bg V=n:=by rw [hV,aN,hn]
 refine ae (aK f347) aD func347 fun g F hg hF=> ?_
 have t4:g .ln V=n:=by rw [bD hg,hVx]
 have t0:g .q .gtr (n) (12)=decide ((12)<(n)):=cj hg _ _
 cbv
 refine aY hg aD (by kernel_rfl) V (fun x=>lc (av.c x)) xs hV hl (fun z(s:Int×Int×Bool)=>[(0,.v V),(3,.i (s.1)),(4,.i (s.2.1)),(5,.t (abl (s.2.2))),(6,.i (z))]) (fun z(s:Int×Int×Bool)=>[]) (fun z(s:Int×Int×Bool)=>True) (fun(s:Int×Int×Bool) rest=>if rest.all tf=true then KK (cr2 s.1 s.2.1 s.2.2 rest)else 0) (R) ((0:Int),(0:Int),false) hK trivial (Wk.weak (wkG [] ⟨rfl,rfl,rfl,rfl,rfl,trivial⟩ trivial (by decide) aI)) (fun z s B hz h0 hi he=> ?_) (fun z s x rest B z0 z1 z2 hx hy h0 hi hc e1 hB=> ?_)
 ·obtain⟨m,b,f⟩:=s
  change KK (m,b,f)=R at h0
  rw [hKd]at h0
  dsimp only at h0
  obtain⟨S,hS⟩:=nmE (wrap64 (B0+b));(try rw [←hS]at h0)
  have eS:g .w .add .i64 B0 b=S:=by rw [aM hg,hS]
  have t1:g .q .gtr (S) (m)=decide ((m)<(S)):=cj hg _ _
  obtain⟨Q,hQ⟩:∃Q,Q=if f=true∧m<S then S else m:=⟨_,rfl⟩
  rw [←hQ]at h0
  have cC:=aO Q
  cbv;rw [he];cbv
  rw [t4]
  by_cases h1:12<n
  ·(first|rw [zqu h1]at t0|rw [zqt h1]at t0|rw [zqu (Classical.not_not.2 h1)]at t0|rw [zqt (Classical.not_not.2 h1)]at t0)
   rw [if_pos h1]at h0
   (repeat'(rw [t0];cbv))
   exact ba hF h0
  ·(first|rw [zqu h1]at t0|rw [zqt h1]at t0|rw [zqu (Classical.not_not.2 h1)]at t0|rw [zqt (Classical.not_not.2 h1)]at t0)
   rw [if_neg h1]at h0
   obtain⟨C,hC⟩:=nmE (cl Q);(try rw [←hC]at cC);(try rw [←hC]at h0)
   (repeat'(rw [t0];cbv))
   by_cases hh:m<S
   all_goals
    (first|rw [zqu hh]at t1|rw [zqt hh]at t1|rw [zqu (Classical.not_not.2 hh)]at t1|rw [zqt (Classical.not_not.2 hh)]at t1)
    cases f
   all_goals
    simp only [hh,and_true,and_false,Bool.false_eq_true,if_false,if_true]at hQ
    subst hQ
    ((repeat'((first|rw [eS]|rw [t1]|refine ad hg cB ?_|refine aa hg cB ?_|refine ad hg cC ?_|refine aa hg cC ?_);cbv)))
    exact ba hF h0
 ·obtain⟨y0,y1,y2,y3,y4,y5,y6⟩:=x
  obtain⟨m,b,f⟩:=s
  have cO:=mY ⟨y0,y1,y2,y3,y4,y5,y6⟩
  have cS:=mR ⟨y0,y1,y2,y3,y4,y5,y6⟩
  rw [zqD]at h0
  simp only [cr2]at h0
  obtain⟨o,ho⟩:=nmE (onB ⟨y0,y1,y2,y3,y4,y5,y6⟩);(try rw [←ho]at cO);(try rw [←ho]at h0)
  obtain⟨k,hk⟩:=nmE (tf ⟨y0,y1,y2,y3,y4,y5,y6⟩);(try rw [←hk]at cS);(try rw [←hk]at h0)
  obtain⟨S,hS⟩:=nmE (wrap64 (wrap64 (y0+y2)-y6));(try rw [←hS]at h0)
  obtain⟨T,hT⟩:=nmE (wrap64 (wrap64 (y0+y1)+y2));(try rw [←hT]at h0)
  have eS:g .w .sub .i64 (g .w .add .i64 y0 y2) y6=S:=by rw [aM hg,dd hg,hS]
  have eT:g .w .add .i64 (g .w .add .i64 y0 y1) y2=T:=by rw [aM hg,aM hg,hT]
  have t1:g .q .gtr (S) (b)=decide ((b)<(S)):=cj hg _ _
  have t2:g .q .gtr (T) (m)=decide ((m)<(T)):=cj hg _ _
  clear hS hT ho hk hK hKd
  cbv;rw [hc];cbv;refine goX hg _ z0 hy rfl ?_;cbv
  cases k
  ·(repeat'((first|refine ad hg cS ?_|refine aa hg cS ?_);cbv))
   exact ba hF h0
  ·rw [Bool.true_and]at h0
   cases o
   ·(repeat'((first|rw [eT]|refine ad hg cS ?_|refine aa hg cS ?_|refine ad hg cO ?_|refine aa hg cO ?_);cbv))
    by_cases hh:m<T
    ·(first|rw [zqu hh]at t2|rw [zqt hh]at t2|rw [zqu (Classical.not_not.2 hh)]at t2|rw [zqt (Classical.not_not.2 hh)]at t2)
     (repeat'((first|rw [eT]|rw [t2]|rw [e1]);cbv))
     exact hB ((T,b,f)) _ _ ⟨(by simpa [hh]using h0),trivial⟩ (Wk.weak (wkG [] ⟨rfl,rfl,rfl,rfl,rfl,trivial⟩ trivial (by decide) aI))
    ·(first|rw [zqu hh]at t2|rw [zqt hh]at t2|rw [zqu (Classical.not_not.2 hh)]at t2|rw [zqt (Classical.not_not.2 hh)]at t2)
     (repeat'((first|rw [eT]|rw [t2]|rw [e1]);cbv))
     exact hB ((m,b,f)) _ _ ⟨(by simpa [hh]using h0),trivial⟩ (Wk.weak (wkG [] ⟨rfl,rfl,rfl,rfl,rfl,trivial⟩ trivial (by decide) aI))
   ·(repeat'((first|rw [eS]|refine ad hg cS ?_|refine aa hg cS ?_|refine ad hg cO ?_|refine aa hg cO ?_);cbv))
    by_cases hh:b<S
    all_goals
     (first|rw [zqu hh]at t1|rw [zqt hh]at t1|rw [zqu (Classical.not_not.2 hh)]at t1|rw [zqt (Classical.not_not.2 hh)]at t1)
     cases f
    all_goals
     try cbv
     ((repeat'((first|rw [eS]|rw [t1]|rw [e1]);cbv)))
     first
      |(exact hB ((m,S,true)) _ _ ⟨(by simpa [hh]using h0),trivial⟩ (Wk.weak (wkG [] ⟨rfl,rfl,rfl,rfl,rfl,trivial⟩ trivial (by decide) aI)))
      |(exact hB ((m,b,true)) _ _ ⟨(by simpa [hh]using h0),trivial⟩ (Wk.weak (wkG [] ⟨rfl,rfl,rfl,rfl,rfl,trivial⟩ trivial (by decide) aI)))
def p7(room:Int):List aJ→aJ×Bool
 | []=>(⟨0,0,0⟩,false)
 |r::rs=>if room= -1∨r.room≤room then(r,true)else p7 room rs
theorem wm(room:Int):∀rs:List aJ,wnt rs room=(cl (p7 room rs).1.wide,cl (p7 room rs).1.high)
 | []=>rfl
 |r::rs=>by
  unfold wnt p7
  by_cases h:room= -1∨r.room≤room
  ·rw [if_pos h,List.find?_cons_of_pos (by simpa using h)]
  ·rw [if_neg h,List.find?_cons_of_neg (by simpa using h)]
   exact wm room rs
theorem CM(room:Int):∀rs:List aJ,(p7 room rs).2=false→(p7 room rs).1=⟨0,0,0⟩
 | [],_=>rfl
 |r::rs,h=>by
  unfold p7 at h⊢
  by_cases h1:room= -1∨r.room≤room
  ·rw [if_pos h1]at h;cases h
  ·rw [if_neg h1]at h⊢;exact CM room rs h
theorem sO{F:List AT→EH→Prop}{eh:EH}{a b c:Int}{q:Bool}{R:aJ×Bool}(hF:F=nR 0 (fun res h'=>∃rows,h'=rows.map .live∧(res= .tup [.agg [.J R.1.room,.J R.1.wide,.J R.1.high],.c (.B R.2)]∧rows=[])))(h:(⟨⟨a,b,c⟩,q⟩:aJ×Bool)=R):F [.agg [.J a,.J b,.J c],.c (.B q)] eh:=by
 subst h;exact dY hF rfl ⟨rfl,rfl⟩
theorem rV(rs:List aJ)(room:Int)(hl:rs.length≤1048576):PC0 323 [.agg [.view (vw aJ.c rs)],ai room] (.tup [.agg [.imm (.int .i64 (p7 room rs).1.room),.imm (.int .i64 (p7 room rs).1.wide),.imm (.int .i64 (p7 room rs).1.high)],.c (.imm (.bool (p7 room rs).2))]):=by
 obtain⟨V,hV⟩:=nmE (vw aJ.c rs)
 have hVl:V.length=rs.length:=by rw [hV,af]
 have iV:bR V=true:=by rw [hV];exact aG _ _
 have kV:∀y∈V,y.length=3:=by rw [hV];exact bC (c:=aJ.c) (k:=3) fun _=>rfl
 have dV:∀y∈V,y.all dat=true:=by rw [hV];exact az
 obtain⟨R,hR⟩:=nmE (p7 room rs)
 rw [←hV,←hR]
 refine ae (aK f323) aD func323 fun g F hg hF=> ?_
 have t0:g .q .eql (room) ((-1))=decide ((room)=((-1))):=by rw [bv hg];exact zqn _ _
 cbv
 refine aY hg aD (by kernel_rfl) V (fun x=>lc (aJ.c x)) rs hV hl (fun z(s:Unit)=>[(1,.i (room)),(4,.p 0),(9,.v V),(10,.i (g .ln V)),(11,.i (z))]) (fun z(s:Unit)=>[.bx 239 3 [.J 0,.J 0,.J 0]]) (fun z(s:Unit)=>True) (fun(s:Unit) rest=>p7 room rest) (R) () hR.symm trivial (Wk.weak (wkG [some 1] ⟨rfl,rfl,rfl,rfl,rfl,trivial⟩ ⟨wqE rfl rfl,trivial⟩ (by decide) aI)) (fun z s B hz h0 hi he=> ?_) (fun z s x rest B z0 z1 z2 hx hy h0 hi hc e1 hB=> ?_)
 ·cbv;rw [he];cbv
  exact sO hF h0
 ·obtain⟨y0,y1,y2⟩:=x
  simp only [p7]at h0
  have t1:g .q .leq (y0) (room)=decide ((y0)≤(room)):=ip hg _ _
  cbv;rw [hc];cbv;refine goX hg _ z0 hy rfl ?_;cbv
  by_cases h1:room= -1
  ·(first|rw [zqu h1]at t0|rw [zqt h1]at t0|rw [zqu (Classical.not_not.2 h1)]at t0|rw [zqt (Classical.not_not.2 h1)]at t0)
   (repeat'(rw [t0];cbv))
   exact sO hF (by simpa [h1]using h0)
  ·(first|rw [zqu h1]at t0|rw [zqt h1]at t0|rw [zqu (Classical.not_not.2 h1)]at t0|rw [zqt (Classical.not_not.2 h1)]at t0)
   by_cases h2:y0≤room
   ·(first|rw [zqu h2]at t1|rw [zqt h2]at t1|rw [zqu (Classical.not_not.2 h2)]at t1|rw [zqt (Classical.not_not.2 h2)]at t1)
    (repeat'((first|rw [t0]|rw [t1]);cbv))
    exact sO hF (by simpa [h1,h2]using h0)
   ·(first|rw [zqu h2]at t1|rw [zqt h2]at t1|rw [zqu (Classical.not_not.2 h2)]at t1|rw [zqt (Classical.not_not.2 h2)]at t1)
    (repeat'((first|rw [t0]|rw [t1]|rw [e1]);cbv))
    exact hB (()) _ _ ⟨(by simpa [h1,h2]using h0),trivial⟩ (Wk.weak (wkG [some _] ⟨rfl,rfl,rfl,rfl,rfl,trivial⟩ ⟨wqE rfl rfl,trivial⟩ (by decide) aI))
theorem rq(rs:List aJ)(room:Int)(hl:rs.length≤1048576):PC0 322 [.agg [.view (vw aJ.c rs)],ai room] (.tup [.agg [.imm (.int .i64 (p7 room rs).1.room),.imm (.int .i64 (p7 room rs).1.wide),.imm (.int .i64 (p7 room rs).1.high)],.c (.imm (.bool (p7 room rs).2))]):=by
 obtain⟨V,hV⟩:=nmE (vw aJ.c rs)
 have hVl:V.length=rs.length:=by rw [hV,af]
 have iV:bR V=true:=by rw [hV];exact aG _ _
 have kV:∀y∈V,y.length=3:=by rw [hV];exact bC (c:=aJ.c) (k:=3) fun _=>rfl
 have dV:∀y∈V,y.all dat=true:=by rw [hV];exact az
 obtain⟨R,hR⟩:=nmE (p7 room rs)
 rw [←hV,←hR]
 refine ae (aK f322) aD func322 fun g F hg hF=> ?_
 have t0:g .q .eql (room) ((-1))=decide ((room)=((-1))):=by rw [bv hg];exact zqn _ _
 cbv
 refine aY hg aD (by kernel_rfl) V (fun x=>lc (aJ.c x)) rs hV hl (fun z(s:Unit)=>[(1,.i (room)),(2,.p 0),(4,.p 1),(6,.i (z))]) (fun z(s:Unit)=>[.bx 146 1 [.view V],.bx 239 3 [.J 0,.J 0,.J 0]]) (fun z(s:Unit)=>True) (fun(s:Unit) rest=>p7 room rest) (R) () hR.symm trivial (Wk.weak (wkG [some _,some _] ⟨rfl,rfl,rfl,rfl,trivial⟩ ⟨wqE rfl rfl,wqE rfl rfl,trivial⟩ (by decide) aI)) (fun z s B hz h0 hi he=> ?_) (fun z s x rest B z0 z1 z2 hx hy h0 hi hc e1 hB=> ?_)
 ·cbv;rw [he];cbv
  exact sO hF h0
 ·obtain⟨y0,y1,y2⟩:=x
  simp only [p7]at h0
  have t1:g .q .leq (y0) (room)=decide ((y0)≤(room)):=ip hg _ _
  cbv
  rw [hc]
  cbv
  by_cases h1:room= -1
  ·(first|rw [zqu h1]at t0|rw [zqt h1]at t0|rw [zqu (Classical.not_not.2 h1)]at t0|rw [zqt (Classical.not_not.2 h1)]at t0)
   (repeat'((first|rw [t0]|refine goX hg _ (by omega) hy rfl ?_);cbv))
   exact sO hF (by simpa [h1]using h0)
  ·(first|rw [zqu h1]at t0|rw [zqt h1]at t0|rw [zqu (Classical.not_not.2 h1)]at t0|rw [zqt (Classical.not_not.2 h1)]at t0)
   by_cases h2:y0≤room
   ·(first|rw [zqu h2]at t1|rw [zqt h2]at t1|rw [zqu (Classical.not_not.2 h2)]at t1|rw [zqt (Classical.not_not.2 h2)]at t1)
    (repeat'((first|rw [t0]|rw [t1]|refine goX hg _ (by omega) hy rfl ?_);cbv))
    exact sO hF (by simpa [h1,h2]using h0)
   ·(first|rw [zqu h2]at t1|rw [zqt h2]at t1|rw [zqu (Classical.not_not.2 h2)]at t1|rw [zqt (Classical.not_not.2 h2)]at t1)
    (repeat'((first|rw [t0]|rw [t1]|rw [e1]|refine goX hg _ (by omega) hy rfl ?_);cbv))
    exact hB (()) _ _ ⟨(by simpa [h1,h2]using h0),trivial⟩ (Wk.weak (wkG [some _,some _] ⟨rfl,rfl,rfl,rfl,trivial⟩ ⟨wqE rfl rfl,wqE rfl rfl,trivial⟩ (by decide) aI))
theorem qD(rs:List aJ)(room:Int)(hl:rs.length≤1048576):PC0 262 [.agg [.view (vw aJ.c rs)],ai room] (.tup [ai (wnt rs room).1,ai (wnt rs room).2]):=by
 have cR:=rV rs room hl
 rw [wm]
 have hno:=CM room rs
 obtain⟨V,hV⟩:=nmE (vw aJ.c rs)
 have hVl:V.length=rs.length:=by rw [hV,af]
 have iV:bR V=true:=by rw [hV];exact aG _ _
 have kV:∀y∈V,y.length=3:=by rw [hV];exact bC (c:=aJ.c) (k:=3) fun _=>rfl
 have dV:∀y∈V,y.all dat=true:=by rw [hV];exact az
 rw [←hV]at cR
 rw [←hV]
 obtain⟨R,hR⟩:=nmE (p7 room rs);(try rw [←hR]at cR);(try rw [←hR]at hno);(try rw [←hR]at⊢)
 obtain⟨⟨a,b,c⟩,q⟩:=R
 dsimp only at *
 have c1:=bf b
 have c2:=bf c
 refine ae (aK f262) aD func262 fun g F hg hF=> ?_
 cbv
 repeat'((first|refine ad hg cR ?_|refine aa hg cR ?_);cbv)
 cases q
 ·have h:=hno rfl
  simp only [aJ.mk.injEq]at h
  obtain⟨rfl,rfl,rfl⟩:=h
  try cbv
  exact uz hF ⟨rfl,rfl⟩
 ·obtain⟨B,hB⟩:=nmE (cl b);(try rw [←hB]at c1);(try rw [←hB]at hF)
  obtain⟨C,hC⟩:=nmE (cl c);(try rw [←hC]at c2);(try rw [←hC]at hF)
  try cbv
  repeat'((first|refine ad hg c1 ?_|refine aa hg c1 ?_|refine ad hg c2 ?_|refine aa hg c2 ?_);cbv)
  exact uz hF ⟨rfl,rfl⟩
theorem py(rs:List aJ)(room:Int)(hl:rs.length≤1048576):PC0 260 [.agg [.view (vw aJ.c rs)],ai room] (.tup [ai (wnt rs room).1,ai (wnt rs room).2]):=by
 have cR:=rq rs room hl
 rw [wm]
 obtain⟨V,hV⟩:=nmE (vw aJ.c rs)
 have hVl:V.length=rs.length:=by rw [hV,af]
 have iV:bR V=true:=by rw [hV];exact aG _ _
 have kV:∀y∈V,y.length=3:=by rw [hV];exact bC (c:=aJ.c) (k:=3) fun _=>rfl
 have dV:∀y∈V,y.all dat=true:=by rw [hV];exact az
 rw [←hV]at cR
 rw [←hV]
 obtain⟨R,hR⟩:=nmE (p7 room rs);(try rw [←hR]at cR);(try rw [←hR]at⊢)
 obtain⟨⟨a,b,c⟩,q⟩:=R
 dsimp only at *
 have c1:=aO b
 have c2:=aO c
 obtain⟨B,hB⟩:=nmE (cl b);(try rw [←hB]at c1);(try rw [←hB]at⊢)
 obtain⟨C,hC⟩:=nmE (cl c);(try rw [←hC]at c2);(try rw [←hC]at⊢)
 refine ae (aK f260) aD func260 fun g F hg hF=> ?_
 cbv
 repeat'((first|refine ad hg cR ?_|refine aa hg cR ?_|refine ad hg c1 ?_|refine aa hg c1 ?_|refine ad hg c2 ?_|refine aa hg c2 ?_);cbv)
 exact uz hF ⟨rfl,rfl⟩
theorem ml(cs:List Int)(gap inner ct:Int)(hl:cs.length≤64):cY prog 348 [.c (.view (vw ao cs)),ai gap,ai inner,ai ct] fun res rows=>res= .o 0∧rows=[⟨3,1,vw ao (we cs gap inner ct)⟩]:=by
 have cT:=fK cs gap (by omega)
 have cA:=kC cs gap inner (by omega)
 have cE:=dN (wrap64 (inner-crt cs gap)) (cs.length:Int)
 have hevl:(evn (wrap64 (inner-crt cs gap)) (cs.length:Int)).length=cs.length:=by rw [gQ];have:=nN (many:=(cs.length:Int)) (by omega) (by omega);omega
 obtain⟨R,hR⟩:=nmE (we cs gap inner ct)
 rw [←hR]
 unfold we at hR
 obtain⟨T,hT⟩:=nmE (crt cs gap);(try rw [←hT]at cT);(try rw [←hT]at cE);(try rw [←hT]at hevl);(try rw [←hT]at hR)
 obtain⟨D,hD⟩:=nmE (wrap64 (inner-T));(try rw [←hD]at cE);(try rw [←hD]at hevl);(try rw [←hD]at hR)
 obtain⟨A,hA⟩:=nmE (acr cs gap inner);(try rw [←hA]at cA);(try rw [←hA]at hR)
 obtain⟨ev,hev⟩:=nmE (evn D (cs.length:Int));(try rw [←hev]at cE);(try rw [←hev]at hevl);(try rw [←hev]at hR)
 obtain⟨V,hV⟩:=nmE (vw ao cs)
 have hVl:V.length=cs.length:=by rw [hV,af]
 have iV:bR V=true:=by rw [hV];exact aG _ _
 have kV:∀y∈V,y.length=1:=by rw [hV];exact bC (c:=ao) (k:=1) fun _=>rfl
 have dV:∀y∈V,y.all dat=true:=by rw [hV];exact az
 have hVx:bg V=(cs.length:Int):=by rw [hV,aN]
 have pV:aj V=true:=by rw [hV];exact ag _ _
 rw [←hV]at cT cA
 rw [←hV]
 obtain⟨n,hn⟩:=nmE ((cs.length:Int));(try rw [←hn]at hVx);(try rw [←hn]at cE)
 have kV:∀y∈V,y.length=1:=by rw [hV];exact bC (c:=ao) (k:=1) fun _=>rfl
 have zipl:ev.length=cs.length→(cs.zip ev).length=cs.length:=fun h=>by rw [zqB,h];omega
 replace zipl:=zipl hevl
 have hzY:(vw ao ev)=(cs.zip ev).map (fun t=>lc (ao t.2)):=by
  have:∀(a b:List Int),b.length=a.length→vw ao b=(a.zip b).map (fun t=>lc (ao t.2)):=by
   intro a
   induction a with
   |nil=>intro b h;rw [zqv h];rfl
   |cons x a ih=>
    intro b h
    cases b with
    |nil=>simp at h
    |cons y b=>rw [List.zip_cons_cons,zqA,←ih b (by simpa using h)];rfl
  exact this _ _ hevl
 have hz1:∀{i:Nat}{t:Int×Int},(cs.zip ev)[i]? =some t→cs[i]? =some t.1:=fun{i t} h=>by
  have:=List.getElem?_zip_eq_some.1 h
  exact this.1
 obtain⟨zs,hzs⟩:=nmE (cs.zip ev);(try rw [←hzs]at zipl);(try rw [←hzs]at hzY);(try rw [←hzs]at hR)
 obtain⟨Y,hY⟩:=nmE (vw ao ev);(try rw [←hY]at cE);(try rw [←hY]at hzY)
 rw [←hzs]at hz1
 have hln:0≤n∧n≤64:=by omega
 have hzl:zs.length≤1048576:=by omega
 refine ae (aK f348) aD func348 fun g F hg hF=> ?_
 have t4:g .ln V=n:=by rw [bD hg,hVx]
 have e1:g .w .sub .i64 inner T=D:=by rw [dd hg,hD]
 have q1:g .q .neq (ct) (1)=decide (¬(ct)=(1)):=by rw [bk hg];exact dx _ _
 have q2:g .q .leq (D) (0)=decide ((D)≤(0)):=ip hg _ _
 have finV:∀e0,R=cs→F [.c (.own 1)] [e0,.rw ⟨3,1,V⟩]:=fun e0 h=>by rw [h,←hV]at hF;exact bP hF rfl pV
 have hVl2:V.length≤1048576:=by rw [hVl];omega
 cases hA2:A
 ·rw [hA2]at cA hR
  simp only [Bool.false_eq_true,false_and,if_false]at hR
  cbv
  refine goN hg ⟨kV,(by show(0+V.length)*8≤_;omega),(by show 0+V.length≤_;omega)⟩ ?_
  cbv
  rw [gG hg]
  dsimp only [List.nil_append]
  cbv
  (repeat'((first|rw [e1]|refine ad hg cT ?_|refine aa hg cT ?_|refine ad hg cA ?_|refine aa hg cA ?_);cbv))
  exact finV _ hR
 rw [hA2]at cA hR
 by_cases h1:ct=1
 rotate_left
 ·rw [zqu h1]at q1
  simp only [h1,false_and,and_false,if_false]at hR
  cbv
  refine goN hg ⟨kV,(by show(0+V.length)*8≤_;omega),(by show 0+V.length≤_;omega)⟩ ?_
  cbv
  rw [gG hg]
  dsimp only [List.nil_append]
  cbv
  (repeat'((first|rw [e1]|rw [q1]|refine ad hg cT ?_|refine aa hg cT ?_|refine ad hg cA ?_|refine aa hg cA ?_);cbv))
  exact finV _ hR
 rw [zqt (Classical.not_not.2 h1)]at q1
 by_cases h2:0<D
 rotate_left
 ·rw [zqu (show D≤0 by omega)]at q2
  simp only [h1,h2,and_false,if_false]at hR
  cbv
  refine goN hg ⟨kV,(by show(0+V.length)*8≤_;omega),(by show 0+V.length≤_;omega)⟩ ?_
  cbv
  rw [gG hg]
  dsimp only [List.nil_append]
  cbv
  (repeat'((first|rw [e1]|rw [q1]|rw [q2]|refine ad hg cT ?_|refine aa hg cT ?_|refine ad hg cA ?_|refine aa hg cA ?_);cbv))
  exact finV _ hR
 rw [zqt (show¬D≤0 by omega)]at q2
 simp only [h1,h2,and_self,if_true]at hR
 replace hV:V=vw ao cs:=hV
 cbv
 refine goN hg ⟨kV,(by show(0+V.length)*8≤_;omega),(by show 0+V.length≤_;omega)⟩ ?_
 cbv
 rw [gG hg]
 dsimp only [List.nil_append]
 cbv
 (repeat'((first|rw [e1]|rw [q1]|rw [q2]|rw [t4]|refine ad hg cT ?_|refine aa hg cT ?_|refine ad hg cA ?_|refine aa hg cA ?_|refine ad hg cE ?_|refine aa hg cE ?_);cbv))
 have hY:Y=zs.map (fun t=>lc (ao t.2)):=hzY
 refine aY hg aD (by kernel_rfl) Y (fun t=>lc (ao t.2)) zs hY hzl (fun z(s:List Int×LLA)=>[(9,.o 0),(11,.v Y),(12,.i (z))]) (fun z(s:List Int×LLA)=>[.rw ⟨3,1,s.2⟩]) (fun z(s:List Int×LLA)=>s.2=vw ao (s.1++cs.drop z.toNat)∧s.1.length=z.toNat) (fun(s:List Int×LLA) rest=>s.1++rest.map (fun p=>wrap64 (p.1+p.2))) (R) ([],V) (by rw [hR];rfl) ⟨by rw [hV];rfl,rfl⟩ (Wk.weak (wkG [some 1] ⟨rfl,rfl,rfl,trivial⟩ ⟨wqE rfl pV,trivial⟩ (by decide) aI)) (fun z s B hz h0 hi he=> ?_) (fun z s x rest B z0 z1 z2 hx hy h0 hi hc e1 hB=> ?_)
 ·obtain⟨out,E⟩:=s
  obtain⟨i1,i2⟩:=hi
  dsimp only at i1 i2 h0
  have pE:aj E=true:=by rw [i1];exact ag _ _
  have:cs.drop z.toNat=[]:=List.drop_eq_nil_of_le (by rw [←zipl,hz,hY,aB,zql];omega)
  have hz2:z=(cs.length:Int):=by rw [hz,hY,aB,zql,zipl]
  obtain rfl:out=R:=by simpa using h0
  rw [this,List.append_nil]at i1
  rw [←i1]at hF
  have eE:g .ln E=g .ln Y:=by rw [bD hg,bD hg,i1,hY,aN,aB,zql,zipl];omega
  cbv
  rw [eE,he]
  cbv
  exact bP hF rfl pE
 ·obtain⟨out,E⟩:=s
  obtain⟨x0,x1⟩:=x
  obtain⟨i1,i2⟩:=hi
  dsimp only at i1 i2 h0 hy
  have hcs:=hz1 hx
  have hzn:z.toNat<cs.length:=(List.getElem?_eq_some_iff.1 hcs).1
  have hzE:z<bg E:=by rw [i1,aN];simp;omega
  have hcell:E[z.toNat]? =some [.J x0]:=by rw [i1];exact bh (by rw [uv i2];exact hcs)
  have hset:E.set z.toNat [.J (wrap64 (x0+x1))]=vw ao ((out++[wrap64 (x0+x1)])++cs.drop (z.toNat+1)):=by rw [i1,←th i2 hzn,←mi];rfl
  have e2:g .w .add .i64 x0 x1=wrap64 (x0+x1):=aM hg _ _
  have h01:(out++[wrap64 (x0+x1)])++rest.map (fun p=>wrap64 (p.1+p.2))=R:=by rw [←h0];simp
  have nl:(out++[wrap64 (x0+x1)]).length=(z+1).toNat:=by simp;omega
  rw [show z.toNat+1=(z+1).toNat by omega]at hset
  generalize wrap64 (x0+x1)=Q at *
  obtain⟨E2,hE2⟩:∃E2,E2=E.set z.toNat [.J Q]:=⟨_,rfl⟩
  rw [←hE2]at hset
  have pE2:aj E2=true:=by rw [hset];exact ag _ _
  have eE:g .ln E=g .ln Y:=by rw [bD hg,bD hg,aB,aB,i1,hY,af,zql];simp;omega
  cbv
  rw [eE,hc]
  cbv
  refine goY hg z0 hzE fun j hj hjl=> ?_
  cbv
  refine⟨_,by rw [hj];exact hcell,?_⟩
  cbv
  refine goX hg _ z0 hy rfl ?_
  cbv
  rw [e2]
  refine goY hg z0 hzE fun j2 hj2 hjl2=> ?_
  cbv
  refine goN hg ⟨_,by rw [hj2];exact hcell,rfl⟩ ?_
  cbv
  rw [mH hg,hj2,e1]
  dsimp only [AT.cells]
  rw [←hE2]
  exact hB ((out++[Q],E2)) _ _ ⟨h01,⟨hset,nl⟩⟩ (Wk.weak (wkG [some 0] ⟨rfl,rfl,rfl,trivial⟩ ⟨wqE rfl pE2,trivial⟩ (by decide) aI))
end Go.Proofs.YtdnnffbbhijmkaaGreat
