/- Stretched lines, the line of an item: the reference; the sides of a line. -/
import Derived.Test.YtckchgoblpgpbaaGreatJ5bi
set_option linter.unusedVariables false
set_option linter.unusedSimpArgs false
set_option maxHeartbeats 4000000
namespace Go.Proofs.YtckchgoblpgpbaaGreat
open Go.ChangeShapes Go.WideShapes Go.ChangeAt Go.RowKit Am Go.Proofs.Tryz
set_option maxRecDepth 100000
theorem tB{α:Type}{out cs:List α}{z:Nat}{v:α}(h:out.length=z)(hz:z<cs.length):(out++cs.drop z).set z v=(out++[v])++cs.drop (z+1):=by
 rw [List.set_append_right _ _ (by omega),h,Nat.sub_self,List.drop_eq_getElem_cons hz,List.set_cons_zero,zqC]
 rfl
theorem uG{α:Type}{out cs:List α}{z:Nat}(h:out.length=z):(out++cs.drop z)[z]? =cs[z]? :=by
 rw [zqg (by omega),h]
 simp
theorem mN(cs:List Int)(gap inner ct:Int)(hl:cs.length<=64):dc prog 245 [.c (.view (vw ak cs)),ai gap,ai inner,ai ct] fun res hq=>res= .o 0/\hq=[⟨3,1,vw ak (wu cs gap inner ct)⟩]:=by
 have cC:=ir cs (by omega)
 have cT:=fZ cs gap (by omega)
 have cA:=lv cs gap inner (by omega)
 have cE:=ej (wrap64 (inner-crt cs gap)) (cs.length:Int)
 have ha:(evn (wrap64 (inner-crt cs gap)) (cs.length:Int)).length=cs.length:=by rw [gP];have:=nN (many:=(cs.length:Int)) (by omega) (by omega);omega
 obtain⟨R,hR⟩:=nmE (wu cs gap inner ct)
 rw [<-hR]
 unfold wu at hR
 obtain⟨T,hT⟩:=nmE (crt cs gap);(try rw [<-hT]at cT);(try rw [<-hT]at cE);(try rw [<-hT]at ha);(try rw [<-hT]at hR)
 obtain⟨D,hD⟩:=nmE (wrap64 (inner-T));(try rw [<-hD]at cE);(try rw [<-hD]at ha);(try rw [<-hD]at hR)
 obtain⟨A,hA⟩:=nmE (acr cs gap inner);(try rw [<-hA]at cA);(try rw [<-hA]at hR)
 obtain⟨ev,ho⟩:=nmE (evn D (cs.length:Int));(try rw [<-ho]at cE);(try rw [<-ho]at ha);(try rw [<-ho]at hR)
 obtain⟨V,hV⟩:=nmE (vw ak cs)
 have hJ:=lmV hV
 have iV:=imV hV
 have kV:=kmV (k:=1) hV fun _=>rfl
 have dV:=dmV hV
 have hs:aX V=(cs.length:Int):=by rw [hV,aQ]
 have pV:=pmV hV
 rw [<-hV]at cC cT cA
 rw [<-hV]
 obtain⟨n,hn⟩:=nmE ((cs.length:Int));(try rw [<-hn]at hs);(try rw [<-hn]at cE)
 have kV:=kmV (k:=1) hV fun _=>rfl
 have hd:ev.length=cs.length->(cs.zip ev).length=cs.length:=fun h=>by rw [zqB,h];omega
 replace hd:=hd ha
 have hp:(vw ak ev)=(cs.zip ev).map (fun t=>lc (ak t.2)):=by
  have:∀(a b:List Int),b.length=a.length->vw ak b=(a.zip b).map (fun t=>lc (ak t.2)):=by
   intro a
   induction a with
   |nil=>intro b h;rw [zqv h];rfl
   |cons x a ih=>
    intro b h
    cases b with
    |nil=>simp at h
    |cons y b=>rw [List.zip_cons_cons,zqA,<-ih b (by simpa using h)];rfl
  exact this _ _ ha
 have hv:∀{i:Nat}{t:Int×Int},(cs.zip ev)[i]? =some t->cs[i]? =some t.1:=fun{i t} h=>by
  have:=List.getElem?_zip_eq_some.1 h
  exact this.1
 obtain⟨zs,hm⟩:=nmE (cs.zip ev);(try rw [<-hm]at hd);(try rw [<-hm]at hp);(try rw [<-hm]at hR)
 obtain⟨Y,hY⟩:=nmE (vw ak ev);(try rw [<-hY]at cE);(try rw [<-hY]at hp)
 rw [<-hm]at hv
 have hL:0<=n/\n<=64:=by omega
 have hG:zs.length<=1048576:=by omega
 refine ae (aJ f245) ay func245 fun g F hg hF=> ?_
 have t4:g .ln V=n:=by rw [bF hg,hs]
 have e1:g .w .sub .i64 inner T=D:=by rw [bZ hg,hD]
 have q1:g .q .neq (ct) (1)=decide (¬(ct)=(1)):=by rw [bn hg];exact dN _ _
 have q2:g .q .leq (D) (0)=decide ((D)<=(0)):=iy hg _ _
 have hh:R=cs->F [.c (.own 0)] [.rw ⟨3,1,V⟩]:=fun h=>by rw [h,<-hV]at hF;exact bR hF rfl pV
 cases hA2:A
 ·rw [hA2]at cA hR
  simp only [Bool.false_eq_true,false_and,if_false]at hR
  cbv
  refine bE hg cC (bp rfl) iV ?_
  cbv
  (repeat'((first|rw [e1]|refine ad hg cT ?_|refine ad hg cA ?_);cbv))
  exact hh hR
 rw [hA2]at cA hR
 by_cases h1:ct=1
 rotate_left
 ·rw [zqu h1]at q1
  simp only [h1,false_and,and_false,if_false]at hR
  cbv
  refine bE hg cC (bp rfl) iV ?_
  cbv
  (repeat'((first|rw [e1]|rw [q1]|refine ad hg cT ?_|refine ad hg cA ?_);cbv))
  exact hh hR
 rw [zqt (Classical.not_not.2 h1)]at q1
 by_cases h2:0<D
 rotate_left
 ·rw [zqu (show D<=0 by omega)]at q2
  simp only [h1,h2,and_false,if_false]at hR
  cbv
  refine bE hg cC (bp rfl) iV ?_
  cbv
  (repeat'((first|rw [e1]|rw [q1]|rw [q2]|refine ad hg cT ?_|refine ad hg cA ?_);cbv))
  exact hh hR
 rw [zqt (show¬D<=0 by omega)]at q2
 simp only [h1,h2,and_self,if_true]at hR
 replace hV:V=vw ak cs:=hV
 cbv
 refine bE hg cC (bp rfl) iV ?_
 cbv
 (repeat'((first|rw [e1]|rw [q1]|rw [q2]|rw [t4]|refine ad hg cT ?_|refine ad hg cA ?_|refine ad hg cE ?_);cbv))
 have hY:Y=zs.map (fun t=>lc (ak t.2)):=hp
 refine aY hg ay (by kernel_rfl) Y (fun t=>lc (ak t.2)) zs hY hG (fun z(s:List Int×LLA)=>[(9,.o 0),(37,.v Y),(38,.i (g .ln Y)),(39,.i (z))]) (fun z(s:List Int×LLA)=>[.rw ⟨3,1,s.2⟩]) (fun z(s:List Int×LLA)=>s.2=vw ak (s.1++cs.drop z.toNat)/\s.1.length=z.toNat) (fun(s:List Int×LLA) rest=>s.1++rest.map (fun p=>wrap64 (p.1+p.2))) (R) ([],V) (by rw [hR];rfl) ⟨by rw [hV];rfl,rfl⟩ (Wk.weak (wkG [some 0] zr4 ⟨wqE rfl pV,trivial⟩ (by decide) aD)) (fun z s B hz h0 hi he=> ?_) (fun z s x rest B z0 z1 z2 hx hy h0 hi hc e1 hB=> ?_)
 ·obtain⟨hk,E⟩:=s
  obtain⟨i1,i2⟩:=hi
  dsimp only at i1 i2 h0
  have pE:=pmV i1
  have:cs.drop z.toNat=[]:=List.drop_eq_nil_of_le (by rw [<-hd,hz,hY,az,zql];omega)
  obtain rfl:hk=R:=by simpa using h0
  rw [this,List.append_nil]at i1
  rw [<-i1]at hF
  cbv;rw [he];cbv
  exact bR hF rfl pE
 ·obtain⟨hk,E⟩:=s
  obtain⟨x0,x1⟩:=x
  obtain⟨i1,i2⟩:=hi
  dsimp only at i1 i2 h0 hy
  have ht:=hv hx
  have hH:z.toNat<cs.length:=(List.getElem?_eq_some_iff.1 ht).1
  have hw:z<aX E:=by rw [i1,aQ];simp;omega
  have hf:E[z.toNat]? =some [.J x0]:=by rw [i1];exact bf (by rw [uG i2];exact ht)
  have hb:E.set z.toNat [.J (wrap64 (x0+x1))]=vw ak ((hk++[wrap64 (x0+x1)])++cs.drop (z.toNat+1)):=by rw [i1,<-tB i2 hH,<-mB];rfl
  have e2:g .w .add .i64 x0 x1=wrap64 (x0+x1):=aN hg _ _
  have hC:(hk++[wrap64 (x0+x1)])++rest.map (fun p=>wrap64 (p.1+p.2))=R:=by rw [<-h0];simp
  have nl:(hk++[wrap64 (x0+x1)]).length=(z+1).toNat:=by simp;omega
  rw [show z.toNat+1=(z+1).toNat by omega]at hb
  generalize wrap64 (x0+x1)=Q at *
  obtain⟨E2,hr⟩:∃E2,E2=E.set z.toNat [.J Q]:=⟨_,rfl⟩
  rw [<-hr]at hb
  have hI:=pmV hb
  cbv;rw [hc];cbv;refine goX hg _ z0 hy rfl ?_;cbv
  refine goY hg z0 hw fun j hj hK=> ?_
  cbv
  refine⟨_,by rw [hj];exact hf,?_⟩
  cbv
  rw [e2]
  refine goY hg z0 hw fun j2 hu hE=> ?_
  cbv
  refine goN hg ⟨_,by rw [hu];exact hf,rfl⟩ ?_
  cbv
  rw [mP hg,hu,e1]
  dsimp only [AT.cells]
  rw [<-hr]
  exact hB ((hk++[Q],E2)) _ _ ⟨hC,⟨hb,nl⟩⟩ (Wk.weak (wkG [some 0] zr4 ⟨wqE rfl hI,trivial⟩ (by decide) aD))
theorem ol(cs:List Int)(gap inner ct:Int)(hl:cs.length<=64):dc prog 180 [.c (.view (vw ak cs)),ai gap,ai inner,ai ct] fun res hk=>res= .o 0/\hk=[⟨3,1,vw ak (pll cs gap inner ct)⟩]:=by
 have cT:=fZ cs gap (by omega)
 have cA:=lv cs gap inner (by omega)
 have cJ:=o9 ct
 have cS:=bN (wrap64 (inner-crt cs gap))
 have cL:=nK (sg (wrap64 (inner-crt cs gap))) (cs.length:Int) (u0 ct)
 have cB:=fun i(h:(cs.length:Int)<=12) h0 h1=>j9 (sg (wrap64 (inner-crt cs gap))) (cs.length:Int) (u0 ct) i (by omega) h h0 h1
 have hb:acr cs gap inner=true->(cs.length:Int)<=12:=fun h=>by simp only [acr,zqs,zqp]at h;exact h.2.1
 obtain⟨R,hR⟩:=nmE (pll cs gap inner ct)
 rw [<-hR]
 unfold pll at hR
 obtain⟨BW,hq⟩:=nmE (btw (sg (wrap64 (inner-crt cs gap))) (cs.length:Int) (u0 ct))
 rw [<-hq]at hR cB
 obtain⟨T,hT⟩:=nmE (crt cs gap);(try rw [<-hT]at cT);(try rw [<-hT]at cS);(try rw [<-hT]at cL);(try rw [<-hT]at cB);(try rw [<-hT]at hR)
 obtain⟨LD,hp⟩:=nmE (led (sg (wrap64 (inner-T))) (cs.length:Int) (u0 ct));(try rw [<-hp]at cL);(try rw [<-hp]at hR)
 obtain⟨fr,hh⟩:=nmE (sg (wrap64 (inner-T)));(try rw [<-hh]at cS);(try rw [<-hh]at cL);(try rw [<-hh]at cB)
 obtain⟨D,hD⟩:=nmE (wrap64 (inner-T));(try rw [<-hD]at cS)
 obtain⟨js,hj⟩:=nmE (u0 ct);(try rw [<-hj]at cJ);(try rw [<-hj]at cL);(try rw [<-hj]at cB)
 obtain⟨A,hA⟩:=nmE (acr cs gap inner);(try rw [<-hA]at cA);(try rw [<-hA]at hR);(try rw [<-hA]at hb)
 obtain⟨V,hV⟩:=nmE (vw ak cs)
 have hv:=lmV hV
 have iV:=imV hV
 have kV:=kmV (k:=1) hV fun _=>rfl
 have dV:=dmV hV
 have hf:aX V=(cs.length:Int):=by rw [hV,aQ]
 rw [<-hV]at cT cA
 rw [<-hV]
 have ht:0<=(cs.length:Int):=by omega
 obtain⟨n,hn⟩:=nmE ((cs.length:Int));(try rw [<-hn]at hf);(try rw [<-hn]at cL);(try rw [<-hn]at cB);(try rw [<-hn]at hb);(try rw [<-hn]at ht)
 refine ae (aJ f180) ay func180 fun g F hg hF=> ?_
 have t4:g .ln V=n:=by rw [bF hg,hf]
 have e0:g .w .sub .i64 inner T=D:=by rw [bZ hg,hD]
 cases hA2:A
 ·rw [hA2]at cA hR
  cbv
  (repeat'(refine ad hg cA ?_;cbv))
  obtain rfl:R=[]:=hR
  exact AX _ _ hF ⟨rfl,rfl⟩
 rw [hA2]at cA hR
 replace hR:R=plG BW gap 0 LD cs:=hR
 replace hb:=hb hA2
 cbv
 (repeat'((first|rw [e0]|rw [t4]|refine ad hg cA ?_|refine ad hg cJ ?_|refine ad hg cT ?_|refine ad hg cS ?_|refine ad hg cL ?_);cbv))
 refine aY hg ay (by kernel_rfl) V (fun x=>lc (ak x)) cs hV (by omega) (fun z(s:Int×List Int×LLA)=>[(1,.i (gap)),(9,.i (js)),(10,.i (n)),(11,.i (fr)),(12,.i (s.1)),(13,.o 0),(35,.v V),(36,.i (g .ln V)),(37,.i (z))]) (fun z(s:Int×List Int×LLA)=>[.rw ⟨3,1,s.2.2⟩]) (fun z(s:Int×List Int×LLA)=>s.2.2=vw ak s.2.1/\(s.2.1.length:Int)=z) (fun(s:Int×List Int×LLA) rest=>s.2.1++plG BW gap (s.2.1.length:Int) s.1 rest) (R) (LD,[],[]) (by rw [hR];rfl) ⟨rfl,rfl⟩ (Wk.weak (wkG [none] ⟨rfl,rfl,rfl,rfl,rfl,rfl,rfl,by rw [t4];rfl,rfl,trivial⟩ ⟨⟨_,rfl,rfl⟩,trivial⟩ (by decide) aD)) (fun z s B hz h0 hi he=> ?_) (fun z s x rest B z0 z1 z2 hx hy h0 hi hc e1 hB=> ?_)
 ·obtain⟨a,ha,E⟩:=s
  obtain⟨i1,i2⟩:=hi
  dsimp only at i1 i2 h0
  have pE:=pmV i1
  obtain rfl:ha=R:=by simpa [plG]using h0
  rw [<-i1]at hF
  cbv;rw [he];cbv
  exact bR hF rfl pE
 ·obtain⟨a,ha,E⟩:=s
  obtain⟨i1,i2⟩:=hi
  dsimp only at i1 i2 h0
  have hr:E.length<=1048576:=by rw [i1,aq];omega
  have hd:=cB z hb z0 (by rw [hf]at *;omega)
  have hm:(ha++[a])++plG BW gap ((ha++[a]).length:Int) (wrap64 (a+wrap64 (wrap64 (x+gap)+BW z))) rest=R:=by
   rw [<-h0,<-i2];simp [plG]
  have nl:((ha++[a]).length:Int)=z+1:=by simp;omega
  obtain⟨bw,hs⟩:=nmE (BW z)
  rw [<-hs]at hd hm
  have e2:g .w .add .i64 x gap=wrap64 (x+gap):=aN hg _ _
  have e3:g .w .add .i64 (wrap64 (x+gap)) bw=wrap64 (wrap64 (x+gap)+bw):=aN hg _ _
  have e4:g .w .add .i64 a (wrap64 (wrap64 (x+gap)+bw))=wrap64 (a+wrap64 (wrap64 (x+gap)+bw)):=aN hg _ _
  have aE:E++[[.J a]]=vw ak (ha++[a]):=by rw [i1,bv];rfl
  obtain⟨E2,ho⟩:∃E2,E2=E++[[.J a]]:=⟨_,rfl⟩
  rw [<-ho]at aE
  have hu:=pmV aE
  generalize wrap64 (a+wrap64 (wrap64 (x+gap)+bw))=Q1 at *
  generalize wrap64 (wrap64 (x+gap)+bw)=Q2 at *
  generalize wrap64 (x+gap)=Q3 at *
  cbv;rw [hc];cbv;refine goX hg _ z0 hy rfl ?_;cbv
  (repeat'((first|rw [e1]|rw [e2]|rw [e3]|rw [e4]|refine ad hg hd ?_|refine dg hg rfl (by decide) hr ?_;cbv;rw [gd hg,<-ho]);cbv))
  exact hB ((Q1,ha++[a],E2)) _ _ ⟨hm,⟨aE,nl⟩⟩ (Wk.weak (wkG [some 2] zr9 ⟨wqE rfl hu,trivial⟩ (by decide) aD))
theorem nM(xs:List ar)(hl:xs.length<=1048576):PC0 185 [.c (.view (vw ar.c xs))] (.i (bas xs)):=by
 obtain⟨V,hV⟩:=nmE (vw ar.c xs)
 have ha:=lmV hV
 have iV:=imV hV
 have kV:=kmV (k:=7) hV fun _=>rfl
 have dV:=dmV hV
 obtain⟨R,hR⟩:=nmE (bas xs)
 rw [<-hV,<-hR]
 refine ae (aJ f185) ay func185 fun g F hg hF=> ?_
 cbv
 refine aY hg ay (by kernel_rfl) V (fun x=>lc (ar.c x)) xs hV hl (fun z(s:Int×Bool)=>[(3,.i (s.1)),(4,.t (abl (s.2))),(8,.v V),(9,.i (g .ln V)),(10,.i (z))]) (fun z(s:Int×Bool)=>[]) (fun z(s:Int×Bool)=>True) (fun(s:Int×Bool) rest=>BF s.1 s.2 rest) (R) ((0:Int),false) (by rw [hR];rfl) trivial (Wk.weak (wkG [] zr5 trivial (by decide) aD)) (fun z s B hz h0 hi he=> ?_) (fun z s x rest B z0 z1 z2 hx hy h0 hi hc e1 hB=> ?_)
 ·cbv;rw [he];cbv
  exact aV hF h0
 ·obtain⟨y0,y1,y2,y3,y4,y5,y6⟩:=x
  obtain⟨m,f⟩:=s
  have cB:=nJ ⟨y0,y1,y2,y3,y4,y5,y6⟩
  simp only [BF]at h0
  obtain⟨o,ho⟩:=nmE (onB ⟨y0,y1,y2,y3,y4,y5,y6⟩);(try rw [<-ho]at cB);(try rw [<-ho]at h0)
  obtain⟨S,hS⟩:=nmE (wrap64 (y1+y6));(try rw [<-hS]at h0)
  have eS:g .w .add .i64 y1 y6=S:=by rw [aN hg,hS]
  have t0:g .q .gtr (S) (m)=decide ((m)<(S)):=cu hg _ _
  clear hS ho
  cbv;rw [hc];cbv;refine goX hg _ z0 hy rfl ?_;cbv
  (repeat'(rw [eS];cbv))
  by_cases hh:m<S
  all_goals
   (first|rw [zqu hh]at t0|rw [zqt hh]at t0|rw [zqu (Classical.not_not.2 hh)]at t0|rw [zqt (Classical.not_not.2 hh)]at t0)
   cases o<;>cases f
  all_goals
   ((repeat'((first|rw [t0]|rw [e1]|refine ad hg cB ?_);cbv)))
   first
    |(exact hB ((m,false)) _ _ ⟨(by simpa [hh]using h0),trivial⟩ (Wk.weak (wkG [] zr5 trivial (by decide) aD)))
    |(exact hB ((m,true)) _ _ ⟨(by simpa [hh]using h0),trivial⟩ (Wk.weak (wkG [] zr5 trivial (by decide) aD)))
    |(exact hB ((S,true)) _ _ ⟨(by simpa [hh]using h0),trivial⟩ (Wk.weak (wkG [] zr5 trivial (by decide) aD)))
theorem na(xs:List ar)(hl:xs.length<=1048576):PC0 220 [.c (.view (vw ar.c xs))] (.i (bas xs)):=by
 obtain⟨V,hV⟩:=nmE (vw ar.c xs)
 have ha:=lmV hV
 have iV:=imV hV
 have kV:=kmV (k:=7) hV fun _=>rfl
 have dV:=dmV hV
 obtain⟨R,hR⟩:=nmE (bas xs)
 rw [<-hV,<-hR]
 refine ae (aJ f220) ay func220 fun g F hg hF=> ?_
 cbv
 refine aY hg ay (by kernel_rfl) V (fun x=>lc (ar.c x)) xs hV hl (fun z(s:Int×Bool)=>[(0,.v V),(3,.i (s.1)),(4,.t (abl (s.2))),(5,.i (z))]) (fun z(s:Int×Bool)=>[]) (fun z(s:Int×Bool)=>True) (fun(s:Int×Bool) rest=>BF s.1 s.2 rest) (R) ((0:Int),false) (by rw [hR];rfl) trivial (Wk.weak (wkG [] zr4 trivial (by decide) aD)) (fun z s B hz h0 hi he=> ?_) (fun z s x rest B z0 z1 z2 hx hy h0 hi hc e1 hB=> ?_)
 ·cbv;rw [he];cbv
  exact aV hF h0
 ·obtain⟨y0,y1,y2,y3,y4,y5,y6⟩:=x
  obtain⟨m,f⟩:=s
  have cB:=m7 ⟨y0,y1,y2,y3,y4,y5,y6⟩
  simp only [BF]at h0
  obtain⟨o,ho⟩:=nmE (onB ⟨y0,y1,y2,y3,y4,y5,y6⟩);(try rw [<-ho]at cB);(try rw [<-ho]at h0)
  obtain⟨S,hS⟩:=nmE (wrap64 (y1+y6));(try rw [<-hS]at h0)
  have eS:g .w .add .i64 y1 y6=S:=by rw [aN hg,hS]
  have t0:g .q .gtr (S) (m)=decide ((m)<(S)):=cu hg _ _
  clear hS ho
  cbv;rw [hc];cbv;refine goX hg _ z0 hy rfl ?_;cbv
  by_cases hh:m<S
  all_goals
   (first|rw [zqu hh]at t0|rw [zqt hh]at t0|rw [zqu (Classical.not_not.2 hh)]at t0|rw [zqt (Classical.not_not.2 hh)]at t0)
   cases o<;>cases f
  all_goals
   ((repeat'((first|rw [eS]|rw [t0]|rw [e1]|refine aa hg cB ?_|refine goX hg _ (by omega) hy rfl ?_);cbv)))
   first
    |(exact hB ((m,false)) _ _ ⟨(by simpa [hh]using h0),trivial⟩ (Wk.weak (wkG [] zr4 trivial (by decide) aD)))
    |(exact hB ((m,true)) _ _ ⟨(by simpa [hh]using h0),trivial⟩ (Wk.weak (wkG [] zr4 trivial (by decide) aD)))
    |(exact hB ((S,true)) _ _ ⟨(by simpa [hh]using h0),trivial⟩ (Wk.weak (wkG [] zr4 trivial (by decide) aD)))
def GQ(xs:List ar)(p:Int×Int×Bool):Int:=if 12<(xs.length:Int)then 0 else cl (if p.2.2=true/\p.1<wrap64 (bas xs+p.2.1)then wrap64 (bas xs+p.2.1)else p.1)
theorem Hf(xs:List ar):(if xs.all tA=true then GQ xs (cr2 0 0 false xs)else 0)=cro xs:=by
 unfold cro GQ
 rcases Bool.eq_false_or_eq_true (xs.all tA)with h|h
 ·rw [if_pos h,EC h,h]
  by_cases hl:12<(xs.length:Int)
  ·rw [if_pos hl,if_pos (by rw [zqt (by omega)];rfl)]
  ·rw [if_neg hl,if_neg (by rw [zqu (by omega)];decide)]
 ·rw [if_neg (by rw [h];decide),if_pos (by rw [h];simp)]
theorem Gg{xs:List ar}(h:12<(xs.length:Int)):cro xs=0:=by
 unfold cro;rw [zqt (by omega)];rfl
theorem Gc{xs:List ar}(h:¬12<(xs.length:Int)):cro xs=if xs.all tA=true then cl (Dz (bas xs) 0 xs)else 0:=by
 unfold cro;rw [zqu (by omega)]
 cases xs.all tA<;>rfl
theorem sq(xs:List ar)(hl:xs.length<=1048576):PC0 244 [.c (.view (vw ar.c xs))] (.i (cro xs)):=by
 have cB:=nM xs hl
 have hb:= @Gg xs
 have ha:= @Gc xs
 obtain⟨n,hn⟩:∃n:Int,n=(xs.length:Int):=⟨_,rfl⟩
 obtain⟨R,hR⟩:=nmE (cro xs)
 rw [<-hR,<-hn]at hb ha
 rw [<-hR]
 obtain⟨B0,hd⟩:=nmE (bas xs);(try rw [<-hd]at cB);(try rw [<-hd]at ha)
 obtain⟨V,hV⟩:=nmE (vw ar.c xs)
 have hh:=lmV hV
 have iV:=imV hV
 have kV:=kmV (k:=7) hV fun _=>rfl
 have dV:=dmV hV
 rw [<-hV]at cB
 rw [<-hV]
 have hf:aX V=n:=by rw [hV,aQ,hn]
 refine ae (aJ f244) ay func244 fun g F hg hF=> ?_
 have t4:g .ln V=n:=by rw [bF hg,hf]
 have t0:g .q .gtr (n) (12)=decide ((12)<(n)):=cu hg _ _
 cbv
 rw [t4]
 by_cases h0:12<n
 ·(first|rw [zqu h0]at t0|rw [zqt h0]at t0|rw [zqu (Classical.not_not.2 h0)]at t0|rw [zqt (Classical.not_not.2 h0)]at t0)
  (repeat'(rw [t0];cbv))
  exact aV hF (hb h0).symm
 ·have ha:=(ha h0).symm
  (first|rw [zqu h0]at t0|rw [zqt h0]at t0|rw [zqu (Classical.not_not.2 h0)]at t0|rw [zqt (Classical.not_not.2 h0)]at t0)
  (repeat'((first|rw [t0]|rw [t4]|refine ad hg cB ?_);cbv))
  clear hb
  obtain⟨nn,hj⟩:=nmE n
  rw [<-t4]
  refine aY hg ay (by kernel_rfl) V (fun x=>lc (ar.c x)) xs hV hl (fun z(s:Int)=>[(3,.i (s)),(4,.i (B0)),(12,.v V),(13,.i (g .ln V)),(14,.i (z))]) (fun z(s:Int)=>[]) (fun z(s:Int)=>True) (fun(s:Int) rest=>if rest.all tA=true then cl (Dz B0 s rest)else 0) (R) (0:Int) ha trivial (Wk.weak (wkG [] zr5 trivial (by decide) aD)) (fun z s B hz h0 hi he=> ?_) (fun z s x rest B z0 z1 z2 hx hy h0 hi hc e1 hB=> ?_)
  ·have cC:=aK s
   have h0:cl s=R:=h0
   obtain⟨C,hC⟩:=nmE (cl s);(try rw [<-hC]at cC);(try rw [<-hC]at h0)
   cbv;rw [he];cbv
   repeat'(refine ad hg cC ?_;cbv)
   exact aV hF h0
  ·obtain⟨y0,y1,y2,y3,y4,y5,y6⟩:=x
   have cO:=nJ ⟨y0,y1,y2,y3,y4,y5,y6⟩
   have cS:=nC ⟨y0,y1,y2,y3,y4,y5,y6⟩
   rw [zqD]at h0
   simp only [Dz,Hg]at h0
   obtain⟨o,ho⟩:=nmE (onB ⟨y0,y1,y2,y3,y4,y5,y6⟩);(try rw [<-ho]at cO);(try rw [<-ho]at h0)
   obtain⟨k,hk⟩:=nmE (tA ⟨y0,y1,y2,y3,y4,y5,y6⟩);(try rw [<-hk]at cS);(try rw [<-hk]at h0)
   obtain⟨S,hS⟩:=nmE (wrap64 (wrap64 (wrap64 (B0+y0)+y2)-y6));(try rw [<-hS]at h0)
   obtain⟨T,hT⟩:=nmE (wrap64 (wrap64 (y0+y1)+y2));(try rw [<-hT]at h0)
   have eS:g .w .sub .i64 (g .w .add .i64 (g .w .add .i64 B0 y0) y2) y6=S:=by rw [aN hg,aN hg,bZ hg,hS]
   have eT:g .w .add .i64 (g .w .add .i64 y0 y1) y2=T:=by rw [aN hg,aN hg,hT]
   have mS:g .mx s S=mx2 s S:=by rw [Du hg];rfl
   have mT:g .mx s T=mx2 s T:=by rw [Du hg];rfl
   clear hS hT ho hk ha
   cbv;rw [hc];cbv;refine goX hg _ z0 hy rfl ?_;cbv
   cases k
   ·(repeat'(refine ad hg cS ?_;cbv))
    exact aV hF h0
   ·rw [Bool.true_and]at h0
    cases o
    ·(repeat'((first|rw [eT]|rw [mT]|rw [e1]|refine ad hg cS ?_|refine ad hg cO ?_);cbv))
     exact hB ((mx2 s T)) _ _ ⟨h0,trivial⟩ (Wk.weak (wkG [] zr5 trivial (by decide) aD))
    ·(repeat'((first|rw [eS]|rw [mS]|rw [e1]|refine ad hg cS ?_|refine ad hg cO ?_);cbv))
     exact hB ((mx2 s S)) _ _ ⟨h0,trivial⟩ (Wk.weak (wkG [] zr5 trivial (by decide) aD))
theorem rK(xs:List ar)(hl:xs.length<=1048576):PC0 266 [.c (.view (vw ar.c xs))] (.i (cro xs)):=by
 have cB:=na xs hl
 have hK:=Hf xs
 obtain⟨n,hn⟩:∃n:Int,n=(xs.length:Int):=⟨_,rfl⟩
 obtain⟨R,hR⟩:=nmE (cro xs)
 have ha:∀p,GQ xs p=if 12<n then 0 else cl (if p.2.2=true/\p.1<wrap64 (bas xs+p.2.1)then wrap64 (bas xs+p.2.1)else p.1):=fun p=>by rw [hn];rfl
 rw [<-hR]at hK
 rw [<-hR]
 obtain⟨B0,hb⟩:=nmE (bas xs);(try rw [<-hb]at cB);(try rw [<-hb]at ha)
 obtain⟨KK,hd⟩:=nmE (GQ xs);(try rw [<-hd]at ha);(try rw [<-hd]at hK)
 obtain⟨V,hV⟩:=nmE (vw ar.c xs)
 have hj:=lmV hV
 have iV:=imV hV
 have kV:=kmV (k:=7) hV fun _=>rfl
 have dV:=dmV hV
 rw [<-hV]at cB
 rw [<-hV]
 have hf:aX V=n:=by rw [hV,aQ,hn]
 refine ae (aJ f266) ay func266 fun g F hg hF=> ?_
 have t4:g .ln V=n:=by rw [bF hg,hf]
 have t0:g .q .gtr (n) (12)=decide ((12)<(n)):=cu hg _ _
 cbv
 refine aY hg ay (by kernel_rfl) V (fun x=>lc (ar.c x)) xs hV hl (fun z(s:Int×Int×Bool)=>[(0,.v V),(3,.i (s.1)),(4,.i (s.2.1)),(5,.t (abl (s.2.2))),(6,.i (z))]) (fun z(s:Int×Int×Bool)=>[]) (fun z(s:Int×Int×Bool)=>True) (fun(s:Int×Int×Bool) rest=>if rest.all tA=true then KK (cr2 s.1 s.2.1 s.2.2 rest)else 0) (R) ((0:Int),(0:Int),false) hK trivial (Wk.weak (wkG [] zr5 trivial (by decide) aD)) (fun z s B hz h0 hi he=> ?_) (fun z s x rest B z0 z1 z2 hx hy h0 hi hc e1 hB=> ?_)
 ·obtain⟨m,b,f⟩:=s
  change KK (m,b,f)=R at h0
  rw [ha]at h0
  dsimp only at h0
  obtain⟨S,hS⟩:=nmE (wrap64 (B0+b));(try rw [<-hS]at h0)
  have eS:g .w .add .i64 B0 b=S:=by rw [aN hg,hS]
  have t1:g .q .gtr (S) (m)=decide ((m)<(S)):=cu hg _ _
  obtain⟨Q,hQ⟩:∃Q,Q=if f=true/\m<S then S else m:=⟨_,rfl⟩
  rw [<-hQ]at h0
  have cC:=aG Q
  cbv;rw [he];cbv
  rw [t4]
  by_cases h1:12<n
  ·(first|rw [zqu h1]at t0|rw [zqt h1]at t0|rw [zqu (Classical.not_not.2 h1)]at t0|rw [zqt (Classical.not_not.2 h1)]at t0)
   rw [if_pos h1]at h0
   (repeat'(rw [t0];cbv))
   exact aV hF h0
  ·(first|rw [zqu h1]at t0|rw [zqt h1]at t0|rw [zqu (Classical.not_not.2 h1)]at t0|rw [zqt (Classical.not_not.2 h1)]at t0)
   rw [if_neg h1]at h0
   obtain⟨C,hC⟩:=nmE (cl Q);(try rw [<-hC]at cC);(try rw [<-hC]at h0)
   (repeat'(rw [t0];cbv))
   by_cases hh:m<S
   all_goals
    (first|rw [zqu hh]at t1|rw [zqt hh]at t1|rw [zqu (Classical.not_not.2 hh)]at t1|rw [zqt (Classical.not_not.2 hh)]at t1)
    cases f
   all_goals
    simp only [hh,and_true,and_false,Bool.false_eq_true,if_false,if_true]at hQ
    subst hQ
    ((repeat'((first|rw [eS]|rw [t1]|refine ad hg cB ?_|refine ad hg cC ?_);cbv)))
    exact aV hF h0
 ·obtain⟨y0,y1,y2,y3,y4,y5,y6⟩:=x
  obtain⟨m,b,f⟩:=s
  have cO:=m7 ⟨y0,y1,y2,y3,y4,y5,y6⟩
  have cS:=mX ⟨y0,y1,y2,y3,y4,y5,y6⟩
  rw [zqD]at h0
  simp only [cr2]at h0
  obtain⟨o,ho⟩:=nmE (onB ⟨y0,y1,y2,y3,y4,y5,y6⟩);(try rw [<-ho]at cO);(try rw [<-ho]at h0)
  obtain⟨k,hk⟩:=nmE (tA ⟨y0,y1,y2,y3,y4,y5,y6⟩);(try rw [<-hk]at cS);(try rw [<-hk]at h0)
  obtain⟨S,hS⟩:=nmE (wrap64 (wrap64 (y0+y2)-y6));(try rw [<-hS]at h0)
  obtain⟨T,hT⟩:=nmE (wrap64 (wrap64 (y0+y1)+y2));(try rw [<-hT]at h0)
  have eS:g .w .sub .i64 (g .w .add .i64 y0 y2) y6=S:=by rw [aN hg,bZ hg,hS]
  have eT:g .w .add .i64 (g .w .add .i64 y0 y1) y2=T:=by rw [aN hg,aN hg,hT]
  have t1:g .q .gtr (S) (b)=decide ((b)<(S)):=cu hg _ _
  have t2:g .q .gtr (T) (m)=decide ((m)<(T)):=cu hg _ _
  clear hS hT ho hk hK ha
  cbv;rw [hc];cbv;refine goX hg _ z0 hy rfl ?_;cbv
  cases k
  ·(repeat'(refine ad hg cS ?_;cbv))
   exact aV hF h0
  ·rw [Bool.true_and]at h0
   cases o
   ·(repeat'((first|rw [eT]|refine ad hg cS ?_|refine ad hg cO ?_);cbv))
    by_cases hh:m<T
    ·(first|rw [zqu hh]at t2|rw [zqt hh]at t2|rw [zqu (Classical.not_not.2 hh)]at t2|rw [zqt (Classical.not_not.2 hh)]at t2)
     (repeat'((first|rw [eT]|rw [t2]|rw [e1]);cbv))
     exact hB ((T,b,f)) _ _ ⟨(by simpa [hh]using h0),trivial⟩ (Wk.weak (wkG [] zr5 trivial (by decide) aD))
    ·(first|rw [zqu hh]at t2|rw [zqt hh]at t2|rw [zqu (Classical.not_not.2 hh)]at t2|rw [zqt (Classical.not_not.2 hh)]at t2)
     (repeat'((first|rw [t2]|rw [e1]);cbv))
     exact hB ((m,b,f)) _ _ ⟨(by simpa [hh]using h0),trivial⟩ (Wk.weak (wkG [] zr5 trivial (by decide) aD))
   ·(repeat'((first|rw [eS]|refine ad hg cS ?_|refine ad hg cO ?_);cbv))
    by_cases hh:b<S
    all_goals
     (first|rw [zqu hh]at t1|rw [zqt hh]at t1|rw [zqu (Classical.not_not.2 hh)]at t1|rw [zqt (Classical.not_not.2 hh)]at t1)
     cases f
    all_goals
     try cbv
     ((repeat'((first|rw [t1]|rw [e1]);cbv)))
     first
      |(exact hB ((m,S,true)) _ _ ⟨(by simpa [hh]using h0),trivial⟩ (Wk.weak (wkG [] zr5 trivial (by decide) aD)))
      |(exact hB ((m,b,true)) _ _ ⟨(by simpa [hh]using h0),trivial⟩ (Wk.weak (wkG [] zr5 trivial (by decide) aD)))
def qi(room:Int):List aO->aO×Bool
 | []=>(⟨0,0,0⟩,false)
 |r::rs=>if room= -1\/r.room<=room then(r,true)else qi room rs
theorem wD(room:Int):∀rs:List aO,wnt rs room=(cl (qi room rs).1.wide,cl (qi room rs).1.high)
 | []=>rfl
 |r::rs=>by
  unfold wnt qi
  by_cases h:room= -1\/r.room<=room
  ·rw [if_pos h,List.find?_cons_of_pos (by simpa using h)]
  ·rw [if_neg h,List.find?_cons_of_neg (by simpa using h)]
   exact wD room rs
theorem C9(room:Int):∀rs:List aO,(qi room rs).2=false->(qi room rs).1=⟨0,0,0⟩
 | [],_=>rfl
 |r::rs,h=>by
  unfold qi at h⊢
  by_cases h1:room= -1\/r.room<=room
  ·rw [if_pos h1]at h;cases h
  ·rw [if_neg h1]at h⊢;exact C9 room rs h
theorem s4{F:List AT->EH->Prop}{eh:EH}{a b c:Int}{q:Bool}{R:aO×Bool}(hF:F=mA 0 (fun res h'=>∃rows,h'=rows.map .live/\(res= .tup [.agg [.J R.1.room,.J R.1.wide,.J R.1.high],.c (.B R.2)]/\rows=[])))(h:(⟨⟨a,b,c⟩,q⟩:aO×Bool)=R):F [.agg [.J a,.J b,.J c],.c (.B q)] eh:=by
 subst h;exact fg hF rfl ⟨rfl,rfl⟩
theorem si(rs:List aO)(room:Int)(hl:rs.length<=1048576):PC0 231 [.agg [.view (vw aO.c rs)],ai room] (.tup [.agg [.imm (.int .i64 (qi room rs).1.room),.imm (.int .i64 (qi room rs).1.wide),.imm (.int .i64 (qi room rs).1.high)],.c (.imm (.bool (qi room rs).2))]):=by
 obtain⟨V,hV⟩:=nmE (vw aO.c rs)
 have ha:=lmV hV
 have iV:=imV hV
 have kV:=kmV (k:=3) hV fun _=>rfl
 have dV:=dmV hV
 obtain⟨R,hR⟩:=nmE (qi room rs)
 rw [<-hV,<-hR]
 refine ae (aJ f231) ay func231 fun g F hg hF=> ?_
 have t0:g .q .eql (room) ((-1))=decide ((room)=((-1))):=by rw [bj hg];exact zqn _ _
 cbv
 refine aY hg ay (by kernel_rfl) V (fun x=>lc (aO.c x)) rs hV hl (fun z(s:Unit)=>[(1,.i (room)),(4,.p 0),(9,.v V),(10,.i (g .ln V)),(11,.i (z))]) (fun z(s:Unit)=>[.bx 147 3 [.J 0,.J 0,.J 0]]) (fun z(s:Unit)=>True) (fun(s:Unit) rest=>qi room rest) (R) () hR.symm trivial (Wk.weak (wkG [some 1] zr5 ⟨wqE rfl rfl,trivial⟩ (by decide) aD)) (fun z s B hz h0 hi he=> ?_) (fun z s x rest B z0 z1 z2 hx hy h0 hi hc e1 hB=> ?_)
 ·cbv;rw [he];cbv
  exact s4 hF h0
 ·obtain⟨y0,y1,y2⟩:=x
  simp only [qi]at h0
  have t1:g .q .leq (y0) (room)=decide ((y0)<=(room)):=iy hg _ _
  cbv;rw [hc];cbv;refine goX hg _ z0 hy rfl ?_;cbv
  by_cases h1:room= -1
  ·(first|rw [zqu h1]at t0|rw [zqt h1]at t0|rw [zqu (Classical.not_not.2 h1)]at t0|rw [zqt (Classical.not_not.2 h1)]at t0)
   (repeat'(rw [t0];cbv))
   exact s4 hF (by simpa [h1]using h0)
  ·(first|rw [zqu h1]at t0|rw [zqt h1]at t0|rw [zqu (Classical.not_not.2 h1)]at t0|rw [zqt (Classical.not_not.2 h1)]at t0)
   by_cases h2:y0<=room
   ·(first|rw [zqu h2]at t1|rw [zqt h2]at t1|rw [zqu (Classical.not_not.2 h2)]at t1|rw [zqt (Classical.not_not.2 h2)]at t1)
    (repeat'((first|rw [t0]|rw [t1]);cbv))
    exact s4 hF (by simpa [h1,h2]using h0)
   ·(first|rw [zqu h2]at t1|rw [zqt h2]at t1|rw [zqu (Classical.not_not.2 h2)]at t1|rw [zqt (Classical.not_not.2 h2)]at t1)
    (repeat'((first|rw [t0]|rw [t1]|rw [e1]);cbv))
    exact hB (()) _ _ ⟨(by simpa [h1,h2]using h0),trivial⟩ (Wk.weak (wkG [some _] zr5 ⟨wqE rfl rfl,trivial⟩ (by decide) aD))
theorem rF(rs:List aO)(room:Int)(hl:rs.length<=1048576):PC0 226 [.agg [.view (vw aO.c rs)],ai room] (.tup [.agg [.imm (.int .i64 (qi room rs).1.room),.imm (.int .i64 (qi room rs).1.wide),.imm (.int .i64 (qi room rs).1.high)],.c (.imm (.bool (qi room rs).2))]):=by
 obtain⟨V,hV⟩:=nmE (vw aO.c rs)
 have ha:=lmV hV
 have iV:=imV hV
 have kV:=kmV (k:=3) hV fun _=>rfl
 have dV:=dmV hV
 obtain⟨R,hR⟩:=nmE (qi room rs)
 rw [<-hV,<-hR]
 refine ae (aJ f226) ay func226 fun g F hg hF=> ?_
 have t0:g .q .eql (room) ((-1))=decide ((room)=((-1))):=by rw [bj hg];exact zqn _ _
 cbv
 refine aY hg ay (by kernel_rfl) V (fun x=>lc (aO.c x)) rs hV hl (fun z(s:Unit)=>[(1,.i (room)),(2,.p 0),(4,.p 1),(6,.i (z))]) (fun z(s:Unit)=>[.bx 67 1 [.view V],.bx 147 3 [.J 0,.J 0,.J 0]]) (fun z(s:Unit)=>True) (fun(s:Unit) rest=>qi room rest) (R) () hR.symm trivial (Wk.weak (wkG [some _,some _] zr4 ⟨wqE rfl rfl,wqE rfl rfl,trivial⟩ (by decide) aD)) (fun z s B hz h0 hi he=> ?_) (fun z s x rest B z0 z1 z2 hx hy h0 hi hc e1 hB=> ?_)
 ·cbv;rw [he];cbv
  exact s4 hF h0
 ·obtain⟨y0,y1,y2⟩:=x
  simp only [qi]at h0
  have t1:g .q .leq (y0) (room)=decide ((y0)<=(room)):=iy hg _ _
  cbv
  rw [hc]
  cbv
  by_cases h1:room= -1
  ·(first|rw [zqu h1]at t0|rw [zqt h1]at t0|rw [zqu (Classical.not_not.2 h1)]at t0|rw [zqt (Classical.not_not.2 h1)]at t0)
   (repeat'((first|rw [t0]|refine goX hg _ (by omega) hy rfl ?_);cbv))
   exact s4 hF (by simpa [h1]using h0)
  ·(first|rw [zqu h1]at t0|rw [zqt h1]at t0|rw [zqu (Classical.not_not.2 h1)]at t0|rw [zqt (Classical.not_not.2 h1)]at t0)
   by_cases h2:y0<=room
   ·(first|rw [zqu h2]at t1|rw [zqt h2]at t1|rw [zqu (Classical.not_not.2 h2)]at t1|rw [zqt (Classical.not_not.2 h2)]at t1)
    (repeat'((first|rw [t0]|rw [t1]|refine goX hg _ (by omega) hy rfl ?_);cbv))
    exact s4 hF (by simpa [h1,h2]using h0)
   ·(first|rw [zqu h2]at t1|rw [zqt h2]at t1|rw [zqu (Classical.not_not.2 h2)]at t1|rw [zqt (Classical.not_not.2 h2)]at t1)
    (repeat'((first|rw [t0]|rw [t1]|rw [e1]|refine goX hg _ (by omega) hy rfl ?_);cbv))
    exact hB (()) _ _ ⟨(by simpa [h1,h2]using h0),trivial⟩ (Wk.weak (wkG [some _,some _] zr4 ⟨wqE rfl rfl,wqE rfl rfl,trivial⟩ (by decide) aD))
theorem qL(rs:List aO)(room:Int)(hl:rs.length<=1048576):PC0 171 [.agg [.view (vw aO.c rs)],ai room] (.tup [ai (wnt rs room).1,ai (wnt rs room).2]):=by
 have cR:=si rs room hl
 rw [wD]
 have ha:=C9 room rs
 obtain⟨V,hV⟩:=nmE (vw aO.c rs)
 have hb:=lmV hV
 have iV:=imV hV
 have kV:=kmV (k:=3) hV fun _=>rfl
 have dV:=dmV hV
 rw [<-hV]at cR
 rw [<-hV]
 obtain⟨R,hR⟩:=nmE (qi room rs);(try rw [<-hR]at cR);(try rw [<-hR]at ha);(try rw [<-hR]at⊢)
 obtain⟨⟨a,b,c⟩,q⟩:=R
 dsimp only at *
 have c1:=aK b
 have c2:=aK c
 refine ae (aJ f171) ay func171 fun g F hg hF=> ?_
 cbv
 repeat'(refine ad hg cR ?_;cbv)
 cases q
 ·have h:=ha rfl
  simp only [aO.mk.injEq]at h
  obtain⟨rfl,rfl,rfl⟩:=h
  try cbv
  exact qQ hF ⟨rfl,rfl⟩
 ·obtain⟨B,hB⟩:=nmE (cl b);(try rw [<-hB]at c1);(try rw [<-hB]at hF)
  obtain⟨C,hC⟩:=nmE (cl c);(try rw [<-hC]at c2);(try rw [<-hC]at hF)
  try cbv
  repeat'((first|refine aa hg c1 ?_|refine aa hg c2 ?_);cbv)
  exact qQ hF ⟨rfl,rfl⟩
theorem qa(rs:List aO)(room:Int)(hl:rs.length<=1048576):PC0 149 [.agg [.view (vw aO.c rs)],ai room] (.tup [ai (wnt rs room).1,ai (wnt rs room).2]):=by
 have cR:=rF rs room hl
 rw [wD]
 obtain⟨V,hV⟩:=nmE (vw aO.c rs)
 have ha:=lmV hV
 have iV:=imV hV
 have kV:=kmV (k:=3) hV fun _=>rfl
 have dV:=dmV hV
 rw [<-hV]at cR
 rw [<-hV]
 obtain⟨R,hR⟩:=nmE (qi room rs);(try rw [<-hR]at cR);(try rw [<-hR]at⊢)
 obtain⟨⟨a,b,c⟩,q⟩:=R
 dsimp only at *
 have c1:=aG b
 have c2:=aG c
 obtain⟨B,hB⟩:=nmE (cl b);(try rw [<-hB]at c1);(try rw [<-hB]at⊢)
 obtain⟨C,hC⟩:=nmE (cl c);(try rw [<-hC]at c2);(try rw [<-hC]at⊢)
 refine ae (aJ f149) ay func149 fun g F hg hF=> ?_
 cbv
 repeat'((first|refine ad hg cR ?_|refine aa hg c1 ?_|refine aa hg c2 ?_);cbv)
 exact qQ hF ⟨rfl,rfl⟩
theorem mD(cs:List Int)(gap inner ct:Int)(hl:cs.length<=64):dc prog 267 [.c (.view (vw ak cs)),ai gap,ai inner,ai ct] fun res hq=>res= .o 0/\hq=[⟨3,1,vw ak (wu cs gap inner ct)⟩]:=by
 have cT:=fV cs gap (by omega)
 have cA:=kQ cs gap inner (by omega)
 have cE:=eb (wrap64 (inner-crt cs gap)) (cs.length:Int)
 have hb:(evn (wrap64 (inner-crt cs gap)) (cs.length:Int)).length=cs.length:=by rw [gP];have:=nN (many:=(cs.length:Int)) (by omega) (by omega);omega
 obtain⟨R,hR⟩:=nmE (wu cs gap inner ct)
 rw [<-hR]
 unfold wu at hR
 obtain⟨T,hT⟩:=nmE (crt cs gap);(try rw [<-hT]at cT);(try rw [<-hT]at cE);(try rw [<-hT]at hb);(try rw [<-hT]at hR)
 obtain⟨D,hD⟩:=nmE (wrap64 (inner-T));(try rw [<-hD]at cE);(try rw [<-hD]at hb);(try rw [<-hD]at hR)
 obtain⟨A,hA⟩:=nmE (acr cs gap inner);(try rw [<-hA]at cA);(try rw [<-hA]at hR)
 obtain⟨ev,ho⟩:=nmE (evn D (cs.length:Int));(try rw [<-ho]at cE);(try rw [<-ho]at hb);(try rw [<-ho]at hR)
 obtain⟨V,hV⟩:=nmE (vw ak cs)
 have hE:=lmV hV
 have iV:=imV hV
 have kV:=kmV (k:=1) hV fun _=>rfl
 have dV:=dmV hV
 have hs:aX V=(cs.length:Int):=by rw [hV,aQ]
 have pV:=pmV hV
 rw [<-hV]at cT cA
 rw [<-hV]
 obtain⟨n,hn⟩:=nmE ((cs.length:Int));(try rw [<-hn]at hs);(try rw [<-hn]at cE)
 have kV:=kmV (k:=1) hV fun _=>rfl
 have ha:ev.length=cs.length->(cs.zip ev).length=cs.length:=fun h=>by rw [zqB,h];omega
 replace ha:=ha hb
 have hp:(vw ak ev)=(cs.zip ev).map (fun t=>lc (ak t.2)):=by
  have:∀(a b:List Int),b.length=a.length->vw ak b=(a.zip b).map (fun t=>lc (ak t.2)):=by
   intro a
   induction a with
   |nil=>intro b h;rw [zqv h];rfl
   |cons x a ih=>
    intro b h
    cases b with
    |nil=>simp at h
    |cons y b=>rw [List.zip_cons_cons,zqA,<-ih b (by simpa using h)];rfl
  exact this _ _ hb
 have hv:∀{i:Nat}{t:Int×Int},(cs.zip ev)[i]? =some t->cs[i]? =some t.1:=fun{i t} h=>by
  have:=List.getElem?_zip_eq_some.1 h
  exact this.1
 obtain⟨zs,hm⟩:=nmE (cs.zip ev);(try rw [<-hm]at ha);(try rw [<-hm]at hp);(try rw [<-hm]at hR)
 obtain⟨Y,hY⟩:=nmE (vw ak ev);(try rw [<-hY]at cE);(try rw [<-hY]at hp)
 rw [<-hm]at hv
 have hM:0<=n/\n<=64:=by omega
 have hI:zs.length<=1048576:=by omega
 refine ae (aJ f267) ay func267 fun g F hg hF=> ?_
 have t4:g .ln V=n:=by rw [bF hg,hs]
 have e1:g .w .sub .i64 inner T=D:=by rw [bZ hg,hD]
 have q1:g .q .neq (ct) (1)=decide (¬(ct)=(1)):=by rw [bn hg];exact dN _ _
 have q2:g .q .leq (D) (0)=decide ((D)<=(0)):=iy hg _ _
 have hh:∀e0,R=cs->F [.c (.own 1)] [e0,.rw ⟨3,1,V⟩]:=fun e0 h=>by rw [h,<-hV]at hF;exact bR hF rfl pV
 have hG:V.length<=1048576:=by rw [hE];omega
 cases hA2:A
 ·rw [hA2]at cA hR
  simp only [Bool.false_eq_true,false_and,if_false]at hR
  cbv
  refine goN hg ⟨kV,(by show(0+V.length)*8<=_;omega),(by show 0+V.length<=_;omega)⟩ ?_
  cbv
  rw [gd hg]
  dsimp only [List.nil_append]
  cbv
  (repeat'(refine ad hg cA ?_;cbv))
  exact hh _ hR
 rw [hA2]at cA hR
 by_cases h1:ct=1
 rotate_left
 ·rw [zqu h1]at q1
  simp only [h1,false_and,and_false,if_false]at hR
  cbv
  refine goN hg ⟨kV,(by show(0+V.length)*8<=_;omega),(by show 0+V.length<=_;omega)⟩ ?_
  cbv
  rw [gd hg]
  dsimp only [List.nil_append]
  cbv
  (repeat'((first|rw [e1]|rw [q1]|refine ad hg cT ?_|refine ad hg cA ?_);cbv))
  exact hh _ hR
 rw [zqt (Classical.not_not.2 h1)]at q1
 by_cases h2:0<D
 rotate_left
 ·rw [zqu (show D<=0 by omega)]at q2
  simp only [h1,h2,and_false,if_false]at hR
  cbv
  refine goN hg ⟨kV,(by show(0+V.length)*8<=_;omega),(by show 0+V.length<=_;omega)⟩ ?_
  cbv
  rw [gd hg]
  dsimp only [List.nil_append]
  cbv
  (repeat'((first|rw [e1]|rw [q1]|rw [q2]|refine ad hg cT ?_|refine ad hg cA ?_);cbv))
  exact hh _ hR
 rw [zqt (show¬D<=0 by omega)]at q2
 simp only [h1,h2,and_self,if_true]at hR
 replace hV:V=vw ak cs:=hV
 cbv
 refine goN hg ⟨kV,(by show(0+V.length)*8<=_;omega),(by show 0+V.length<=_;omega)⟩ ?_
 cbv
 rw [gd hg]
 dsimp only [List.nil_append]
 cbv
 (repeat'((first|rw [e1]|rw [q1]|rw [q2]|rw [t4]|refine ad hg cT ?_|refine ad hg cA ?_|refine ad hg cE ?_);cbv))
 have hY:Y=zs.map (fun t=>lc (ak t.2)):=hp
 refine aY hg ay (by kernel_rfl) Y (fun t=>lc (ak t.2)) zs hY hI (fun z(s:List Int×LLA)=>[(9,.o 0),(11,.v Y),(12,.i (z))]) (fun z(s:List Int×LLA)=>[.rw ⟨3,1,s.2⟩]) (fun z(s:List Int×LLA)=>s.2=vw ak (s.1++cs.drop z.toNat)/\s.1.length=z.toNat) (fun(s:List Int×LLA) rest=>s.1++rest.map (fun p=>wrap64 (p.1+p.2))) (R) ([],V) (by rw [hR];rfl) ⟨by rw [hV];rfl,rfl⟩ (Wk.weak (wkG [some 1] zr3 ⟨wqE rfl pV,trivial⟩ (by decide) aD)) (fun z s B hz h0 hi he=> ?_) (fun z s x rest B z0 z1 z2 hx hy h0 hi hc e1 hB=> ?_)
 ·obtain⟨hk,E⟩:=s
  obtain⟨i1,i2⟩:=hi
  dsimp only at i1 i2 h0
  have pE:=pmV i1
  have:cs.drop z.toNat=[]:=List.drop_eq_nil_of_le (by rw [<-ha,hz,hY,az,zql];omega)
  have hN:z=(cs.length:Int):=by rw [hz,hY,az,zql,ha]
  obtain rfl:hk=R:=by simpa using h0
  rw [this,List.append_nil]at i1
  rw [<-i1]at hF
  have eE:g .ln E=g .ln Y:=by rw [bF hg,bF hg,i1,hY,aQ,az,zql,ha];omega
  cbv
  rw [eE,he]
  cbv
  exact bR hF rfl pE
 ·obtain⟨hk,E⟩:=s
  obtain⟨x0,x1⟩:=x
  obtain⟨i1,i2⟩:=hi
  dsimp only at i1 i2 h0 hy
  have ht:=hv hx
  have hJ:z.toNat<cs.length:=(List.getElem?_eq_some_iff.1 ht).1
  have hw:z<aX E:=by rw [i1,aQ];simp;omega
  have hf:E[z.toNat]? =some [.J x0]:=by rw [i1];exact bf (by rw [uG i2];exact ht)
  have hd:E.set z.toNat [.J (wrap64 (x0+x1))]=vw ak ((hk++[wrap64 (x0+x1)])++cs.drop (z.toNat+1)):=by rw [i1,<-tB i2 hJ,<-mB];rfl
  have e2:g .w .add .i64 x0 x1=wrap64 (x0+x1):=aN hg _ _
  have hC:(hk++[wrap64 (x0+x1)])++rest.map (fun p=>wrap64 (p.1+p.2))=R:=by rw [<-h0];simp
  have nl:(hk++[wrap64 (x0+x1)]).length=(z+1).toNat:=by simp;omega
  rw [show z.toNat+1=(z+1).toNat by omega]at hd
  generalize wrap64 (x0+x1)=Q at *
  obtain⟨E2,hr⟩:∃E2,E2=E.set z.toNat [.J Q]:=⟨_,rfl⟩
  rw [<-hr]at hd
  have hK:=pmV hd
  have eE:g .ln E=g .ln Y:=by rw [bF hg,bF hg,az,az,i1,hY,aq,zql];simp;omega
  cbv
  rw [eE,hc]
  cbv
  refine goY hg z0 hw fun j hj hL=> ?_
  cbv
  refine⟨_,by rw [hj];exact hf,?_⟩
  cbv
  refine goX hg _ z0 hy rfl ?_
  cbv
  rw [e2]
  refine goY hg z0 hw fun j2 hu hH=> ?_
  cbv
  refine goN hg ⟨_,by rw [hu];exact hf,rfl⟩ ?_
  cbv
  rw [mP hg,hu,e1]
  dsimp only [AT.cells]
  rw [<-hr]
  exact hB ((hk++[Q],E2)) _ _ ⟨hC,⟨hd,nl⟩⟩ (Wk.weak (wkG [some 0] zr3 ⟨wqE rfl hK,trivial⟩ (by decide) aD))
end Go.Proofs.YtckchgoblpgpbaaGreat
