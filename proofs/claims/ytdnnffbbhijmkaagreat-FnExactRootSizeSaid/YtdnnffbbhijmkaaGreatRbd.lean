/- Weights, shares, items: contracts. -/
import Derived.Test.YtdnnffbbhijmkaaGreatRbc
set_option linter.unusedVariables false
set_option linter.unusedSimpArgs false
set_option maxHeartbeats 1600000
namespace Go.Proofs.YtdnnffbbhijmkaaGreat
open Go.ChangeShapes Go.WideShapes Go.ChangeAt Go.RowKit Am Go.Proofs.Tryz
set_option maxRecDepth 100000
theorem oL(ws:List Int)(hl:ws.length≤1048576):PC0 371 [.c (.view (vw ao ws))] (.t (abl (yG ws))):=by
 obtain⟨V,hV⟩:=nmE (vw ao ws)
 have hVl:V.length=ws.length:=by rw [hV,af]
 have iV:bQ V=true:=by rw [hV];exact aI _ _
 have kV:∀y∈V,y.length=1:=by rw [hV];exact bL (c:=ao) (k:=1) fun _=>rfl
 have dV:∀y∈V,y.all dat=true:=by rw [hV];exact az
 have hVx:bg V=(ws.length:Int):=by rw [hV,aM]
 rw [←hV]
 refine ae (aN f371) aB func371 fun g F hg hF=> ?_
 cbv
 refine ba hg aB (by kernel_rfl) V (fun x=>lc (ao x)) ws hV hl (fun z(s:Unit)=>[(0,.v V),(5,.v V),(6,.t (ai (g .ln V))),(7,.t (ai (z)))]) (fun z(s:Unit)=>[]) (fun z(s:Unit)=>True) (fun(s:Unit) rest=>rest.all (fun w=>rng w 0 1073741824)&&decide ((ws.length:Int)≤64)) (yG ws) () rfl trivial (Wk.weak (wkG [] ⟨rfl,rfl,rfl,rfl,trivial⟩ trivial (by decide) aG)) (fun z s B hz h0 hi he=> ?_) (fun z s x rest B z0 z1 z2 hx hy h0 hi hc e1 hB=> ?_)
 ·cbv;rw [he];cbv
  exact bn hF (by rw [ib hg,bK hg,hVx,←h0];rfl)
 ·cbv;rw [hc];cbv;refine goX hg _ z0 hy rfl ?_;cbv
  repeat'(first|(refine br hg (bZ _ _ _) rfl (fun R0 hR0=> ?_);cases R0<;>cbv)|(refine aZ hg (bZ _ _ _) rfl (fun R0 hR0=> ?_);cases R0<;>cbv))
  ·exact bn hF (by rw [←h0,zqD,←hR0];rfl)
  ·rw [e1]
   exact hB (()) _ _ ⟨by rw [←h0,zqD,←hR0];rfl,trivial⟩ (Wk.weak (wkG [] ⟨rfl,rfl,rfl,rfl,trivial⟩ trivial (by decide) aG))
theorem ox(ws:List Int)(hl:ws.length≤1048576):PC0 370 [.c (.view (vw ao ws))] (.t (abl (yG ws))):=by
 obtain⟨V,hV⟩:=nmE (vw ao ws)
 have hVl:V.length=ws.length:=by rw [hV,af]
 have iV:bQ V=true:=by rw [hV];exact aI _ _
 have kV:∀y∈V,y.length=1:=by rw [hV];exact bL (c:=ao) (k:=1) fun _=>rfl
 have dV:∀y∈V,y.all dat=true:=by rw [hV];exact az
 have hVx:bg V=(ws.length:Int):=by rw [hV,aM]
 rw [←hV]
 refine ae (aN f370) aB func370 fun g F hg hF=> ?_
 cbv
 refine ba hg aB (by kernel_rfl) V (fun x=>lc (ao x)) ws hV hl (fun z(s:Unit)=>[(0,.v V),(3,.t (ai (z)))]) (fun z(s:Unit)=>[]) (fun z(s:Unit)=>True) (fun(s:Unit) rest=>rest.all (fun w=>rng w 0 1073741824)&&decide ((ws.length:Int)≤64)) (yG ws) () rfl trivial (Wk.weak (wkG [] ⟨rfl,rfl,trivial⟩ trivial (by decide) aG)) (fun z s B hz h0 hi he=> ?_) (fun z s x rest B z0 z1 z2 hx hy h0 hi hc e1 hB=> ?_)
 ·cbv;rw [he];cbv
  exact bn hF (by rw [ib hg,bK hg,hVx,←h0];rfl)
 ·cbv;rw [hc];cbv;refine goX hg _ z0 hy rfl ?_;cbv
  repeat'(first|(refine br hg (bp _ _ _) rfl (fun R0 hR0=> ?_);cases R0<;>cbv)|(refine aZ hg (bp _ _ _) rfl (fun R0 hR0=> ?_);cases R0<;>cbv))
  ·exact bn hF (by rw [←h0,zqD,←hR0];rfl)
  ·rw [e1]
   exact hB (()) _ _ ⟨by rw [←h0,zqD,←hR0];rfl,trivial⟩ (Wk.weak (wkG [] ⟨rfl,rfl,trivial⟩ trivial (by decide) aG))
theorem m9(n:Int)(ws:List Int)(hl:ws.length≤1048576):dg prog 364 [ai n,.c (.view (vw ao ws))] fun res rows=>res= .o 0∧rows=[⟨3,1,vw ao (shr n ws)⟩]:=by
 have cw:=oL ws hl
 obtain⟨V,hV⟩:=nmE (vw ao ws)
 have hVl:V.length=ws.length:=by rw [hV,af]
 have iV:bQ V=true:=by rw [hV];exact aI _ _
 have kV:∀y∈V,y.length=1:=by rw [hV];exact bL (c:=ao) (k:=1) fun _=>rfl
 have dV:∀y∈V,y.all dat=true:=by rw [hV];exact az
 obtain⟨GV,hGV⟩:=nmE (vw ao (shr n ws))
 obtain⟨A,hA⟩:=nmE (n6 0 ws)
 obtain⟨w,hw⟩:=nmE (yG ws)
 rw [←hV,←hw]at cw
 rw [←hV,←hGV]
 refine ae (aN f364) aB func364 fun g F hg hF=> ?_
 cbv
 repeat'(first|(refine br hg cw rfl (fun R0 hR0=> ?_);cases R0<;>cbv)|(refine aZ hg cw rfl (fun R0 hR0=> ?_);cases R0<;>cbv))
 ·have e:GV=[]:=by rw [hGV,shr,if_neg (by rw [←hw,←hR0];simp)];rfl
  subst e
  exact zX _ _ hF ⟨rfl,rfl⟩
 repeat'((first|refine bm hg (cj _) rfl (fun R0 hR0=> ?_)|refine aU hg (cj _) rfl (fun R0 hR0=> ?_));cbv)
 have hG:shr n ws=shG R0 A 0 ws:=by rw [shr,if_pos (by rw [←hw];simp_all),hA];simp_all
 refine ba hg aB (by kernel_rfl) V (fun x=>lc (ao x)) ws hV hl (fun z(s:Int)=>[(0,.t (ai (R0))),(1,.v V),(5,.t (ai (s))),(17,.v V),(18,.t (ai (g .ln V))),(19,.t (ai (z)))]) (fun z(s:Int)=>[]) (fun z(s:Int)=>True) (fun(s:Int) rest=>n6 s rest) (A) 0 hA.symm trivial (Wk.weak (wkG [] ⟨rfl,rfl,rfl,rfl,rfl,rfl,trivial⟩ trivial (by decide) aG)) (fun z s B hz h0 hi he=> ?_) (fun z s x rest B z0 z1 z2 hx hy h0 hi hc e1 hB=> ?_)
 rotate_left
 ·cbv;rw [hc];cbv;refine goX hg _ z0 hy rfl ?_;cbv
  rw [e1,aK hg]
  exact hB (_) _ _ ⟨h0,trivial⟩ (Wk.weak (wkG [] ⟨rfl,rfl,rfl,rfl,rfl,rfl,trivial⟩ trivial (by decide) aG))
 cbv;rw [he];cbv
 obtain rfl:A=s:=h0.symm
 refine ba hg aB (by kernel_rfl) V (fun x=>lc (ao x)) ws hV hl (fun z(s:Int×List Int×List (List AC))=>[(0,.t (ai (R0))),(5,.t (ai (A))),(8,.o 0),(9,.t (ai (s.1))),(27,.v V),(28,.t (ai (g .ln V))),(29,.t (ai (z)))]) (fun z(s:Int×List Int×List (List AC))=>[.rw ⟨3,1,s.2.2⟩]) (fun z(s:Int×List Int×List (List AC))=>s.2.2=vw ao s.2.1∧(s.2.1.length:Int)=z) (fun(s:Int×List Int×List (List AC)) rest=>s.2.1++shG R0 A s.1 rest) (shr n ws) (0,[],[]) (by simpa using hG.symm) ⟨rfl,rfl⟩ (Wk.weak (wkG [none] ⟨rfl,rfl,rfl,rfl,rfl,rfl,rfl,trivial⟩ ⟨⟨_,rfl,rfl⟩,trivial⟩ (by decide) aG)) (fun z s B hz h0 hi he=> ?_) (fun z s x rest B z0 z1 z2 hx hy h0 hi hc e1 hB=> ?_)
 ·obtain⟨q,out,es⟩:=s
  obtain⟨i1,i2⟩:=hi
  dsimp only at i1 i2 h0
  cbv;rw [he];cbv
  obtain rfl:es=GV:=by simp only [shG,List.append_nil]at h0;rw [i1,hGV,←h0]
  exact bR hF rfl (by rw [hGV];exact ag _ _)
 ·obtain⟨q,out,es⟩:=s
  obtain⟨i1,i2⟩:=hi
  dsimp only at i1 i2 h0
  have hel:es.length≤1048576:=by rw [i1,af];omega
  have pe:ah es=true:=by rw [i1];exact ag _ _
  cbv;rw [hc];cbv;refine goX hg _ z0 hy rfl ?_;cbv
  (first|refine bm hg (bI _ _) rfl (fun Q0 hQ0=> ?_)|refine aU hg (bI _ _) rfl (fun Q0 hQ0=> ?_));cbv
  (first|refine bm hg (bI _ _) rfl (fun Q1 hQ1=> ?_)|refine aU hg (bI _ _) rfl (fun Q1 hQ1=> ?_));cbv
  refine dp hg rfl (by decide) hel ?_
  cbv
  rw [e1,gy hg]
  have hx2:g .w .sub .i64 Q0 Q1=wrap64 (fdv (wrap64 (R0*wrap64 (q+x))) A-fdv (wrap64 (R0*q)) A):=by rw [hQ0,hQ1];simp only [aK hg,fP hg,de hg]
  rw [hx2,aK hg]
  exact hB ((_,out++[_],_)) _ _ ⟨(by simpa [shG]using h0),⟨by rw [i1,bz];rfl,by simp;omega⟩⟩ (Wk.weak (wkG [some _] ⟨rfl,rfl,rfl,rfl,rfl,rfl,rfl,trivial⟩ ⟨⟨_,_,rfl,rfl,rfl,rfl,.inl ⟨rfl,by rw [i1];exact iQ _ _ rfl⟩⟩,trivial⟩ (by decide) aG))
theorem my(n:Int)(ws:List Int)(hl:ws.length≤1048576):dg prog 363 [ai n,.c (.view (vw ao ws))] fun res rows=>res= .o 0∧rows=[⟨3,1,vw ao (shr n ws)⟩]:=by
 have cw:=ox ws hl
 obtain⟨V,hV⟩:=nmE (vw ao ws)
 have hVl:V.length=ws.length:=by rw [hV,af]
 have iV:bQ V=true:=by rw [hV];exact aI _ _
 have kV:∀y∈V,y.length=1:=by rw [hV];exact bL (c:=ao) (k:=1) fun _=>rfl
 have dV:∀y∈V,y.all dat=true:=by rw [hV];exact az
 obtain⟨GV,hGV⟩:=nmE (vw ao (shr n ws))
 obtain⟨A,hA⟩:=nmE (n6 0 ws)
 obtain⟨w,hw⟩:=nmE (yG ws)
 rw [←hV,←hw]at cw
 rw [←hV,←hGV]
 refine ae (aN f363) aB func363 fun g F hg hF=> ?_
 cbv
 repeat'(first|(refine br hg cw rfl (fun R0 hR0=> ?_);cases R0<;>cbv)|(refine aZ hg cw rfl (fun R0 hR0=> ?_);cases R0<;>cbv))
 ·have e:GV=[]:=by rw [hGV,shr,if_neg (by rw [←hw,←hR0];simp)];rfl
  subst e
  exact bR hF rfl rfl
 refine ba hg aB (by kernel_rfl) V (fun x=>lc (ao x)) ws hV hl (fun z(s:Int)=>[(0,.t (ai (n))),(1,.v V),(5,.o 0),(6,.t (ai (s))),(7,.t (ai (z)))]) (fun z(s:Int)=>[.rw ⟨3,1,[]⟩]) (fun z(s:Int)=>True) (fun(s:Int) rest=>n6 s rest) (A) 0 hA.symm trivial (Wk.weak (wkG [some _] ⟨rfl,rfl,rfl,rfl,rfl,trivial⟩ ⟨wqE rfl rfl,trivial⟩ (by decide) aG)) (fun z s B hz h0 hi he=> ?_) (fun z s x rest B z0 z1 z2 hx hy h0 hi hc e1 hB=> ?_)
 rotate_left
 ·cbv;rw [hc];cbv;refine goX hg _ z0 hy rfl ?_;cbv
  rw [e1,aK hg]
  exact hB (_) _ _ ⟨h0,trivial⟩ (Wk.weak (wkG [some _] ⟨rfl,rfl,rfl,rfl,rfl,trivial⟩ ⟨wqE rfl rfl,trivial⟩ (by decide) aG))
 cbv;rw [he];cbv
 obtain rfl:A=s:=h0.symm
 (first|refine bm hg (bO _) rfl (fun R0 hR0=> ?_)|refine aU hg (bO _) rfl (fun R0 hR0=> ?_));cbv
 have hG:shr n ws=shG R0 A 0 ws:=by rw [shr,if_pos (by rw [←hw];simp_all),hA,hR0]
 refine ba hg aB (by kernel_rfl) V (fun x=>lc (ao x)) ws hV hl (fun z(s:Int×List Int×List (List AC))=>[(0,.t (ai (R0))),(1,.v V),(5,.o 0),(6,.t (ai (A))),(8,.t (ai (s.1))),(9,.t (ai (z)))]) (fun z(s:Int×List Int×List (List AC))=>[.rw ⟨3,1,s.2.2⟩]) (fun z(s:Int×List Int×List (List AC))=>s.2.2=vw ao s.2.1∧(s.2.1.length:Int)=z) (fun(s:Int×List Int×List (List AC)) rest=>s.2.1++shG R0 A s.1 rest) (shr n ws) (0,[],[]) (by simpa using hG.symm) ⟨rfl,rfl⟩ (Wk.weak (wkG [some _] ⟨rfl,rfl,rfl,rfl,rfl,rfl,trivial⟩ ⟨wqE rfl rfl,trivial⟩ (by decide) aG)) (fun z s B hz h0 hi he=> ?_) (fun z s x rest B z0 z1 z2 hx hy h0 hi hc e1 hB=> ?_)
 ·obtain⟨q,out,es⟩:=s
  obtain⟨i1,i2⟩:=hi
  dsimp only at i1 i2 h0
  cbv;rw [he];cbv
  obtain rfl:es=GV:=by simp only [shG,List.append_nil]at h0;rw [i1,hGV,←h0]
  exact bR hF rfl (by rw [hGV];exact ag _ _)
 ·obtain⟨q,out,es⟩:=s
  obtain⟨i1,i2⟩:=hi
  dsimp only at i1 i2 h0
  have hel:es.length≤1048576:=by rw [i1,af];omega
  have pe:ah es=true:=by rw [i1];exact ag _ _
  cbv;rw [hc];cbv;refine goX hg _ z0 hy rfl ?_;cbv
  (first|refine bm hg (bH _ _) rfl (fun Q0 hQ0=> ?_)|refine aU hg (bH _ _) rfl (fun Q0 hQ0=> ?_));cbv
  (first|refine bm hg (bH _ _) rfl (fun Q1 hQ1=> ?_)|refine aU hg (bH _ _) rfl (fun Q1 hQ1=> ?_));cbv
  refine dp hg rfl (by decide) hel ?_
  cbv
  rw [e1,gy hg]
  have hx2:g .w .sub .i64 Q0 Q1=wrap64 (fdv (wrap64 (R0*wrap64 (q+x))) A-fdv (wrap64 (R0*q)) A):=by rw [hQ0,hQ1];simp only [aK hg,fP hg,de hg]
  rw [hx2,aK hg]
  exact hB ((_,out++[_],_)) _ _ ⟨(by simpa [shG]using h0),⟨by rw [i1,bz];rfl,by simp;omega⟩⟩ (Wk.weak (wkG [some _] ⟨rfl,rfl,rfl,rfl,rfl,rfl,trivial⟩ ⟨⟨_,_,rfl,rfl,rfl,rfl,.inl ⟨rfl,by rw [i1];exact iQ _ _ rfl⟩⟩,trivial⟩ (by decide) aG))
theorem mD(x:aj):PC0 337 [.agg (lc (aj.c x))] (.t (abl (ro x))):=by
 obtain⟨a0,a1,a2,a3,a4,a5,a6,a7,a8⟩:=x
 refine ae (aN f337) aB func337 fun g F hg hF=> ?_
 cbv
 repeat'(first|(refine br hg (bp _ _ _) rfl (fun R0 hR0=> ?_);cases R0<;>cbv)|(refine aZ hg (bp _ _ _) rfl (fun R0 hR0=> ?_);cases R0<;>cbv))
 all_goals exact bn hF (by simp only [ro];clear hF hg;simp_all)
theorem nm(x:aj):PC0 311 [.agg (lc (aj.c x))] (.t (abl (ro x))):=by
 obtain⟨a0,a1,a2,a3,a4,a5,a6,a7,a8⟩:=x
 refine ae (aN f311) aB func311 fun g F hg hF=> ?_
 cbv
 repeat'(first|(refine br hg (bZ _ _ _) rfl (fun R0 hR0=> ?_);cases R0<;>cbv)|(refine aZ hg (bZ _ _ _) rfl (fun R0 hR0=> ?_);cases R0<;>cbv))
 all_goals exact bn hF (by simp only [ro];clear hF hg;simp_all)
theorem iI(xs:List aj)(hl:xs.length≤1048576):PC0 254 [.c (.view (vw aj.c xs))] (.t (abl (dX xs))):=by
 obtain⟨V,hV⟩:=nmE (vw aj.c xs)
 have hVl:V.length=xs.length:=by rw [hV,af]
 have iV:bQ V=true:=by rw [hV];exact aI _ _
 have kV:∀y∈V,y.length=9:=by rw [hV];exact bL (c:=aj.c) (k:=9) fun _=>rfl
 have dV:∀y∈V,y.all dat=true:=by rw [hV];exact az
 have hVx:bg V=(xs.length:Int):=by rw [hV,aM]
 rw [←hV]
 refine ae (aN f254) aB func254 fun g F hg hF=> ?_
 cbv
 refine ba hg aB (by kernel_rfl) V (fun x=>lc (aj.c x)) xs hV hl (fun z(s:Unit)=>[(0,.v V),(5,.v V),(6,.t (ai (g .ln V))),(7,.t (ai (z)))]) (fun z(s:Unit)=>[]) (fun z(s:Unit)=>True) (fun(s:Unit) rest=>rest.all ro&&decide ((xs.length:Int)≤12)) (dX xs) () rfl trivial (Wk.weak (wkG [] ⟨rfl,rfl,rfl,rfl,trivial⟩ trivial (by decide) aG)) (fun z s B hz h0 hi he=> ?_) (fun z s x rest B z0 z1 z2 hx hy h0 hi hc e1 hB=> ?_)
 ·cbv;rw [he];cbv
  exact bn hF (by rw [ib hg,bK hg,hVx,←h0];rfl)
 ·cbv;rw [hc];cbv;refine goX hg _ z0 hy rfl ?_;cbv
  (first|refine br hg (nm x) rfl (fun R0 hR0=> ?_)|refine aZ hg (nm x) rfl (fun R0 hR0=> ?_));cbv
  cases R0<;>cbv
  ·exact bn hF (by rw [←h0,zqD,←hR0];rfl)
  ·rw [e1]
   exact hB (()) _ _ ⟨by rw [←h0,zqD,←hR0];rfl,trivial⟩ (Wk.weak (wkG [] ⟨rfl,rfl,rfl,rfl,trivial⟩ trivial (by decide) aG))
theorem iA(xs:List aj)(hl:xs.length≤1048576):PC0 307 [.c (.view (vw aj.c xs))] (.t (abl (dX xs))):=by
 obtain⟨V,hV⟩:=nmE (vw aj.c xs)
 have hVl:V.length=xs.length:=by rw [hV,af]
 have iV:bQ V=true:=by rw [hV];exact aI _ _
 have kV:∀y∈V,y.length=9:=by rw [hV];exact bL (c:=aj.c) (k:=9) fun _=>rfl
 have dV:∀y∈V,y.all dat=true:=by rw [hV];exact az
 have hVx:bg V=(xs.length:Int):=by rw [hV,aM]
 rw [←hV]
 refine ae (aN f307) aB func307 fun g F hg hF=> ?_
 cbv
 refine ba hg aB (by kernel_rfl) V (fun x=>lc (aj.c x)) xs hV hl (fun z(s:Unit)=>[(0,.v V),(3,.t (ai (z)))]) (fun z(s:Unit)=>[]) (fun z(s:Unit)=>True) (fun(s:Unit) rest=>rest.all ro&&decide ((xs.length:Int)≤12)) (dX xs) () rfl trivial (Wk.weak (wkG [] ⟨rfl,rfl,trivial⟩ trivial (by decide) aG)) (fun z s B hz h0 hi he=> ?_) (fun z s x rest B z0 z1 z2 hx hy h0 hi hc e1 hB=> ?_)
 ·cbv;rw [he];cbv
  exact bn hF (by rw [ib hg,bK hg,hVx,←h0];rfl)
 ·cbv;rw [hc];cbv;refine goX hg _ z0 hy rfl ?_;cbv
  (first|refine br hg (mD x) rfl (fun R0 hR0=> ?_)|refine aZ hg (mD x) rfl (fun R0 hR0=> ?_));cbv
  cases R0<;>cbv
  ·exact bn hF (by rw [←h0,zqD,←hR0];rfl)
  ·rw [e1]
   exact hB (()) _ _ ⟨by rw [←h0,zqD,←hR0];rfl,trivial⟩ (Wk.weak (wkG [] ⟨rfl,rfl,trivial⟩ trivial (by decide) aG))
theorem gV(xs:List aj)(hl:xs.length≤1048576):dg prog 253 [.c (.view (vw aj.c xs))] fun res rows=>res= .o 0∧rows=[⟨3,1,vw ao (xs.map hyp)⟩]:=by
 obtain⟨V,hV⟩:=nmE (vw aj.c xs)
 have hVl:V.length=xs.length:=by rw [hV,af]
 have iV:bQ V=true:=by rw [hV];exact aI _ _
 have kV:∀y∈V,y.length=9:=by rw [hV];exact bL (c:=aj.c) (k:=9) fun _=>rfl
 have dV:∀y∈V,y.all dat=true:=by rw [hV];exact az
 obtain⟨GV,hGV⟩:=nmE (vw ao (xs.map hyp))
 rw [←hV,←hGV]
 refine ae (aN f253) aB func253 fun g F hg hF=> ?_
 cbv
 refine ba hg aB (by kernel_rfl) V (fun x=>lc (aj.c x)) xs hV hl (fun z(s:List Int×List (List AC))=>[(3,.o 0),(6,.v V),(7,.t (ai (g .ln V))),(8,.t (ai (z)))]) (fun z(s:List Int×List (List AC))=>[.rw ⟨3,1,s.2⟩]) (fun z(s:List Int×List (List AC))=>s.2=vw ao s.1∧(s.1.length:Int)=z) (fun(s:List Int×List (List AC)) rest=>s.1++rest.map hyp) (xs.map hyp) ([],[]) rfl ⟨rfl,rfl⟩ (Wk.weak (wkG [none] ⟨rfl,rfl,rfl,rfl,trivial⟩ ⟨⟨_,rfl,rfl⟩,trivial⟩ (by decide) aG)) (fun z s B hz h0 hi he=> ?_) (fun z s x rest B z0 z1 z2 hx hy h0 hi hc e1 hB=> ?_)
 ·obtain⟨out,es⟩:=s
  obtain⟨i1,i2⟩:=hi
  dsimp only at i1 i2 h0
  cbv;rw [he];cbv
  obtain rfl:es=GV:=by simp only [List.map_nil,List.append_nil]at h0;rw [i1,hGV,←h0]
  exact bR hF rfl (by rw [hGV];exact ag _ _)
 ·obtain⟨out,es⟩:=s
  obtain⟨i1,i2⟩:=hi
  dsimp only at i1 i2 h0
  have hel:es.length≤1048576:=by rw [i1,af];omega
  cbv;rw [hc];cbv;refine goX hg _ z0 hy rfl ?_;cbv
  (first|refine bm hg (io x) rfl (fun Q0 hQ0=> ?_)|refine aU hg (io x) rfl (fun Q0 hQ0=> ?_));cbv
  refine dp hg rfl (by decide) hel ?_
  cbv
  rw [e1,gy hg]
  exact hB ((out++[_],_)) _ _ ⟨(by simpa [hQ0]using h0),⟨by rw [i1,bz,←hQ0];rfl,by simp;omega⟩⟩ (Wk.weak (wkG [some _] ⟨rfl,rfl,rfl,rfl,trivial⟩ ⟨⟨_,_,rfl,rfl,rfl,rfl,.inl ⟨rfl,by rw [i1];exact iQ _ _ rfl⟩⟩,trivial⟩ (by decide) aG))
theorem ix(xs:List aj)(hl:xs.length≤1048576):dg prog 339 [.c (.view (vw aj.c xs))] fun res rows=>res= .o 0∧rows=[⟨3,1,vw ao (xs.map hyp)⟩]:=by
 obtain⟨V,hV⟩:=nmE (vw aj.c xs)
 have hVl:V.length=xs.length:=by rw [hV,af]
 have iV:bQ V=true:=by rw [hV];exact aI _ _
 have kV:∀y∈V,y.length=9:=by rw [hV];exact bL (c:=aj.c) (k:=9) fun _=>rfl
 have dV:∀y∈V,y.all dat=true:=by rw [hV];exact az
 obtain⟨GV,hGV⟩:=nmE (vw ao (xs.map hyp))
 rw [←hV,←hGV]
 refine ae (aN f339) aB func339 fun g F hg hF=> ?_
 cbv
 refine ba hg aB (by kernel_rfl) V (fun x=>lc (aj.c x)) xs hV hl (fun z(s:List Int×List (List AC))=>[(0,.v V),(3,.o 0),(4,.t (ai (z)))]) (fun z(s:List Int×List (List AC))=>[.rw ⟨3,1,s.2⟩]) (fun z(s:List Int×List (List AC))=>s.2=vw ao s.1∧(s.1.length:Int)=z) (fun(s:List Int×List (List AC)) rest=>s.1++rest.map hyp) (xs.map hyp) ([],[]) rfl ⟨rfl,rfl⟩ (Wk.weak (wkG [some _] ⟨rfl,rfl,rfl,trivial⟩ ⟨wqE rfl rfl,trivial⟩ (by decide) aG)) (fun z s B hz h0 hi he=> ?_) (fun z s x rest B z0 z1 z2 hx hy h0 hi hc e1 hB=> ?_)
 ·obtain⟨out,es⟩:=s
  obtain⟨i1,i2⟩:=hi
  dsimp only at i1 i2 h0
  cbv;rw [he];cbv
  obtain rfl:es=GV:=by simp only [List.map_nil,List.append_nil]at h0;rw [i1,hGV,←h0]
  exact bR hF rfl (by rw [hGV];exact ag _ _)
 ·obtain⟨out,es⟩:=s
  obtain⟨i1,i2⟩:=hi
  dsimp only at i1 i2 h0
  have hel:es.length≤1048576:=by rw [i1,af];omega
  cbv;rw [hc];cbv;refine goX hg _ z0 hy rfl ?_;cbv
  (first|refine bm hg (ig x) rfl (fun Q0 hQ0=> ?_)|refine aU hg (ig x) rfl (fun Q0 hQ0=> ?_));cbv
  refine dp hg rfl (by decide) hel ?_
  cbv
  rw [e1,gy hg]
  exact hB ((out++[_],_)) _ _ ⟨(by simpa [hQ0]using h0),⟨by rw [i1,bz,←hQ0];rfl,by simp;omega⟩⟩ (Wk.weak (wkG [some _] ⟨rfl,rfl,rfl,trivial⟩ ⟨⟨_,_,rfl,rfl,rfl,rfl,.inl ⟨rfl,by rw [i1];exact iQ _ _ rfl⟩⟩,trivial⟩ (by decide) aG))
theorem dy(x:aj)(gr:Bool):PC0 345 [.agg (lc (aj.c x)),abl gr] (.t (ai (wgt gr x))):=by
 obtain⟨a0,a1,a2,a3,a4,a5,a6,a7,a8⟩:=x
 cases gr<;>(refine ae (aN f345) aB func345 fun g F hg hF=> ?_;cbv;exact aY hF (by(try rw [fP hg]);rfl))
theorem dL(x:aj):PC0 159 [.agg (lc (aj.c x))] (.t (ai (o7 x))):=by
 obtain⟨a0,a1,a2,a3,a4,a5,a6,a7,a8⟩:=x
 refine ae (aN f159) aB func159 fun g F hg hF=> ?_
 cbv
 exact aY hF (by rw [Cx hg];rfl)
theorem ea(x:aj):PC0 158 [.agg (lc (aj.c x))] (.t (ai (uA x))):=by
 obtain⟨a0,a1,a2,a3,a4,a5,a6,a7,a8⟩:=x
 refine ae (aN f158) aB func158 fun g F hg hF=> ?_
 cbv
 repeat'(first|(split<;>rename_i hh<;>(try rw [hh])<;>(try simp only [dl hg]at hh)<;>cbv))
 all_goals exact aY hF (by simp only [uA];grind)
end Go.Proofs.YtdnnffbbhijmkaaGreat
