/- Weights, shares, items: contracts. -/
import Derived.Test.YtdnnffbbhijmkaaGreatQbb
set_option linter.unusedVariables false
set_option linter.unusedSimpArgs false
set_option maxHeartbeats 1600000
namespace Go.Proofs.YtdnnffbbhijmkaaGreat
open Go.ChangeShapes Go.WideShapes Go.ChangeAt Go.RowKit Am Go.Proofs.Tryz
set_option maxRecDepth 100000
theorem o7(ws:List Int)(hl:ws.length≤1048576):PC0 371 [.c (.view (vw ao ws))] (.t (abl (zd ws))):=by
 obtain⟨V,hV⟩:=nmE (vw ao ws)
 have hVl:V.length=ws.length:=by rw [hV,af]
 have iV:bR V=true:=by rw [hV];exact aG _ _
 have kV:∀y∈V,y.length=1:=by rw [hV];exact bC (c:=ao) (k:=1) fun _=>rfl
 have dV:∀y∈V,y.all dat=true:=by rw [hV];exact az
 have hVx:bg V=(ws.length:Int):=by rw [hV,aN]
 rw [←hV]
 refine ae (aK f371) aD func371 fun g F hg hF=> ?_
 cbv
 refine aY hg aD (by kernel_rfl) V (fun x=>lc (ao x)) ws hV hl (fun z(s:Unit)=>[(0,.v V),(5,.v V),(6,.i (g .ln V)),(7,.i (z))]) (fun z(s:Unit)=>[]) (fun z(s:Unit)=>True) (fun(s:Unit) rest=>rest.all (fun w=>rng w 0 1073741824)&&decide ((ws.length:Int)≤64)) (zd ws) () rfl trivial (Wk.weak (wkG [] ⟨rfl,rfl,rfl,rfl,trivial⟩ trivial (by decide) aI)) (fun z s B hz h0 hi he=> ?_) (fun z s x rest B z0 z1 z2 hx hy h0 hi hc e1 hB=> ?_)
 ·cbv;rw [he];cbv
  exact bj hF (by rw [ip hg,bD hg,hVx,←h0];rfl)
 ·cbv;rw [hc];cbv;refine goX hg _ z0 hy rfl ?_;cbv
  repeat'(first|(refine br hg (bS _ _ _) rfl (fun R0 hR0=> ?_);cases R0<;>cbv)|(refine aZ hg (bS _ _ _) rfl (fun R0 hR0=> ?_);cases R0<;>cbv))
  ·exact bj hF (by rw [←h0,zqD,←hR0];rfl)
  ·rw [e1]
   exact hB (()) _ _ ⟨by rw [←h0,zqD,←hR0];rfl,trivial⟩ (Wk.weak (wkG [] ⟨rfl,rfl,rfl,rfl,trivial⟩ trivial (by decide) aI))
theorem oU(ws:List Int)(hl:ws.length≤1048576):PC0 370 [.c (.view (vw ao ws))] (.t (abl (zd ws))):=by
 obtain⟨V,hV⟩:=nmE (vw ao ws)
 have hVl:V.length=ws.length:=by rw [hV,af]
 have iV:bR V=true:=by rw [hV];exact aG _ _
 have kV:∀y∈V,y.length=1:=by rw [hV];exact bC (c:=ao) (k:=1) fun _=>rfl
 have dV:∀y∈V,y.all dat=true:=by rw [hV];exact az
 have hVx:bg V=(ws.length:Int):=by rw [hV,aN]
 rw [←hV]
 refine ae (aK f370) aD func370 fun g F hg hF=> ?_
 cbv
 refine aY hg aD (by kernel_rfl) V (fun x=>lc (ao x)) ws hV hl (fun z(s:Unit)=>[(0,.v V),(3,.i (z))]) (fun z(s:Unit)=>[]) (fun z(s:Unit)=>True) (fun(s:Unit) rest=>rest.all (fun w=>rng w 0 1073741824)&&decide ((ws.length:Int)≤64)) (zd ws) () rfl trivial (Wk.weak (wkG [] ⟨rfl,rfl,trivial⟩ trivial (by decide) aI)) (fun z s B hz h0 hi he=> ?_) (fun z s x rest B z0 z1 z2 hx hy h0 hi hc e1 hB=> ?_)
 ·cbv;rw [he];cbv
  exact bj hF (by rw [ip hg,bD hg,hVx,←h0];rfl)
 ·cbv;rw [hc];cbv;refine goX hg _ z0 hy rfl ?_;cbv
  repeat'(first|(refine br hg (bm _ _ _) rfl (fun R0 hR0=> ?_);cases R0<;>cbv)|(refine aZ hg (bm _ _ _) rfl (fun R0 hR0=> ?_);cases R0<;>cbv))
  ·exact bj hF (by rw [←h0,zqD,←hR0];rfl)
  ·rw [e1]
   exact hB (()) _ _ ⟨by rw [←h0,zqD,←hR0];rfl,trivial⟩ (Wk.weak (wkG [] ⟨rfl,rfl,trivial⟩ trivial (by decide) aI))
theorem nC(n:Int)(ws:List Int)(hl:ws.length≤1048576):cY prog 364 [ai n,.c (.view (vw ao ws))] fun res rows=>res= .o 0∧rows=[⟨3,1,vw ao (shr n ws)⟩]:=by
 have cw:=o7 ws hl
 obtain⟨V,hV⟩:=nmE (vw ao ws)
 have hVl:V.length=ws.length:=by rw [hV,af]
 have iV:bR V=true:=by rw [hV];exact aG _ _
 have kV:∀y∈V,y.length=1:=by rw [hV];exact bC (c:=ao) (k:=1) fun _=>rfl
 have dV:∀y∈V,y.all dat=true:=by rw [hV];exact az
 obtain⟨GV,hGV⟩:=nmE (vw ao (shr n ws))
 obtain⟨A,hA⟩:=nmE (oA 0 ws)
 obtain⟨w,hw⟩:=nmE (zd ws)
 rw [←hV,←hw]at cw
 rw [←hV,←hGV]
 refine ae (aK f364) aD func364 fun g F hg hF=> ?_
 cbv
 repeat'(first|(refine br hg cw rfl (fun R0 hR0=> ?_);cases R0<;>cbv)|(refine aZ hg cw rfl (fun R0 hR0=> ?_);cases R0<;>cbv))
 ·have e:GV=[]:=by rw [hGV,shr,if_neg (by rw [←hw,←hR0];simp)];rfl
  subst e
  exact vU _ _ hF ⟨rfl,rfl⟩
 repeat'((first|refine bq hg (cu _) rfl (fun R0 hR0=> ?_)|refine aX hg (cu _) rfl (fun R0 hR0=> ?_));cbv)
 have hG:shr n ws=shG R0 A 0 ws:=by rw [shr,if_pos (by rw [←hw];simp_all),hA];simp_all
 refine aY hg aD (by kernel_rfl) V (fun x=>lc (ao x)) ws hV hl (fun z(s:Int)=>[(0,.i (R0)),(1,.v V),(5,.i (s)),(17,.v V),(18,.i (g .ln V)),(19,.i (z))]) (fun z(s:Int)=>[]) (fun z(s:Int)=>True) (fun(s:Int) rest=>oA s rest) (A) 0 hA.symm trivial (Wk.weak (wkG [] ⟨rfl,rfl,rfl,rfl,rfl,rfl,trivial⟩ trivial (by decide) aI)) (fun z s B hz h0 hi he=> ?_) (fun z s x rest B z0 z1 z2 hx hy h0 hi hc e1 hB=> ?_)
 rotate_left
 ·cbv;rw [hc];cbv;refine goX hg _ z0 hy rfl ?_;cbv
  rw [e1,aM hg]
  exact hB (_) _ _ ⟨h0,trivial⟩ (Wk.weak (wkG [] ⟨rfl,rfl,rfl,rfl,rfl,rfl,trivial⟩ trivial (by decide) aI))
 cbv;rw [he];cbv
 obtain rfl:A=s:=h0.symm
 refine aY hg aD (by kernel_rfl) V (fun x=>lc (ao x)) ws hV hl (fun z(s:Int×List Int×LLA)=>[(0,.i (R0)),(5,.i (A)),(8,.o 0),(9,.i (s.1)),(27,.v V),(28,.i (g .ln V)),(29,.i (z))]) (fun z(s:Int×List Int×LLA)=>[.rw ⟨3,1,s.2.2⟩]) (fun z(s:Int×List Int×LLA)=>s.2.2=vw ao s.2.1∧(s.2.1.length:Int)=z) (fun(s:Int×List Int×LLA) rest=>s.2.1++shG R0 A s.1 rest) (shr n ws) (0,[],[]) (by simpa using hG.symm) ⟨rfl,rfl⟩ (Wk.weak (wkG [none] ⟨rfl,rfl,rfl,rfl,rfl,rfl,rfl,trivial⟩ ⟨⟨_,rfl,rfl⟩,trivial⟩ (by decide) aI)) (fun z s B hz h0 hi he=> ?_) (fun z s x rest B z0 z1 z2 hx hy h0 hi hc e1 hB=> ?_)
 ·obtain⟨q,out,es⟩:=s
  obtain⟨i1,i2⟩:=hi
  dsimp only at i1 i2 h0
  cbv;rw [he];cbv
  obtain rfl:es=GV:=by simp only [shG,List.append_nil]at h0;rw [i1,hGV,←h0]
  exact bP hF rfl (by rw [hGV];exact ag _ _)
 ·obtain⟨q,out,es⟩:=s
  obtain⟨i1,i2⟩:=hi
  dsimp only at i1 i2 h0
  have hel:es.length≤1048576:=by rw [i1,af];omega
  have pe:aj es=true:=by rw [i1];exact ag _ _
  cbv;rw [hc];cbv;refine goX hg _ z0 hy rfl ?_;cbv
  (first|refine bq hg (bK _ _) rfl (fun Q0 hQ0=> ?_)|refine aX hg (bK _ _) rfl (fun Q0 hQ0=> ?_));cbv
  (first|refine bq hg (bK _ _) rfl (fun Q1 hQ1=> ?_)|refine aX hg (bK _ _) rfl (fun Q1 hQ1=> ?_));cbv
  refine dl hg rfl (by decide) hel ?_
  cbv
  rw [e1,gG hg]
  have hx2:g .w .sub .i64 Q0 Q1=wrap64 (fdv (wrap64 (R0*wrap64 (q+x))) A-fdv (wrap64 (R0*q)) A):=by rw [hQ0,hQ1];simp only [aM hg,fO hg,dd hg]
  rw [hx2,aM hg]
  exact hB ((_,out++[_],_)) _ _ ⟨(by simpa [shG]using h0),⟨by rw [i1,bA];rfl,by simp;omega⟩⟩ (Wk.weak (wkG [some _] ⟨rfl,rfl,rfl,rfl,rfl,rfl,rfl,trivial⟩ ⟨⟨_,_,rfl,rfl,rfl,rfl,.inl ⟨rfl,by rw [i1];exact i9 _ _ rfl⟩⟩,trivial⟩ (by decide) aI))
theorem mV(n:Int)(ws:List Int)(hl:ws.length≤1048576):cY prog 363 [ai n,.c (.view (vw ao ws))] fun res rows=>res= .o 0∧rows=[⟨3,1,vw ao (shr n ws)⟩]:=by
 have cw:=oU ws hl
 obtain⟨V,hV⟩:=nmE (vw ao ws)
 have hVl:V.length=ws.length:=by rw [hV,af]
 have iV:bR V=true:=by rw [hV];exact aG _ _
 have kV:∀y∈V,y.length=1:=by rw [hV];exact bC (c:=ao) (k:=1) fun _=>rfl
 have dV:∀y∈V,y.all dat=true:=by rw [hV];exact az
 obtain⟨GV,hGV⟩:=nmE (vw ao (shr n ws))
 obtain⟨A,hA⟩:=nmE (oA 0 ws)
 obtain⟨w,hw⟩:=nmE (zd ws)
 rw [←hV,←hw]at cw
 rw [←hV,←hGV]
 refine ae (aK f363) aD func363 fun g F hg hF=> ?_
 cbv
 repeat'(first|(refine br hg cw rfl (fun R0 hR0=> ?_);cases R0<;>cbv)|(refine aZ hg cw rfl (fun R0 hR0=> ?_);cases R0<;>cbv))
 ·have e:GV=[]:=by rw [hGV,shr,if_neg (by rw [←hw,←hR0];simp)];rfl
  subst e
  exact bP hF rfl rfl
 refine aY hg aD (by kernel_rfl) V (fun x=>lc (ao x)) ws hV hl (fun z(s:Int)=>[(0,.i (n)),(1,.v V),(5,.o 0),(6,.i (s)),(7,.i (z))]) (fun z(s:Int)=>[.rw ⟨3,1,[]⟩]) (fun z(s:Int)=>True) (fun(s:Int) rest=>oA s rest) (A) 0 hA.symm trivial (Wk.weak (wkG [some _] ⟨rfl,rfl,rfl,rfl,rfl,trivial⟩ ⟨wqE rfl rfl,trivial⟩ (by decide) aI)) (fun z s B hz h0 hi he=> ?_) (fun z s x rest B z0 z1 z2 hx hy h0 hi hc e1 hB=> ?_)
 rotate_left
 ·cbv;rw [hc];cbv;refine goX hg _ z0 hy rfl ?_;cbv
  rw [e1,aM hg]
  exact hB (_) _ _ ⟨h0,trivial⟩ (Wk.weak (wkG [some _] ⟨rfl,rfl,rfl,rfl,rfl,trivial⟩ ⟨wqE rfl rfl,trivial⟩ (by decide) aI))
 cbv;rw [he];cbv
 obtain rfl:A=s:=h0.symm
 (first|refine bq hg (bQ _) rfl (fun R0 hR0=> ?_)|refine aX hg (bQ _) rfl (fun R0 hR0=> ?_));cbv
 have hG:shr n ws=shG R0 A 0 ws:=by rw [shr,if_pos (by rw [←hw];simp_all),hA,hR0]
 refine aY hg aD (by kernel_rfl) V (fun x=>lc (ao x)) ws hV hl (fun z(s:Int×List Int×LLA)=>[(0,.i (R0)),(1,.v V),(5,.o 0),(6,.i (A)),(8,.i (s.1)),(9,.i (z))]) (fun z(s:Int×List Int×LLA)=>[.rw ⟨3,1,s.2.2⟩]) (fun z(s:Int×List Int×LLA)=>s.2.2=vw ao s.2.1∧(s.2.1.length:Int)=z) (fun(s:Int×List Int×LLA) rest=>s.2.1++shG R0 A s.1 rest) (shr n ws) (0,[],[]) (by simpa using hG.symm) ⟨rfl,rfl⟩ (Wk.weak (wkG [some _] ⟨rfl,rfl,rfl,rfl,rfl,rfl,trivial⟩ ⟨wqE rfl rfl,trivial⟩ (by decide) aI)) (fun z s B hz h0 hi he=> ?_) (fun z s x rest B z0 z1 z2 hx hy h0 hi hc e1 hB=> ?_)
 ·obtain⟨q,out,es⟩:=s
  obtain⟨i1,i2⟩:=hi
  dsimp only at i1 i2 h0
  cbv;rw [he];cbv
  obtain rfl:es=GV:=by simp only [shG,List.append_nil]at h0;rw [i1,hGV,←h0]
  exact bP hF rfl (by rw [hGV];exact ag _ _)
 ·obtain⟨q,out,es⟩:=s
  obtain⟨i1,i2⟩:=hi
  dsimp only at i1 i2 h0
  have hel:es.length≤1048576:=by rw [i1,af];omega
  have pe:aj es=true:=by rw [i1];exact ag _ _
  cbv;rw [hc];cbv;refine goX hg _ z0 hy rfl ?_;cbv
  (first|refine bq hg (bJ _ _) rfl (fun Q0 hQ0=> ?_)|refine aX hg (bJ _ _) rfl (fun Q0 hQ0=> ?_));cbv
  (first|refine bq hg (bJ _ _) rfl (fun Q1 hQ1=> ?_)|refine aX hg (bJ _ _) rfl (fun Q1 hQ1=> ?_));cbv
  refine dl hg rfl (by decide) hel ?_
  cbv
  rw [e1,gG hg]
  have hx2:g .w .sub .i64 Q0 Q1=wrap64 (fdv (wrap64 (R0*wrap64 (q+x))) A-fdv (wrap64 (R0*q)) A):=by rw [hQ0,hQ1];simp only [aM hg,fO hg,dd hg]
  rw [hx2,aM hg]
  exact hB ((_,out++[_],_)) _ _ ⟨(by simpa [shG]using h0),⟨by rw [i1,bA];rfl,by simp;omega⟩⟩ (Wk.weak (wkG [some _] ⟨rfl,rfl,rfl,rfl,rfl,rfl,trivial⟩ ⟨⟨_,_,rfl,rfl,rfl,rfl,.inl ⟨rfl,by rw [i1];exact i9 _ _ rfl⟩⟩,trivial⟩ (by decide) aI))
theorem m5(x:ah):PC0 337 [.agg (lc (ah.c x))] (.t (abl (rR x))):=by
 obtain⟨a0,a1,a2,a3,a4,a5,a6,a7,a8⟩:=x
 refine ae (aK f337) aD func337 fun g F hg hF=> ?_
 cbv
 repeat'(first|(refine br hg (bm _ _ _) rfl (fun R0 hR0=> ?_);cases R0<;>cbv)|(refine aZ hg (bm _ _ _) rfl (fun R0 hR0=> ?_);cases R0<;>cbv))
 all_goals exact bj hF (by simp only [rR];clear hF hg;simp_all)
theorem nJ(x:ah):PC0 311 [.agg (lc (ah.c x))] (.t (abl (rR x))):=by
 obtain⟨a0,a1,a2,a3,a4,a5,a6,a7,a8⟩:=x
 refine ae (aK f311) aD func311 fun g F hg hF=> ?_
 cbv
 repeat'(first|(refine br hg (bS _ _ _) rfl (fun R0 hR0=> ?_);cases R0<;>cbv)|(refine aZ hg (bS _ _ _) rfl (fun R0 hR0=> ?_);cases R0<;>cbv))
 all_goals exact bj hF (by simp only [rR];clear hF hg;simp_all)
theorem iY(xs:List ah)(hl:xs.length≤1048576):PC0 254 [.c (.view (vw ah.c xs))] (.t (abl (dT xs))):=by
 obtain⟨V,hV⟩:=nmE (vw ah.c xs)
 have hVl:V.length=xs.length:=by rw [hV,af]
 have iV:bR V=true:=by rw [hV];exact aG _ _
 have kV:∀y∈V,y.length=9:=by rw [hV];exact bC (c:=ah.c) (k:=9) fun _=>rfl
 have dV:∀y∈V,y.all dat=true:=by rw [hV];exact az
 have hVx:bg V=(xs.length:Int):=by rw [hV,aN]
 rw [←hV]
 refine ae (aK f254) aD func254 fun g F hg hF=> ?_
 cbv
 refine aY hg aD (by kernel_rfl) V (fun x=>lc (ah.c x)) xs hV hl (fun z(s:Unit)=>[(0,.v V),(5,.v V),(6,.i (g .ln V)),(7,.i (z))]) (fun z(s:Unit)=>[]) (fun z(s:Unit)=>True) (fun(s:Unit) rest=>rest.all rR&&decide ((xs.length:Int)≤12)) (dT xs) () rfl trivial (Wk.weak (wkG [] ⟨rfl,rfl,rfl,rfl,trivial⟩ trivial (by decide) aI)) (fun z s B hz h0 hi he=> ?_) (fun z s x rest B z0 z1 z2 hx hy h0 hi hc e1 hB=> ?_)
 ·cbv;rw [he];cbv
  exact bj hF (by rw [ip hg,bD hg,hVx,←h0];rfl)
 ·cbv;rw [hc];cbv;refine goX hg _ z0 hy rfl ?_;cbv
  (first|refine br hg (nJ x) rfl (fun R0 hR0=> ?_)|refine aZ hg (nJ x) rfl (fun R0 hR0=> ?_));cbv
  cases R0<;>cbv
  ·exact bj hF (by rw [←h0,zqD,←hR0];rfl)
  ·rw [e1]
   exact hB (()) _ _ ⟨by rw [←h0,zqD,←hR0];rfl,trivial⟩ (Wk.weak (wkG [] ⟨rfl,rfl,rfl,rfl,trivial⟩ trivial (by decide) aI))
theorem iQ(xs:List ah)(hl:xs.length≤1048576):PC0 307 [.c (.view (vw ah.c xs))] (.t (abl (dT xs))):=by
 obtain⟨V,hV⟩:=nmE (vw ah.c xs)
 have hVl:V.length=xs.length:=by rw [hV,af]
 have iV:bR V=true:=by rw [hV];exact aG _ _
 have kV:∀y∈V,y.length=9:=by rw [hV];exact bC (c:=ah.c) (k:=9) fun _=>rfl
 have dV:∀y∈V,y.all dat=true:=by rw [hV];exact az
 have hVx:bg V=(xs.length:Int):=by rw [hV,aN]
 rw [←hV]
 refine ae (aK f307) aD func307 fun g F hg hF=> ?_
 cbv
 refine aY hg aD (by kernel_rfl) V (fun x=>lc (ah.c x)) xs hV hl (fun z(s:Unit)=>[(0,.v V),(3,.i (z))]) (fun z(s:Unit)=>[]) (fun z(s:Unit)=>True) (fun(s:Unit) rest=>rest.all rR&&decide ((xs.length:Int)≤12)) (dT xs) () rfl trivial (Wk.weak (wkG [] ⟨rfl,rfl,trivial⟩ trivial (by decide) aI)) (fun z s B hz h0 hi he=> ?_) (fun z s x rest B z0 z1 z2 hx hy h0 hi hc e1 hB=> ?_)
 ·cbv;rw [he];cbv
  exact bj hF (by rw [ip hg,bD hg,hVx,←h0];rfl)
 ·cbv;rw [hc];cbv;refine goX hg _ z0 hy rfl ?_;cbv
  (first|refine br hg (m5 x) rfl (fun R0 hR0=> ?_)|refine aZ hg (m5 x) rfl (fun R0 hR0=> ?_));cbv
  cases R0<;>cbv
  ·exact bj hF (by rw [←h0,zqD,←hR0];rfl)
  ·rw [e1]
   exact hB (()) _ _ ⟨by rw [←h0,zqD,←hR0];rfl,trivial⟩ (Wk.weak (wkG [] ⟨rfl,rfl,trivial⟩ trivial (by decide) aI))
theorem ig(xs:List ah)(hl:xs.length≤1048576):cY prog 253 [.c (.view (vw ah.c xs))] fun res rows=>res= .o 0∧rows=[⟨3,1,vw ao (xs.map hyp)⟩]:=by
 obtain⟨V,hV⟩:=nmE (vw ah.c xs)
 have hVl:V.length=xs.length:=by rw [hV,af]
 have iV:bR V=true:=by rw [hV];exact aG _ _
 have kV:∀y∈V,y.length=9:=by rw [hV];exact bC (c:=ah.c) (k:=9) fun _=>rfl
 have dV:∀y∈V,y.all dat=true:=by rw [hV];exact az
 obtain⟨GV,hGV⟩:=nmE (vw ao (xs.map hyp))
 rw [←hV,←hGV]
 refine ae (aK f253) aD func253 fun g F hg hF=> ?_
 cbv
 refine aY hg aD (by kernel_rfl) V (fun x=>lc (ah.c x)) xs hV hl (fun z(s:List Int×LLA)=>[(3,.o 0),(6,.v V),(7,.i (g .ln V)),(8,.i (z))]) (fun z(s:List Int×LLA)=>[.rw ⟨3,1,s.2⟩]) (fun z(s:List Int×LLA)=>s.2=vw ao s.1∧(s.1.length:Int)=z) (fun(s:List Int×LLA) rest=>s.1++rest.map hyp) (xs.map hyp) ([],[]) rfl ⟨rfl,rfl⟩ (Wk.weak (wkG [none] ⟨rfl,rfl,rfl,rfl,trivial⟩ ⟨⟨_,rfl,rfl⟩,trivial⟩ (by decide) aI)) (fun z s B hz h0 hi he=> ?_) (fun z s x rest B z0 z1 z2 hx hy h0 hi hc e1 hB=> ?_)
 ·obtain⟨out,es⟩:=s
  obtain⟨i1,i2⟩:=hi
  dsimp only at i1 i2 h0
  cbv;rw [he];cbv
  obtain rfl:es=GV:=by simp only [List.map_nil,List.append_nil]at h0;rw [i1,hGV,←h0]
  exact bP hF rfl (by rw [hGV];exact ag _ _)
 ·obtain⟨out,es⟩:=s
  obtain⟨i1,i2⟩:=hi
  dsimp only at i1 i2 h0
  have hel:es.length≤1048576:=by rw [i1,af];omega
  cbv;rw [hc];cbv;refine goX hg _ z0 hy rfl ?_;cbv
  (first|refine bq hg (iA x) rfl (fun Q0 hQ0=> ?_)|refine aX hg (iA x) rfl (fun Q0 hQ0=> ?_));cbv
  refine dl hg rfl (by decide) hel ?_
  cbv
  rw [e1,gG hg]
  exact hB ((out++[_],_)) _ _ ⟨(by simpa [hQ0]using h0),⟨by rw [i1,bA,←hQ0];rfl,by simp;omega⟩⟩ (Wk.weak (wkG [some _] ⟨rfl,rfl,rfl,rfl,trivial⟩ ⟨⟨_,_,rfl,rfl,rfl,rfl,.inl ⟨rfl,by rw [i1];exact i9 _ _ rfl⟩⟩,trivial⟩ (by decide) aI))
theorem iJ(xs:List ah)(hl:xs.length≤1048576):cY prog 339 [.c (.view (vw ah.c xs))] fun res rows=>res= .o 0∧rows=[⟨3,1,vw ao (xs.map hyp)⟩]:=by
 obtain⟨V,hV⟩:=nmE (vw ah.c xs)
 have hVl:V.length=xs.length:=by rw [hV,af]
 have iV:bR V=true:=by rw [hV];exact aG _ _
 have kV:∀y∈V,y.length=9:=by rw [hV];exact bC (c:=ah.c) (k:=9) fun _=>rfl
 have dV:∀y∈V,y.all dat=true:=by rw [hV];exact az
 obtain⟨GV,hGV⟩:=nmE (vw ao (xs.map hyp))
 rw [←hV,←hGV]
 refine ae (aK f339) aD func339 fun g F hg hF=> ?_
 cbv
 refine aY hg aD (by kernel_rfl) V (fun x=>lc (ah.c x)) xs hV hl (fun z(s:List Int×LLA)=>[(0,.v V),(3,.o 0),(4,.i (z))]) (fun z(s:List Int×LLA)=>[.rw ⟨3,1,s.2⟩]) (fun z(s:List Int×LLA)=>s.2=vw ao s.1∧(s.1.length:Int)=z) (fun(s:List Int×LLA) rest=>s.1++rest.map hyp) (xs.map hyp) ([],[]) rfl ⟨rfl,rfl⟩ (Wk.weak (wkG [some _] ⟨rfl,rfl,rfl,trivial⟩ ⟨wqE rfl rfl,trivial⟩ (by decide) aI)) (fun z s B hz h0 hi he=> ?_) (fun z s x rest B z0 z1 z2 hx hy h0 hi hc e1 hB=> ?_)
 ·obtain⟨out,es⟩:=s
  obtain⟨i1,i2⟩:=hi
  dsimp only at i1 i2 h0
  cbv;rw [he];cbv
  obtain rfl:es=GV:=by simp only [List.map_nil,List.append_nil]at h0;rw [i1,hGV,←h0]
  exact bP hF rfl (by rw [hGV];exact ag _ _)
 ·obtain⟨out,es⟩:=s
  obtain⟨i1,i2⟩:=hi
  dsimp only at i1 i2 h0
  have hel:es.length≤1048576:=by rw [i1,af];omega
  cbv;rw [hc];cbv;refine goX hg _ z0 hy rfl ?_;cbv
  (first|refine bq hg (ir x) rfl (fun Q0 hQ0=> ?_)|refine aX hg (ir x) rfl (fun Q0 hQ0=> ?_));cbv
  refine dl hg rfl (by decide) hel ?_
  cbv
  rw [e1,gG hg]
  exact hB ((out++[_],_)) _ _ ⟨(by simpa [hQ0]using h0),⟨by rw [i1,bA,←hQ0];rfl,by simp;omega⟩⟩ (Wk.weak (wkG [some _] ⟨rfl,rfl,rfl,trivial⟩ ⟨⟨_,_,rfl,rfl,rfl,rfl,.inl ⟨rfl,by rw [i1];exact i9 _ _ rfl⟩⟩,trivial⟩ (by decide) aI))
theorem dB(x:ah)(gr:Bool):PC0 345 [.agg (lc (ah.c x)),abl gr] (.i (wgt gr x)):=by
 obtain⟨a0,a1,a2,a3,a4,a5,a6,a7,a8⟩:=x
 cases gr<;>(refine ae (aK f345) aD func345 fun g F hg hF=> ?_;cbv;exact ba hF (by(try rw [fO hg]);rfl))
theorem dr(x:ah):PC0 159 [.agg (lc (ah.c x))] (.i (mj x)):=by
 obtain⟨a0,a1,a2,a3,a4,a5,a6,a7,a8⟩:=x
 refine ae (aK f159) aD func159 fun g F hg hF=> ?_
 cbv
 exact ba hF (by rw [C5 hg];rfl)
theorem dv(x:ah):PC0 158 [.agg (lc (ah.c x))] (.i (s4 x)):=by
 obtain⟨a0,a1,a2,a3,a4,a5,a6,a7,a8⟩:=x
 refine ae (aK f158) aD func158 fun g F hg hF=> ?_
 cbv
 repeat'(first|(split<;>rename_i hh<;>(try rw [hh])<;>(try simp only [dp hg]at hh)<;>cbv))
 all_goals exact ba hF (by simp only [s4];grind)
end Go.Proofs.YtdnnffbbhijmkaaGreat
