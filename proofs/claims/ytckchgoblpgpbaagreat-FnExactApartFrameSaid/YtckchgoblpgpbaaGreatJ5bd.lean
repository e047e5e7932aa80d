/- Weights, shares, items: contracts. -/
import Derived.Test.YtckchgoblpgpbaaGreatJ5bc
set_option linter.unusedVariables false
set_option linter.unusedSimpArgs false
set_option maxHeartbeats 1600000
namespace Go.Proofs.YtckchgoblpgpbaaGreat
open Go.ChangeShapes Go.WideShapes Go.ChangeAt Go.RowKit Am Go.Proofs.Tryz
set_option maxRecDepth 100000
theorem pc(ws:List Int)(hl:ws.length<=1048576):PC0 331 [.c (.view (vw ak ws))] (.t (abl (zF ws))):=by
 obtain⟨V,hV⟩:=nmE (vw ak ws)
 have hd:=lmV hV
 have iV:=imV hV
 have kV:=kmV (k:=1) hV fun _=>rfl
 have dV:=dmV hV
 have hb:aX V=(ws.length:Int):=by rw [hV,aQ]
 rw [<-hV]
 refine ae (aJ f331) ay func331 fun g F hg hF=> ?_
 cbv
 refine aY hg ay (by kernel_rfl) V (fun x=>lc (ak x)) ws hV hl (fun z(s:Unit)=>[(0,.v V),(5,.v V),(6,.i (g .ln V)),(7,.i (z))]) (fun z(s:Unit)=>[]) (fun z(s:Unit)=>True) (fun(s:Unit) rest=>rest.all (fun w=>rng w 0 1073741824)&&decide ((ws.length:Int)<=64)) (zF ws) () rfl trivial (Wk.weak (wkG [] zr4 trivial (by decide) aD)) (fun z s B hz h0 hi he=> ?_) (fun z s x rest B z0 z1 z2 hx hy h0 hi hc e1 hB=> ?_)
 ·cbv;rw [he];cbv
  exact bk hF (by rw [iy hg,bF hg,hb,<-h0];rfl)
 ·cbv;rw [hc];cbv;refine goX hg _ z0 hy rfl ?_;cbv
  repeat'(first|(refine bz hg (bQ _ _ _) rfl (fun R0 ha=> ?_);cases R0<;>cbv))
  ·exact bk hF (by rw [<-h0,zqD,<-ha];rfl)
  ·rw [e1]
   exact hB (()) _ _ ⟨by rw [<-h0,zqD,<-ha];rfl,trivial⟩ (Wk.weak (wkG [] zr4 trivial (by decide) aD))
theorem oU(ws:List Int)(hl:ws.length<=1048576):PC0 335 [.c (.view (vw ak ws))] (.t (abl (zF ws))):=by
 obtain⟨V,hV⟩:=nmE (vw ak ws)
 have hd:=lmV hV
 have iV:=imV hV
 have kV:=kmV (k:=1) hV fun _=>rfl
 have dV:=dmV hV
 have hb:aX V=(ws.length:Int):=by rw [hV,aQ]
 rw [<-hV]
 refine ae (aJ f335) ay func335 fun g F hg hF=> ?_
 cbv
 refine aY hg ay (by kernel_rfl) V (fun x=>lc (ak x)) ws hV hl (fun z(s:Unit)=>[(0,.v V),(3,.i (z))]) (fun z(s:Unit)=>[]) (fun z(s:Unit)=>True) (fun(s:Unit) rest=>rest.all (fun w=>rng w 0 1073741824)&&decide ((ws.length:Int)<=64)) (zF ws) () rfl trivial (Wk.weak (wkG [] zr2 trivial (by decide) aD)) (fun z s B hz h0 hi he=> ?_) (fun z s x rest B z0 z1 z2 hx hy h0 hi hc e1 hB=> ?_)
 ·cbv;rw [he];cbv
  exact bk hF (by rw [iy hg,bF hg,hb,<-h0];rfl)
 ·cbv;rw [hc];cbv;refine goX hg _ z0 hy rfl ?_;cbv
  repeat'(first|(refine bz hg (bi _ _ _) rfl (fun R0 ha=> ?_);cases R0<;>cbv))
  ·exact bk hF (by rw [<-h0,zqD,<-ha];rfl)
  ·rw [e1]
   exact hB (()) _ _ ⟨by rw [<-h0,zqD,<-ha];rfl,trivial⟩ (Wk.weak (wkG [] zr2 trivial (by decide) aD))
theorem nD(n:Int)(ws:List Int)(hl:ws.length<=1048576):dc prog 312 [ai n,.c (.view (vw ak ws))] fun res hd=>res= .o 0/\hd=[⟨3,1,vw ak (shr n ws)⟩]:=by
 have cw:=pc ws hl
 obtain⟨V,hV⟩:=nmE (vw ak ws)
 have hn:=lmV hV
 have iV:=imV hV
 have kV:=kmV (k:=1) hV fun _=>rfl
 have dV:=dmV hV
 obtain⟨GV,ha⟩:=nmE (vw ak (shr n ws))
 obtain⟨A,hA⟩:=nmE (oA 0 ws)
 obtain⟨w,hw⟩:=nmE (zF ws)
 rw [<-hV,<-hw]at cw
 rw [<-hV,<-ha]
 refine ae (aJ f312) ay func312 fun g F hg hF=> ?_
 cbv
 repeat'(first|(refine bz hg cw rfl (fun R0 hb=> ?_);cases R0<;>cbv))
 ·have e:GV=[]:=by rw [ha,shr,if_neg (by rw [<-hw,<-hb];simp)];rfl
  subst e
  exact AX _ _ hF ⟨rfl,rfl⟩
 repeat'(refine ba hg (bN _) rfl (fun R0 hb=> ?_);cbv)
 have hG:shr n ws=shG R0 A 0 ws:=by rw [shr,if_pos (by rw [<-hw];simp_all),hA];simp_all
 refine aY hg ay (by kernel_rfl) V (fun x=>lc (ak x)) ws hV hl (fun z(s:Int)=>[(0,.i (R0)),(1,.v V),(5,.i (s)),(17,.v V),(18,.i (g .ln V)),(19,.i (z))]) (fun z(s:Int)=>[]) (fun z(s:Int)=>True) (fun(s:Int) rest=>oA s rest) (A) 0 hA.symm trivial (Wk.weak (wkG [] zr6 trivial (by decide) aD)) (fun z s B hz h0 hi he=> ?_) (fun z s x rest B z0 z1 z2 hx hy h0 hi hc e1 hB=> ?_)
 rotate_left
 ·cbv;rw [hc];cbv;refine goX hg _ z0 hy rfl ?_;cbv
  rw [e1,aN hg]
  exact hB (_) _ _ ⟨h0,trivial⟩ (Wk.weak (wkG [] zr6 trivial (by decide) aD))
 cbv;rw [he];cbv
 obtain rfl:A=s:=h0.symm
 refine aY hg ay (by kernel_rfl) V (fun x=>lc (ak x)) ws hV hl (fun z(s:Int×List Int×LLA)=>[(0,.i (R0)),(5,.i (A)),(8,.o 0),(9,.i (s.1)),(27,.v V),(28,.i (g .ln V)),(29,.i (z))]) (fun z(s:Int×List Int×LLA)=>[.rw ⟨3,1,s.2.2⟩]) (fun z(s:Int×List Int×LLA)=>s.2.2=vw ak s.2.1/\(s.2.1.length:Int)=z) (fun(s:Int×List Int×LLA) rest=>s.2.1++shG R0 A s.1 rest) (shr n ws) (0,[],[]) (by simpa using hG.symm) ⟨rfl,rfl⟩ (Wk.weak (wkG [none] zr7 ⟨⟨_,rfl,rfl⟩,trivial⟩ (by decide) aD)) (fun z s B hz h0 hi he=> ?_) (fun z s x rest B z0 z1 z2 hx hy h0 hi hc e1 hB=> ?_)
 ·obtain⟨q,hj,es⟩:=s
  obtain⟨i1,i2⟩:=hi
  dsimp only at i1 i2 h0
  cbv;rw [he];cbv
  obtain rfl:es=GV:=by simp only [shG,List.append_nil]at h0;rw [i1,ha,<-h0]
  exact bR hF rfl (by rw [ha];exact aF _ _)
 ·obtain⟨q,hj,es⟩:=s
  obtain⟨i1,i2⟩:=hi
  dsimp only at i1 i2 h0
  have hk:es.length<=1048576:=by rw [i1,aq];omega
  have pe:=pmV i1
  cbv;rw [hc];cbv;refine goX hg _ z0 hy rfl ?_;cbv
  (first|refine ba hg (bK _ _) rfl (fun Q0 hf=> ?_)|refine aB hg (bK _ _) rfl (fun Q0 hf=> ?_));cbv
  (first|refine ba hg (bK _ _) rfl (fun Q1 hh=> ?_)|refine aB hg (bK _ _) rfl (fun Q1 hh=> ?_));cbv
  refine dg hg rfl (by decide) hk ?_
  cbv
  rw [e1,gd hg]
  have hm:g .w .sub .i64 Q0 Q1=wrap64 (fdv (wrap64 (R0*wrap64 (q+x))) A-fdv (wrap64 (R0*q)) A):=by rw [hf,hh];simp only [aN hg,gc hg,bZ hg]
  rw [hm,aN hg]
  exact hB ((_,hj++[_],_)) _ _ ⟨(by simpa [shG]using h0),⟨by rw [i1,bv];rfl,by simp;omega⟩⟩ (Wk.weak (wkG [some _] zr7 ⟨⟨_,_,rfl,rfl,rfl,rfl,.inl ⟨rfl,by rw [i1];exact jf _ _ rfl⟩⟩,trivial⟩ (by decide) aD))
theorem mY(n:Int)(ws:List Int)(hl:ws.length<=1048576):dc prog 316 [ai n,.c (.view (vw ak ws))] fun res hd=>res= .o 0/\hd=[⟨3,1,vw ak (shr n ws)⟩]:=by
 have cw:=oU ws hl
 obtain⟨V,hV⟩:=nmE (vw ak ws)
 have hn:=lmV hV
 have iV:=imV hV
 have kV:=kmV (k:=1) hV fun _=>rfl
 have dV:=dmV hV
 obtain⟨GV,hb⟩:=nmE (vw ak (shr n ws))
 obtain⟨A,hA⟩:=nmE (oA 0 ws)
 obtain⟨w,hw⟩:=nmE (zF ws)
 rw [<-hV,<-hw]at cw
 rw [<-hV,<-hb]
 refine ae (aJ f316) ay func316 fun g F hg hF=> ?_
 cbv
 repeat'(first|(refine bz hg cw rfl (fun R0 ha=> ?_);cases R0<;>cbv))
 ·have e:GV=[]:=by rw [hb,shr,if_neg (by rw [<-hw,<-ha];simp)];rfl
  subst e
  exact bR hF rfl rfl
 refine aY hg ay (by kernel_rfl) V (fun x=>lc (ak x)) ws hV hl (fun z(s:Int)=>[(0,.i (n)),(1,.v V),(5,.o 0),(6,.i (s)),(7,.i (z))]) (fun z(s:Int)=>[.rw ⟨3,1,[]⟩]) (fun z(s:Int)=>True) (fun(s:Int) rest=>oA s rest) (A) 0 hA.symm trivial (Wk.weak (wkG [some _] zr5 ⟨wqE rfl rfl,trivial⟩ (by decide) aD)) (fun z s B hz h0 hi he=> ?_) (fun z s x rest B z0 z1 z2 hx hy h0 hi hc e1 hB=> ?_)
 rotate_left
 ·cbv;rw [hc];cbv;refine goX hg _ z0 hy rfl ?_;cbv
  rw [e1,aN hg]
  exact hB (_) _ _ ⟨h0,trivial⟩ (Wk.weak (wkG [some _] zr5 ⟨wqE rfl rfl,trivial⟩ (by decide) aD))
 cbv;rw [he];cbv
 obtain rfl:A=s:=h0.symm
 (first|refine ba hg (bD _) rfl (fun R0 ha=> ?_)|refine aB hg (bD _) rfl (fun R0 ha=> ?_));cbv
 have hG:shr n ws=shG R0 A 0 ws:=by rw [shr,if_pos (by rw [<-hw];simp_all),hA,ha]
 refine aY hg ay (by kernel_rfl) V (fun x=>lc (ak x)) ws hV hl (fun z(s:Int×List Int×LLA)=>[(0,.i (R0)),(1,.v V),(5,.o 0),(6,.i (A)),(8,.i (s.1)),(9,.i (z))]) (fun z(s:Int×List Int×LLA)=>[.rw ⟨3,1,s.2.2⟩]) (fun z(s:Int×List Int×LLA)=>s.2.2=vw ak s.2.1/\(s.2.1.length:Int)=z) (fun(s:Int×List Int×LLA) rest=>s.2.1++shG R0 A s.1 rest) (shr n ws) (0,[],[]) (by simpa using hG.symm) ⟨rfl,rfl⟩ (Wk.weak (wkG [some _] zr6 ⟨wqE rfl rfl,trivial⟩ (by decide) aD)) (fun z s B hz h0 hi he=> ?_) (fun z s x rest B z0 z1 z2 hx hy h0 hi hc e1 hB=> ?_)
 ·obtain⟨q,hj,es⟩:=s
  obtain⟨i1,i2⟩:=hi
  dsimp only at i1 i2 h0
  cbv;rw [he];cbv
  obtain rfl:es=GV:=by simp only [shG,List.append_nil]at h0;rw [i1,hb,<-h0]
  exact bR hF rfl (by rw [hb];exact aF _ _)
 ·obtain⟨q,hj,es⟩:=s
  obtain⟨i1,i2⟩:=hi
  dsimp only at i1 i2 h0
  have hk:es.length<=1048576:=by rw [i1,aq];omega
  have pe:=pmV i1
  cbv;rw [hc];cbv;refine goX hg _ z0 hy rfl ?_;cbv
  (first|refine ba hg (bJ _ _) rfl (fun Q0 hf=> ?_)|refine aB hg (bJ _ _) rfl (fun Q0 hf=> ?_));cbv
  (first|refine ba hg (bJ _ _) rfl (fun Q1 hh=> ?_)|refine aB hg (bJ _ _) rfl (fun Q1 hh=> ?_));cbv
  refine dg hg rfl (by decide) hk ?_
  cbv
  rw [e1,gd hg]
  have hm:g .w .sub .i64 Q0 Q1=wrap64 (fdv (wrap64 (R0*wrap64 (q+x))) A-fdv (wrap64 (R0*q)) A):=by rw [hf,hh];simp only [aN hg,gc hg,bZ hg]
  rw [hm,aN hg]
  exact hB ((_,hj++[_],_)) _ _ ⟨(by simpa [shG]using h0),⟨by rw [i1,bv];rfl,by simp;omega⟩⟩ (Wk.weak (wkG [some _] zr6 ⟨⟨_,_,rfl,rfl,rfl,rfl,.inl ⟨rfl,by rw [i1];exact jf _ _ rfl⟩⟩,trivial⟩ (by decide) aD))
theorem m9(x:ag):PC0 297 [.agg (lc (ag.c x))] (.t (abl (r8 x))):=by
 obtain⟨a0,a1,a2,a3,a4,a5,a6,a7,a8⟩:=x
 refine ae (aJ f297) ay func297 fun g F hg hF=> ?_
 cbv
 repeat'(first|(refine bz hg (bi _ _ _) rfl (fun R0 ha=> ?_);cases R0<;>cbv))
 all_goals exact bk hF (by simp only [r8];clear hF hg;simp_all)
theorem nL(x:ag):PC0 310 [.agg (lc (ag.c x))] (.t (abl (r8 x))):=by
 obtain⟨a0,a1,a2,a3,a4,a5,a6,a7,a8⟩:=x
 refine ae (aJ f310) ay func310 fun g F hg hF=> ?_
 cbv
 repeat'(first|(refine bz hg (bQ _ _ _) rfl (fun R0 ha=> ?_);cases R0<;>cbv))
 all_goals exact bk hF (by simp only [r8];clear hF hg;simp_all)
theorem jc(xs:List ag)(hl:xs.length<=1048576):PC0 286 [.c (.view (vw ag.c xs))] (.t (abl (ep xs))):=by
 obtain⟨V,hV⟩:=nmE (vw ag.c xs)
 have hd:=lmV hV
 have iV:=imV hV
 have kV:=kmV (k:=9) hV fun _=>rfl
 have dV:=dmV hV
 have hb:aX V=(xs.length:Int):=by rw [hV,aQ]
 rw [<-hV]
 refine ae (aJ f286) ay func286 fun g F hg hF=> ?_
 cbv
 refine aY hg ay (by kernel_rfl) V (fun x=>lc (ag.c x)) xs hV hl (fun z(s:Unit)=>[(0,.v V),(5,.v V),(6,.i (g .ln V)),(7,.i (z))]) (fun z(s:Unit)=>[]) (fun z(s:Unit)=>True) (fun(s:Unit) rest=>rest.all r8&&decide ((xs.length:Int)<=12)) (ep xs) () rfl trivial (Wk.weak (wkG [] zr4 trivial (by decide) aD)) (fun z s B hz h0 hi he=> ?_) (fun z s x rest B z0 z1 z2 hx hy h0 hi hc e1 hB=> ?_)
 ·cbv;rw [he];cbv
  exact bk hF (by rw [iy hg,bF hg,hb,<-h0];rfl)
 ·cbv;rw [hc];cbv;refine goX hg _ z0 hy rfl ?_;cbv
  (first|refine bz hg (nL x) rfl (fun R0 ha=> ?_)|refine bd hg (nL x) rfl (fun R0 ha=> ?_));cbv
  cases R0<;>cbv
  ·exact bk hF (by rw [<-h0,zqD,<-ha];rfl)
  ·rw [e1]
   exact hB (()) _ _ ⟨by rw [<-h0,zqD,<-ha];rfl,trivial⟩ (Wk.weak (wkG [] zr4 trivial (by decide) aD))
theorem i6(xs:List ag)(hl:xs.length<=1048576):PC0 259 [.c (.view (vw ag.c xs))] (.t (abl (ep xs))):=by
 obtain⟨V,hV⟩:=nmE (vw ag.c xs)
 have hd:=lmV hV
 have iV:=imV hV
 have kV:=kmV (k:=9) hV fun _=>rfl
 have dV:=dmV hV
 have hb:aX V=(xs.length:Int):=by rw [hV,aQ]
 rw [<-hV]
 refine ae (aJ f259) ay func259 fun g F hg hF=> ?_
 cbv
 refine aY hg ay (by kernel_rfl) V (fun x=>lc (ag.c x)) xs hV hl (fun z(s:Unit)=>[(0,.v V),(3,.i (z))]) (fun z(s:Unit)=>[]) (fun z(s:Unit)=>True) (fun(s:Unit) rest=>rest.all r8&&decide ((xs.length:Int)<=12)) (ep xs) () rfl trivial (Wk.weak (wkG [] zr2 trivial (by decide) aD)) (fun z s B hz h0 hi he=> ?_) (fun z s x rest B z0 z1 z2 hx hy h0 hi hc e1 hB=> ?_)
 ·cbv;rw [he];cbv
  exact bk hF (by rw [iy hg,bF hg,hb,<-h0];rfl)
 ·cbv;rw [hc];cbv;refine goX hg _ z0 hy rfl ?_;cbv
  (first|refine bz hg (m9 x) rfl (fun R0 ha=> ?_)|refine bd hg (m9 x) rfl (fun R0 ha=> ?_));cbv
  cases R0<;>cbv
  ·exact bk hF (by rw [<-h0,zqD,<-ha];rfl)
  ·rw [e1]
   exact hB (()) _ _ ⟨by rw [<-h0,zqD,<-ha];rfl,trivial⟩ (Wk.weak (wkG [] zr2 trivial (by decide) aD))
theorem ia(xs:List ag)(hl:xs.length<=1048576):dc prog 285 [.c (.view (vw ag.c xs))] fun res hd=>res= .o 0/\hd=[⟨3,1,vw ak (xs.map hyp)⟩]:=by
 obtain⟨V,hV⟩:=nmE (vw ag.c xs)
 have hj:=lmV hV
 have iV:=imV hV
 have kV:=kmV (k:=9) hV fun _=>rfl
 have dV:=dmV hV
 obtain⟨GV,ha⟩:=nmE (vw ak (xs.map hyp))
 rw [<-hV,<-ha]
 refine ae (aJ f285) ay func285 fun g F hg hF=> ?_
 cbv
 refine aY hg ay (by kernel_rfl) V (fun x=>lc (ag.c x)) xs hV hl (fun z(s:List Int×LLA)=>[(3,.o 0),(6,.v V),(7,.i (g .ln V)),(8,.i (z))]) (fun z(s:List Int×LLA)=>[.rw ⟨3,1,s.2⟩]) (fun z(s:List Int×LLA)=>s.2=vw ak s.1/\(s.1.length:Int)=z) (fun(s:List Int×LLA) rest=>s.1++rest.map hyp) (xs.map hyp) ([],[]) rfl ⟨rfl,rfl⟩ (Wk.weak (wkG [none] zr4 ⟨⟨_,rfl,rfl⟩,trivial⟩ (by decide) aD)) (fun z s B hz h0 hi he=> ?_) (fun z s x rest B z0 z1 z2 hx hy h0 hi hc e1 hB=> ?_)
 ·obtain⟨hf,es⟩:=s
  obtain⟨i1,i2⟩:=hi
  dsimp only at i1 i2 h0
  cbv;rw [he];cbv
  obtain rfl:es=GV:=by simp only [List.map_nil,List.append_nil]at h0;rw [i1,ha,<-h0]
  exact bR hF rfl (by rw [ha];exact aF _ _)
 ·obtain⟨hf,es⟩:=s
  obtain⟨i1,i2⟩:=hi
  dsimp only at i1 i2 h0
  have hh:es.length<=1048576:=by rw [i1,aq];omega
  cbv;rw [hc];cbv;refine goX hg _ z0 hy rfl ?_;cbv
  (first|refine ba hg (iI x) rfl (fun Q0 hb=> ?_)|refine aB hg (iI x) rfl (fun Q0 hb=> ?_));cbv
  refine dg hg rfl (by decide) hh ?_
  cbv
  rw [e1,gd hg]
  exact hB ((hf++[_],_)) _ _ ⟨(by simpa [hb]using h0),⟨by rw [i1,bv,<-hb];rfl,by simp;omega⟩⟩ (Wk.weak (wkG [some _] zr4 ⟨⟨_,_,rfl,rfl,rfl,rfl,.inl ⟨rfl,by rw [i1];exact jf _ _ rfl⟩⟩,trivial⟩ (by decide) aD))
theorem iT(xs:List ag)(hl:xs.length<=1048576):dc prog 299 [.c (.view (vw ag.c xs))] fun res hd=>res= .o 0/\hd=[⟨3,1,vw ak (xs.map hyp)⟩]:=by
 obtain⟨V,hV⟩:=nmE (vw ag.c xs)
 have hj:=lmV hV
 have iV:=imV hV
 have kV:=kmV (k:=9) hV fun _=>rfl
 have dV:=dmV hV
 obtain⟨GV,ha⟩:=nmE (vw ak (xs.map hyp))
 rw [<-hV,<-ha]
 refine ae (aJ f299) ay func299 fun g F hg hF=> ?_
 cbv
 refine aY hg ay (by kernel_rfl) V (fun x=>lc (ag.c x)) xs hV hl (fun z(s:List Int×LLA)=>[(0,.v V),(3,.o 0),(4,.i (z))]) (fun z(s:List Int×LLA)=>[.rw ⟨3,1,s.2⟩]) (fun z(s:List Int×LLA)=>s.2=vw ak s.1/\(s.1.length:Int)=z) (fun(s:List Int×LLA) rest=>s.1++rest.map hyp) (xs.map hyp) ([],[]) rfl ⟨rfl,rfl⟩ (Wk.weak (wkG [some _] zr3 ⟨wqE rfl rfl,trivial⟩ (by decide) aD)) (fun z s B hz h0 hi he=> ?_) (fun z s x rest B z0 z1 z2 hx hy h0 hi hc e1 hB=> ?_)
 ·obtain⟨hf,es⟩:=s
  obtain⟨i1,i2⟩:=hi
  dsimp only at i1 i2 h0
  cbv;rw [he];cbv
  obtain rfl:es=GV:=by simp only [List.map_nil,List.append_nil]at h0;rw [i1,ha,<-h0]
  exact bR hF rfl (by rw [ha];exact aF _ _)
 ·obtain⟨hf,es⟩:=s
  obtain⟨i1,i2⟩:=hi
  dsimp only at i1 i2 h0
  have hh:es.length<=1048576:=by rw [i1,aq];omega
  cbv;rw [hc];cbv;refine goX hg _ z0 hy rfl ?_;cbv
  (first|refine ba hg (iA x) rfl (fun Q0 hb=> ?_)|refine aB hg (iA x) rfl (fun Q0 hb=> ?_));cbv
  refine dg hg rfl (by decide) hh ?_
  cbv
  rw [e1,gd hg]
  exact hB ((hf++[_],_)) _ _ ⟨(by simpa [hb]using h0),⟨by rw [i1,bv,<-hb];rfl,by simp;omega⟩⟩ (Wk.weak (wkG [some _] zr3 ⟨⟨_,_,rfl,rfl,rfl,rfl,.inl ⟨rfl,by rw [i1];exact jf _ _ rfl⟩⟩,trivial⟩ (by decide) aD))
theorem dD(x:ag)(gr:Bool):PC0 329 [.agg (lc (ag.c x)),abl gr] (.i (wgt gr x)):=by
 obtain⟨a0,a1,a2,a3,a4,a5,a6,a7,a8⟩:=x
 cases gr<;>(refine ae (aJ f329) ay func329 fun g F hg hF=> ?_;cbv;exact aV hF (by(try rw [gc hg]);rfl))
theorem dX(x:ag):PC0 337 [.agg (lc (ag.c x))] (.i (pU x)):=by
 obtain⟨a0,a1,a2,a3,a4,a5,a6,a7,a8⟩:=x
 refine ae (aJ f337) ay func337 fun g F hg hF=> ?_
 cbv
 exact aV hF (by rw [Du hg];rfl)
theorem er(x:ag):PC0 339 [.agg (lc (ag.c x))] (.i (vd x)):=by
 obtain⟨a0,a1,a2,a3,a4,a5,a6,a7,a8⟩:=x
 refine ae (aJ f339) ay func339 fun g F hg hF=> ?_
 cbv
 repeat'(first|(split<;>rename_i hh<;>(try rw [hh])<;>(try simp only [da hg]at hh)<;>cbv))
 all_goals exact aV hF (by simp only [vd];grind)
end Go.Proofs.YtckchgoblpgpbaaGreat
