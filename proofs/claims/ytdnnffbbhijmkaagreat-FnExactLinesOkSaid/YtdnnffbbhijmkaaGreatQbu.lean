/- Lines within their bounds: both programs, and the law. -/
import Derived.Test.YtdnnffbbhijmkaaGreatQbt
set_option linter.unusedVariables false
set_option linter.unusedSimpArgs false
set_option maxHeartbeats 8000000
namespace Go.Proofs.YtdnnffbbhijmkaaGreat
open Go.ChangeShapes Go.WideShapes Go.ChangeAt Go.RowKit Am Go.Proofs.Tryz
set_option maxRecDepth 100000
def DU(xs:List ah)(ys:List Int):Bool:=decide (xs.length=ys.length)&&(xs.zip ys).all fun p=> !(decide (p.2<p.1.least)||(decide (0≤p.1.most)&&decide (mj p.1<p.2)))
def pB(p:ah×Int):Bool:= !(decide (p.2<p.1.least)||(decide (0≤p.1.most)&&decide (mj p.1<p.2)))
theorem zb{x:ah}{rest:List ah}{ys:List Int}{z:Nat}{w:Int}(h:ys[z]? =some w):((x::rest).zip (ys.drop z)).all pB=(pB (x,w)&&(rest.zip (ys.drop (z+1))).all pB):=by
 obtain⟨hl,he⟩:=List.getElem?_eq_some_iff.1 h
 rw [List.drop_eq_getElem_cons hl,he,List.zip_cons_cons,zqD]
theorem qG(xs:List ah)(ys:List Int)(hx:xs.length≤1048576)(hyy:ys.length≤1048576):PC0 83 [.c (.view (vw ah.c xs)),.c (.view (vw ao ys))] (.t (abl (DU xs ys))):=by
 obtain⟨V,hV⟩:=nmE (vw ah.c xs)
 have hVl:V.length=xs.length:=by rw [hV,af]
 have iV:bR V=true:=by rw [hV];exact aG _ _
 have kV:∀y∈V,y.length=9:=by rw [hV];exact bC (c:=ah.c) (k:=9) fun _=>rfl
 have dV:∀y∈V,y.all dat=true:=by rw [hV];exact az
 obtain⟨W,hW⟩:=nmE (vw ao ys)
 have hWl:W.length=ys.length:=by rw [hW,af]
 have iW:bR W=true:=by rw [hW];exact aG _ _
 have kW:∀y∈W,y.length=1:=by rw [hW];exact bC (c:=ao) (k:=1) fun _=>rfl
 have dW:∀y∈W,y.all dat=true:=by rw [hW];exact az
 obtain⟨R,hR⟩:=nmE ((xs.zip ys).all pB)
 obtain⟨Q,hQ⟩:=nmE (DU xs ys)
 have hQ2:Q=(decide (xs.length=ys.length)&&R):=by rw [hQ,hR];rfl
 have cU:=fun x=>dr x
 rw [←hV,←hW,←hQ]
 refine ae (aK f83) aD func83 fun g F hg hF=> ?_
 have t0:g .q .neq (g .ln V) (g .ln W)= !decide (xs.length=ys.length):=by
  rw [bk hg,bD hg,bD hg,aB,aB,hVl,hWl]
  by_cases h:xs.length=ys.length
  ·simp [h]
  ·simp [h];omega
 by_cases hlen:xs.length=ys.length
 rotate_left
 ·rw [zqt hlen]at t0
  have hQf:Q=false:=by rw [hQ2,zqt hlen];rfl
  cbv
  rw [t0]
  cbv
  exact bj hF hQf.symm
 rw [zqu hlen]at t0 hQ2
 have hQR:R=Q:=by rw [hQ2];rfl
 cbv
 rw [t0]
 cbv
 refine aY hg aD (by kernel_rfl) V (fun x=>lc (ah.c x)) xs hV hx (fun z(s:List Int)=>[(1,.v W),(12,.v V),(13,.i (g .ln V)),(14,.i (z))]) (fun z(s:List Int)=>[]) (fun z(s:List Int)=>s=ys.drop z.toNat) (fun(s:List Int) rest=>(rest.zip s).all pB) (R) ys hR.symm rfl (Wk.weak (wkG [] ⟨rfl,rfl,rfl,rfl,trivial⟩ trivial (by decide) aI)) (fun z s B hz h0 hi he=> ?_) (fun z s x rest B z0 z1 z2 hx hy h0 hi hc e1 hB=> ?_)
 ·cbv;rw [he];cbv
  exact bj hF (by rw [←hQR,←h0];simp)
 have hzn:z.toNat<ys.length:=by have:=aB V;omega
 obtain⟨w,hwy⟩:∃w,ys[z.toNat]? =some w:=⟨_,zqc hzn⟩
 have hw:W[z.toNat]? =some (lc (ao w)):=by rw [hW];exact bh hwy
 have step:=zb (x:=x) (rest:=rest) hwy
 rw [show z.toNat+1=(z+1).toNat by omega]at step
 rw [hi,step]at h0
 have cU:=cU x
 obtain⟨U,hUU⟩:=nmE (mj x)
 have hU:0≤x.most→mj x=U:=fun hm=>hUU.symm
 rw [←hUU]at cU
 have hp:pB (x,w)= !(decide (w<x.least)||(decide (0≤x.most)&&decide (mj x<w))):=rfl
 obtain⟨y0,y1,y2,y3,y4,y5,y6,y7,y8⟩:=x
 dsimp only at hp hU
 obtain⟨qa,hqa⟩:=nmE (decide (w<y1))
 obtain⟨qb,hqb⟩:=nmE (decide (0≤y2))
 obtain⟨qc,hqc⟩:=nmE (decide (U<w))
 have ta:g .q .lss w y1=qa:=by rw [hqa];exact bn hg _ _
 have tb:g .q .geq y2 0=qb:=by rw [hqb];exact gO hg _ _
 have tc:g .q .gtr w U=qc:=by rw [hqc,cj hg]
 have hp2:pB (⟨y0,y1,y2,y3,y4,y5,y6,y7,y8⟩,w)= !(qa||(qb&&qc)):=by
  rw [hp,hqa,hqb,hqc]
  by_cases hm:0≤y2
  ·rw [hU hm]
  ·simp [hm]
 clear hp hqa hqb hqc
 cbv;rw [hc];cbv;refine goX hg _ z0 hy rfl ?_;cbv
 repeat' first
  |(refine goX hg _ z0 hw rfl ?_;cbv)
  |(refine goX hg _ z0 hy rfl ?_;cbv)
  |(rw [ta];cases qa<;>cbv)
  |(rw [tb];cases qb<;>cbv)
  |(refine aa hg cU ?_;cbv)
  |(rw [tc];cases qc<;>cbv)
 all_goals first
  |exact bj hF (by rw [←hQR,←h0,hp2];rfl)
  |(rw [e1];exact hB ((ys.drop (z+1).toNat)) _ _ ⟨(by rw [←h0,hp2];rfl),rfl⟩ (Wk.weak (wkG [] ⟨rfl,rfl,rfl,rfl,trivial⟩ trivial (by decide) aI)))
theorem pJ(xs:List ah)(ys:List Int)(hx:xs.length≤1048576)(hyy:ys.length≤1048576):PC0 82 [.c (.view (vw ah.c xs)),.c (.view (vw ao ys))] (.t (abl (DU xs ys))):=by
 obtain⟨V,hV⟩:=nmE (vw ah.c xs)
 have hVl:V.length=xs.length:=by rw [hV,af]
 have iV:bR V=true:=by rw [hV];exact aG _ _
 have kV:∀y∈V,y.length=9:=by rw [hV];exact bC (c:=ah.c) (k:=9) fun _=>rfl
 have dV:∀y∈V,y.all dat=true:=by rw [hV];exact az
 obtain⟨W,hW⟩:=nmE (vw ao ys)
 have hWl:W.length=ys.length:=by rw [hW,af]
 have iW:bR W=true:=by rw [hW];exact aG _ _
 have kW:∀y∈W,y.length=1:=by rw [hW];exact bC (c:=ao) (k:=1) fun _=>rfl
 have dW:∀y∈W,y.all dat=true:=by rw [hW];exact az
 obtain⟨R,hR⟩:=nmE ((xs.zip ys).all pB)
 obtain⟨Q,hQ⟩:=nmE (DU xs ys)
 have hQ2:Q=(decide (xs.length=ys.length)&&R):=by rw [hQ,hR];rfl
 have cU:=fun x=>dv x
 rw [←hV,←hW,←hQ]
 refine ae (aK f82) aD func82 fun g F hg hF=> ?_
 have t0:g .q .neq (g .ln W) (g .ln V)= !decide (xs.length=ys.length):=by
  rw [bk hg,bD hg,bD hg,aB,aB,hVl,hWl,bne_comm]
  by_cases h:xs.length=ys.length
  ·simp [h]
  ·simp [h];omega
 by_cases hlen:xs.length=ys.length
 rotate_left
 ·rw [zqt hlen]at t0
  have hQf:Q=false:=by rw [hQ2,zqt hlen];rfl
  cbv
  rw [t0]
  cbv
  exact bj hF hQf.symm
 rw [zqu hlen]at t0 hQ2
 have hQR:R=Q:=by rw [hQ2];rfl
 cbv
 rw [t0]
 cbv
 refine aY hg aD (by kernel_rfl) V (fun x=>lc (ah.c x)) xs hV hx (fun z(s:List Int)=>[(0,.v V),(1,.v W),(5,.i (z))]) (fun z(s:List Int)=>[]) (fun z(s:List Int)=>s=ys.drop z.toNat) (fun(s:List Int) rest=>(rest.zip s).all pB) (R) ys hR.symm rfl (Wk.weak (wkG [] ⟨rfl,rfl,rfl,trivial⟩ trivial (by decide) aI)) (fun z s B hz h0 hi he=> ?_) (fun z s x rest B z0 z1 z2 hx hy h0 hi hc e1 hB=> ?_)
 ·cbv;rw [he];cbv
  exact bj hF (by rw [←hQR,←h0];simp)
 have hzn:z.toNat<ys.length:=by have:=aB V;omega
 obtain⟨w,hwy⟩:∃w,ys[z.toNat]? =some w:=⟨_,zqc hzn⟩
 have hw:W[z.toNat]? =some (lc (ao w)):=by rw [hW];exact bh hwy
 have step:=zb (x:=x) (rest:=rest) hwy
 rw [show z.toNat+1=(z+1).toNat by omega]at step
 rw [hi,step]at h0
 have cU:=cU x
 obtain⟨U,hUU⟩:=nmE (s4 x)
 have hU:0≤x.most→mj x=U:=fun hm=>by rw [hUU];unfold s4 mj;split<;>split<;>omega
 rw [←hUU]at cU
 have hp:pB (x,w)= !(decide (w<x.least)||(decide (0≤x.most)&&decide (mj x<w))):=rfl
 obtain⟨y0,y1,y2,y3,y4,y5,y6,y7,y8⟩:=x
 dsimp only at hp hU
 obtain⟨qa,hqa⟩:=nmE (decide (w<y1))
 obtain⟨qb,hqb⟩:=nmE (decide (0≤y2))
 obtain⟨qc,hqc⟩:=nmE (decide (U<w))
 have ta:g .q .lss w y1=qa:=by rw [hqa];exact bn hg _ _
 have tb:g .q .geq y2 0=qb:=by rw [hqb];exact gO hg _ _
 have tc:g .q .gtr w U=qc:=by rw [hqc,cj hg]
 have hp2:pB (⟨y0,y1,y2,y3,y4,y5,y6,y7,y8⟩,w)= !(qa||(qb&&qc)):=by
  rw [hp,hqa,hqb,hqc]
  by_cases hm:0≤y2
  ·rw [hU hm]
  ·simp [hm]
 clear hp hqa hqb hqc
 cbv;rw [hc];cbv
 repeat' first
  |(refine goX hg _ z0 hw rfl ?_;cbv)
  |(refine goX hg _ z0 hy rfl ?_;cbv)
  |(rw [ta];cases qa<;>cbv)
  |(rw [tb];cases qb<;>cbv)
  |(refine aa hg cU ?_;cbv)
  |(rw [tc];cases qc<;>cbv)
 all_goals first
  |exact bj hF (by rw [←hQR,←h0,hp2];rfl)
  |(rw [e1];exact hB ((ys.drop (z+1).toNat)) _ _ ⟨(by rw [←h0,hp2];rfl),rfl⟩ (Wk.weak (wkG [] ⟨rfl,rfl,rfl,trivial⟩ trivial (by decide) aI)))
def lkO(ns:List ak)(n:Int)(w h:aw)(rtl:Bool):Bool:=if vG ns n w h=false then false else DU (kiO ns n w h rtl) (kzO ns n w h rtl)
theorem CY{ns:List ak}{n:Int}{w h:aw}(rtl:Bool)(hO:vG ns n w h=true):(kzO ns n w h rtl).length=(flK ns n).length:=by
 unfold kzO
 rw [if_neg (by rw [hO];simp),mK,lI]
theorem rX(ns:List ak)(hl:ns.length≤1048576)(hs:∀y∈ns,ak.small y)(n a b c d:Int)(rtl:Bool):PC0 27 [.agg [.view (vwA ak.ac ns)],ai n,agP ⟨a,b⟩,agP ⟨c,d⟩,abl rtl] (.t (abl (lkO ns n ⟨a,b⟩ ⟨c,d⟩ rtl))):=by
 have cO:=jz ns hl hs n a b c d
 have cz:=iy (qE ns hl hs n a b c d rtl) (bC (c:=ao) (k:=1) fun _=>rfl) az
 have ci:=iy (qF ns hl hs n a b c d rtl) (bC (c:=ah.c) (k:=9) fun _=>rfl) az
 have cN:=qG (kiO ns n ⟨a,b⟩ ⟨c,d⟩ rtl) (kzO ns n ⟨a,b⟩ ⟨c,d⟩ rtl) (Ak ..) (Ai ..)
 unfold lkO
 cases hO:vG ns n ⟨a,b⟩ ⟨c,d⟩
 case false=>
  rw [hO]at cO
  simp only [if_true]
  clear cz ci cN
  obtain⟨V,hV⟩:=nmE (vwA ak.ac ns)
  rw [←hV]at cO⊢
  refine ae (aK f27) aD func27 fun g F hg hF=> ?_
  cbv
  repeat'((first|refine ad hg cO ?_|refine aa hg cO ?_);cbv)
  exact bj hF rfl
 obtain⟨hT,hI,n1,n2,x,hx,hkl,hkd⟩:=qB hO
 have hzl:=CY rtl hO
 rw [hO]at cO
 simp only [Bool.true_eq_false,if_false]
 obtain⟨hf1,hf2⟩:=qL hx hkl hkd
 have cK:=k9 ns n x hl n1 (by omega) hx (by omega) hkd
 rw [←nM hx]at cK
 obtain⟨G,hG⟩:=nmE (vw ao (flK ns n))
 have hGl:G.length=(flK ns n).length:=by rw [hG,af]
 have iG:bR G=true:=by rw [hG];exact aG _ _
 have kG:∀y∈G,y.length=1:=by rw [hG];exact bC (c:=ao) (k:=1) fun _=>rfl
 have dG:∀y∈G,y.all dat=true:=by rw [hG];exact az
 rw [←hG]at cK
 have hZl:(vw ao (kzO ns n ⟨a,b⟩ ⟨c,d⟩ rtl)).length=G.length:=by rw [af,hzl,hG,af]
 obtain⟨Z,hZ⟩:=nmE (vw ao (kzO ns n ⟨a,b⟩ ⟨c,d⟩ rtl));(try rw [←hZ]at cz);(try rw [←hZ]at cN);(try rw [←hZ]at hZl)
 obtain⟨I,hI⟩:=nmE (vw ah.c (kiO ns n ⟨a,b⟩ ⟨c,d⟩ rtl));(try rw [←hI]at ci);(try rw [←hI]at cN)
 obtain⟨X,hX⟩:=nmE (DU (kiO ns n ⟨a,b⟩ ⟨c,d⟩ rtl) (kzO ns n ⟨a,b⟩ ⟨c,d⟩ rtl));(try rw [←hX]at cN);(try rw [←hX]at⊢)
 obtain⟨V,hV⟩:=nmE (vwA ak.ac ns)
 rw [←hV]at cO cz ci cK⊢
 clear hX hI hZ hG hV
 refine ae (aK f27) aD func27 fun g F hg hF=> ?_
 have e:g .q .eql (g .ln Z) (g .ln G)=true:=by rw [bv hg,bD hg,bD hg,aB,aB,hZl];simp
 cases X<;>cbv<;>(repeat'((first|refine ad hg cO ?_|refine ad hg cz ?_|refine ad hg ci ?_|refine ad hg cN ?_|refine aa hg cz ?_|refine aa hg ci ?_|refine aa hg cN ?_|rw [e]|refine bB hg cK (bp rfl) iG ?_|refine bN hg cK (bp rfl) iG ?_);cbv))<;>exact bj hF rfl
theorem ru(ns:List ak)(hl:ns.length≤1048576)(hs:∀y∈ns,ak.small y)(n a b c d:Int)(rtl:Bool):PC0 26 [.agg [.view (vwA ak.ac ns)],ai n,agP ⟨a,b⟩,agP ⟨c,d⟩,abl rtl] (.t (abl (lkO ns n ⟨a,b⟩ ⟨c,d⟩ rtl))):=by
 have cO:=kl ns hl hs n a b c d
 have cz:=pz ns hl hs n a b c d rtl
 have ci:=pI ns hl hs n a b c d rtl
 have cN:=pJ (kiO ns n ⟨a,b⟩ ⟨c,d⟩ rtl) (kzO ns n ⟨a,b⟩ ⟨c,d⟩ rtl) (Ak ..) (Ai ..)
 unfold lkO
 cases hO:vG ns n ⟨a,b⟩ ⟨c,d⟩
 case false=>
  rw [hO]at cO
  simp only [if_true]
  clear cz ci cN
  obtain⟨V,hV⟩:=nmE (vwA ak.ac ns)
  rw [←hV]at cO⊢
  refine ae (aK f26) aD func26 fun g F hg hF=> ?_
  cbv
  repeat'((first|refine ad hg cO ?_|refine aa hg cO ?_);cbv)
  exact bj hF rfl
 obtain⟨hT,hI,n1,n2,x,hx,hkl,hkd⟩:=qB hO
 have hzl:=CY rtl hO
 rw [hO]at cO
 simp only [Bool.true_eq_false,if_false]
 obtain⟨hf1,hf2⟩:=qL hx hkl hkd
 have cK:=kz ns n x hs hT hl n1 n2 hx (by omega) hkd
 rw [←nM hx]at cK
 obtain⟨G,hG⟩:=nmE (vw ao (flK ns n))
 have hGl:G.length=(flK ns n).length:=by rw [hG,af]
 have iG:bR G=true:=by rw [hG];exact aG _ _
 have kG:∀y∈G,y.length=1:=by rw [hG];exact bC (c:=ao) (k:=1) fun _=>rfl
 have dG:∀y∈G,y.all dat=true:=by rw [hG];exact az
 rw [←hG]at cK
 have hZl:(vw ao (kzO ns n ⟨a,b⟩ ⟨c,d⟩ rtl)).length=G.length:=by rw [af,hzl,hG,af]
 obtain⟨Z,hZ⟩:=nmE (vw ao (kzO ns n ⟨a,b⟩ ⟨c,d⟩ rtl));(try rw [←hZ]at cz);(try rw [←hZ]at cN);(try rw [←hZ]at hZl)
 obtain⟨I,hI⟩:=nmE (vw ah.c (kiO ns n ⟨a,b⟩ ⟨c,d⟩ rtl));(try rw [←hI]at ci);(try rw [←hI]at cN)
 obtain⟨X,hX⟩:=nmE (DU (kiO ns n ⟨a,b⟩ ⟨c,d⟩ rtl) (kzO ns n ⟨a,b⟩ ⟨c,d⟩ rtl));(try rw [←hX]at cN);(try rw [←hX]at⊢)
 obtain⟨V,hV⟩:=nmE (vwA ak.ac ns)
 rw [←hV]at cO cz ci cK⊢
 clear hX hI hZ hG hV
 refine ae (aK f26) aD func26 fun g F hg hF=> ?_
 have e:g .q .eql (g .ln Z) (g .ln G)=true:=by rw [bv hg,bD hg,bD hg,aB,aB,hZl];simp
 cases X<;>cbv<;>(repeat'((first|refine ad hg cO ?_|refine ad hg cz ?_|refine ad hg ci ?_|refine ad hg cN ?_|refine aa hg cz ?_|refine aa hg ci ?_|refine aa hg cN ?_|rw [e]|refine bB hg cK (bp rfl) iG ?_|refine bN hg cK (bp rfl) iG ?_);cbv))<;>exact bj hF rfl
theorem kT(x:kf)(hf:x.fit)(n:Int)(u v:aw)(rtl:Bool):PC0 6 [.agg x.ac,ai n,agP u,agP v,abl rtl] (.t (abl true)):=by
 have cz:=tX x 1048576 hf (by decide) (by decide)
 have ct:=fun hs=>tS x hs
 have ce:=fun hs=>ua x hs
 have sm:x.small→x.nodes.length≤1048576∧∀y∈x.nodes,ak.small y:=fun h=>by obtain⟨ns⟩:=x;exact⟨h.1,h.2.1⟩
 obtain⟨a,b⟩:=u
 obtain⟨c,d⟩:=v
 have cs:=fun hs:x.small=>ru x.nodes (sm hs).1 (sm hs).2 n a b c d rtl
 have ci:=fun hs:x.small=>rX x.nodes (sm hs).1 (sm hs).2 n a b c d rtl
 have t1:=mc ⟨a,b⟩
 have t2:=mc ⟨c,d⟩
 obtain⟨S,hS⟩:∃S:Prop,S=x.small:=⟨_,rfl⟩
 obtain⟨X,hX⟩:=nmE (lkO x.nodes n ⟨a,b⟩ ⟨c,d⟩ rtl)
 have hac:x.ac=[.view (vwA ak.ac x.nodes)]:=by obtain⟨ns⟩:=x;rfl
 rw [←hS]at cz ct ce cs ci
 rw [←hX]at cs ci
 rw [hac]at cz ct ce⊢
 obtain⟨V,hV⟩:=nmE (vwA ak.ac x.nodes)
 rw [←hV]at cz ct ce cs ci⊢
 clear hS hX hac hV sm hf
 refine ae (aK Tryz.f6) aD Tryz.func6 fun g F hg hF=> ?_
 have e0:g .qb .neq X X=false:=by rw [fc hg];simp
 cbv
 refine yS hg cz rfl (fun Z hZ=> ?_)
 obtain⟨_,hZ⟩:=hZ
 cbv
 cases e:g .q .lss Z 0
 case true=>
  cbv
  exact bj hF rfl
 rw [bn hg,zqo]at e
 have hs:=hZ (by omega)
 replace ct:=ct hs
 replace ce:=ce hs
 replace cs:=cs hs
 replace ci:=ci hs
 cbv
 (repeat'((first|rw [e0]|refine ad hg ct ?_|refine aa hg ct ?_|refine ad hg t1 ?_|refine aa hg t1 ?_|refine ad hg t2 ?_|refine aa hg t2 ?_|refine ad hg cs ?_|refine aa hg cs ?_|refine ad hg ci ?_|refine aa hg ci ?_|refine ad hg ce ?_|refine aa hg ce ?_);cbv))
 exact bj hF rfl
end Go.Proofs.YtdnnffbbhijmkaaGreat
