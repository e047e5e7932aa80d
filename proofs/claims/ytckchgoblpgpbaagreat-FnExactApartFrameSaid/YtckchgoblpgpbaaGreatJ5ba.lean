/- impl's children in the flow, their row sorted. -/
import Derived.Shelf.Lay
import Derived.Ground.GgtProg
import Derived.Test.YtckchgoblpgpbaaGreatJ5az
set_option linter.unusedVariables false
set_option linter.unusedSimpArgs false
set_option maxHeartbeats 8000000
namespace Go.Proofs.YtckchgoblpgpbaaGreat
open Go.ChangeShapes Go.WideShapes Go.ChangeAt Go.RowKit Am Go.Proofs.Tryz
set_option maxRecDepth 100000
def B9(x:af)(K R:LLA):List AC:= .J x.up:: .view K::(lc (aj.c x.style)++[.B x.measured,.view R])
theorem ye(x:af):x.ac=B9 x (vw ak x.kids) (vw aO.c x.table.rules):=rfl
def jL(ns:List af)(k:Int):Bool:=match ns[(k-1).toNat]? with|some y=> !y.style.hidden&&y.style.apart|none=>false
def apK(ns:List af)(n:Int):List Int:=(oh ns n).filter (jL ns)
def v8(xs:List Int)(n:Int):Bool:=xs.any fun x=>decide (x=n)
theorem mC{p:Int->Bool}{xs:List Int}{z:Int}{x:Int}(h0:0<=z)(hx:xs[z.toNat]? =some x):(xs.take (z+1).toNat).filter p=(xs.take z.toNat).filter p++if p x then [x]else []:=by
 rw [show(z+1).toNat=z.toNat+1 by omega,List.take_add_one,hx,List.filter_append]
 simp only [Option.toList_some]
 cases h:p x<;>simp [h]
theorem pK(xs ys:List Int):vw ak (xs++ys)=vw ak xs++vw ak ys:=by simp [vw]
theorem Hv{T:Nat->AV}{h:AH}{l':List (Nat×AV)}(e0:AB)(t k:Nat)(h0:h[0]? =some (.live e0))(hp:aC e0.es=true)(hk:rnK [some 0,none] [.live e0,.live ⟨t,k,[]⟩] T l'):Wk 0 T h l' [.live e0,.live ⟨t,k,[]⟩] [some 0,none]:=
 ⟨Nat.zero_le _,fun i hi=>absurd hi (Nat.not_lt_zero _),by simp,by
  simp only [rnH,zqw,List.getElem?_cons_succ,h0]
  exact⟨fun h=>absurd h (Nat.not_lt_zero _),⟨trivial,trivial,.inl ⟨trivial,hp⟩⟩,fun h=>absurd h (Nat.not_lt_zero _),rfl,trivial⟩,hk⟩
theorem bP(ns:List af)(n:Int)(x:af)(h1:1<=n)(h2:n<=1048576)(hx:ns[(n-1).toNat]? =some x)(V K R:LLA)(hV:V=vwA af.ac ns)(hK:K=vw ak x.kids)(hR:R=vw aO.c x.table.rules):PC0 44 [.agg [.view V],ai n] (.t (.agg (B9 x K R))):=by
 subst hV hK hR
 rw [<-ye]
 obtain⟨a0,a1,⟨a2,a3,a4,a5,a6,a7,a8,a9,ha,hb,hc,⟨hd,he⟩,⟨hf,hg⟩,⟨hh,hi⟩,⟨hj,hk⟩,⟨hl,hm⟩,⟨hn,ho⟩,⟨hp,hq⟩,hr,⟨⟨hs,ht⟩,⟨hu,hv⟩,⟨hw,hy⟩,⟨hz,hA⟩,⟨hB,hC⟩,⟨hD,hE⟩⟩,⟨⟨hF,hG⟩,⟨hH,hI⟩,⟨hJ,hL⟩,⟨hM,hN⟩,⟨hO,hP⟩,⟨hQ,hS⟩⟩,⟨hT,hU,hW,hX⟩,⟨hY,hZ,h0,h3⟩,h4,h5⟩,h6,⟨h7⟩⟩:=x
 exact fY _ n h1 h2 (gR hx)
theorem bm(ns:List af)(n:Int)(x:af)(h1:1<=n)(h2:n<=1048576)(hx:ns[(n-1).toNat]? =some x)(V K R:LLA)(hV:V=vwA af.ac ns)(hK:K=vw ak x.kids)(hR:R=vw aO.c x.table.rules):PC0 38 [.agg [.view V],ai n] (.t (.agg (B9 x K R))):=by
 subst hV hK hR
 rw [<-ye]
 obtain⟨a0,a1,⟨a2,a3,a4,a5,a6,a7,a8,a9,ha,hb,hc,⟨hd,he⟩,⟨hf,hg⟩,⟨hh,hi⟩,⟨hj,hk⟩,⟨hl,hm⟩,⟨hn,ho⟩,⟨hp,hq⟩,hr,⟨⟨hs,ht⟩,⟨hu,hv⟩,⟨hw,hy⟩,⟨hz,hA⟩,⟨hB,hC⟩,⟨hD,hE⟩⟩,⟨⟨hF,hG⟩,⟨hH,hI⟩,⟨hJ,hL⟩,⟨hM,hN⟩,⟨hO,hP⟩,⟨hQ,hS⟩⟩,⟨hT,hU,hW,hX⟩,⟨hY,hZ,h0,h3⟩,h4,h5⟩,h6,⟨h7⟩⟩:=x
 exact de _ n h1 h2 (gR hx)
theorem uy(xs:List Int)(n:Int)(hl:xs.length<=1048576):PC0 52 [.c (.view (vw ak xs)),ai n] (.t (abl (v8 xs n))):=by
 obtain⟨V,hV⟩:=nmE (vw ak xs)
 have hm:=lmV hV
 have iV:=imV hV
 have kV:=kmV (k:=1) hV fun _=>rfl
 have dV:=dmV hV
 have hf:aX V=(xs.length:Int):=by rw [az];omega
 have hd:0<=aX V:=by omega
 have hk:aX V<=1048576:=by omega
 have hh:∀z:Int,aX V<=z->(∀(i:Nat)(x:Int),i<z.toNat->xs[i]? =some x->x≠n)->v8 xs n=false:=fun z hz h=>by
  unfold v8
  rw [List.any_eq_false]
  intro x hx
  obtain⟨i,hi⟩:=List.mem_iff_getElem?.1 hx
  have:=h i x (by have:=(List.getElem?_eq_some_iff.1 hi).1;omega) hi
  simpa using this
 have hb:∀(i:Nat),xs[i]? =some n->v8 xs n=true:=fun i hi=>by
  unfold v8
  rw [List.any_eq_true]
  exact⟨n,zqd hi,by simp⟩
 rw [<-hV]
 refine ae (aJ f52) ay func52 fun g F hg hF=> ?_
 cbv
 refine bM hg ay (by kernel_rfl) (fun z:Int=>[(1,.i n),(7,.v V),(8,.i (g .ln V)),(9,.i z)]) (fun _=>[]) (fun z=>0<=z/\z<=aX V/\∀(i:Nat)(x:Int),i<z.toNat->xs[i]? =some x->x≠n) (fun z=>(aX V).toNat-z.toNat)
  0 [] ⟨Int.le_refl 0,hd,fun i x hi=>by simp at hi⟩ (wk0 zr4) (fun z B hs hB=> ?_)
 obtain⟨h0,h1,h2⟩:=hs
 cbv
 cases hc:g .q .lss z (g .ln V)
 ·rw [bh hg,bF hg,zqo]at hc
  cbv
  exact bk hF (hh z (by omega) h2).symm
 ·rw [bh hg,bF hg,zqp]at hc
  cbv
  obtain⟨x,hx⟩:=oL (xs:=xs) h0 (fz hf hc)
  have hj:V[z.toNat]? =some (lc (ak x)):=by rw [hV];exact bf hx
  refine goX hg _ h0 hj rfl ?_
  cbv
  have e1:g .w .add .i64 z 1=z+1:=by rw [aN hg,aw _ (by omega)]
  cases he:g .q .eql x n
  ·have ha:x≠n:=by rw [bj hg]at he;simpa using he
   cbv
   rw [e1]
   refine gg hB (z+1) [] (wk0 zr4) ⟨by omega,by omega,fun i y hi hy=> ?_⟩ (by omega)
   by_cases hi2:i<z.toNat
   ·exact h2 i y hi2 hy
   ·obtain rfl:i=z.toNat:=by omega
    rw [hx]at hy
    cases hy
    exact ha
  ·have ha:x=n:=by rw [bj hg]at he;simpa using he
   cbv
   exact bk hF (hb z.toNat (by rw [<-ha];exact hx)).symm
theorem pb(ns:List af)(n:Int)(x:af)(hl:ns.length<=1048576)(h1:1<=n)(h2:n<=1048576)(hx:ns[(n-1).toNat]? =some x)(hkl:x.kids.length<=1048576)(hk:∀k∈x.kids,isN ns k=true):dc prog 53 [.agg [.view (vwA af.ac ns)],ai n] fun res hi=>res= .o 0/\hi=[⟨3,1,vw ak (x.kids.filter (jL ns))⟩]:=by
 obtain⟨V,hV⟩:=nmE (vwA af.ac ns)
 obtain⟨K,hK⟩:=nmE (vw ak x.kids)
 obtain⟨Rt,hq⟩:=nmE (vw aO.c x.table.rules)
 obtain⟨G,hG⟩:=nmE (vw ak (x.kids.filter (jL ns)))
 have pG:=pmV hG
 have ho:aX K=(x.kids.length:Int):=by rw [az,hK,aq]
 have hn:0<=aX K:=by omega
 have xA:aX K<=1048576:=by omega
 have hd:∀z:Int,aX K<=z->vw ak ((x.kids.take z.toNat).filter (jL ns))=G:=fun z hz=>by rw [List.take_of_length_le (by omega),hG]
 have hh:∀z:Int,(vw ak ((x.kids.take z.toNat).filter (jL ns))).length<=1048576:=fun z=>by
  rw [aq]
  have:=List.length_filter_le (jL ns) (x.kids.take z.toNat)
  simp only [List.length_take]at this
  omega
 have he:∀(z:Int)(k:Int),0<=z->x.kids[z.toNat]? =some k->vw ak ((x.kids.take (z+1).toNat).filter (jL ns))=vw ak ((x.kids.take z.toNat).filter (jL ns))++(if jL ns k then [[.J k]]else []):=fun z k h0 hz=>by
  rw [mC h0 hz,pK]
  congr 1
  cases jL ns k<;>rfl
 have cn:=bP ns n x h1 h2 hx V K Rt hV hK hq
 rw [<-hV,<-hG]
 refine ae (aJ f53) ay func53 fun g F hg hF=> ?_
 cbv
 (first|refine ad hg cn ?_|refine aa hg cn ?_)
 cbv
 refine bM hg ay (by kernel_rfl) (fun t:Int×LLA=>[(2,.p 0),(5,.o 1),(12,.v K),(13,.i (g .ln K)),(14,.i t.1)]) (fun t=>[.bx 28 1 [.view V],.rw ⟨3,1,t.2⟩]) (fun t=>0<=t.1/\t.1<=aX K/\t.2=vw ak ((x.kids.take t.1.toNat).filter (jL ns))) (fun t=>(aX K).toNat-t.1.toNat)
  (0,[]) [some 0,none] ⟨Int.le_refl 0,hn,rfl⟩ (Hv _ _ _ rfl rfl zr5) (fun t B hs hB=> ?_)
 obtain⟨z,es⟩:=t
 obtain⟨h0,hm,hb⟩:=hs
 simp only at h0 hm hb
 have hu:=hh z
 rw [<-hb]at hu
 have pE:=pmV hb
 cbv
 cases hc:g .q .lss z (g .ln K)
 ·rw [bh hg,bF hg,zqo]at hc
  cbv
  obtain rfl:es=G:=by rw [hb,hd z (by omega)]
  exact bR hF rfl pG
 rw [bh hg,bF hg,zqp]at hc
 cbv
 obtain⟨k,hf⟩:=oL (xs:=x.kids) h0 (fz ho hc)
 have hv:K[z.toNat]? =some (lc (ak k)):=by rw [hK];exact bf hf
 have ht:=hk k (zqd hf)
 obtain⟨k1,k2,y,hy⟩:=bq ht
 have ha:=he z k h0 hf
 have hj:jL ns k=(!y.style.hidden&&y.style.apart):=by unfold jL;rw [hy]
 rw [<-hb,hj]at ha
 clear hj
 obtain⟨Ky,hp⟩:=nmE (vw ak y.kids)
 obtain⟨Ry,hr⟩:=nmE (vw aO.c y.table.rules)
 have cy:=bP ns k y k1 (by omega) hy V Ky Ry hV hp hr
 have e1:g .w .add .i64 z 1=z+1:=by rw [aN hg,aw _ (by omega)]
 obtain⟨c0,c1,⟨c2,c3,c4,c5,c6,c7,c8,c9,hw,hA,hC,⟨hD,hE⟩,⟨hH,hI⟩,⟨hJ,hL⟩,⟨hM,hN⟩,⟨hO,hP⟩,⟨hQ,hR⟩,⟨hS,hT⟩,hU,⟨⟨hW,hX⟩,⟨hY,hZ⟩,⟨h3,h4⟩,⟨h5,h6⟩,⟨h7,h8⟩,⟨h9,xa⟩⟩,⟨⟨xb,xc⟩,⟨xd,xe⟩,⟨xf,xg⟩,⟨xh,xi⟩,⟨xj,xk⟩,⟨xl,xm⟩⟩,⟨xn,xo,xp,xq⟩,⟨xr,xt,xu,xv⟩,xw,xx⟩,xy,⟨xz⟩⟩:=y
 replace ha:vw ak ((x.kids.take (z+1).toNat).filter (jL ns))=es++(if(!c9&&c8)=true then [[.J k]]else []):=ha
 refine goX hg _ h0 hv rfl ?_
 cbv
 (first|refine ad hg cy ?_|refine aa hg cy ?_)
 cbv
 cases c9<;>cases c8<;>cbv
 case false.true=>
  refine dg hg rfl (by decide) (by omega) ?_
  cbv
  rw [e1,gd hg]
  refine gg hB (z+1,_) [some 0,some 4] (wkS [0,4] (by decide) ⟨⟨_,rfl,rfl,rfl⟩,⟨_,rfl,rfl,?_⟩,trivial⟩ zr5) ⟨by simp only;omega,by simp only;omega,ha.symm⟩ (by show(aX K).toNat-(z+1).toNat<(aX K).toNat-z.toNat;omega)
  have:aC (vw ak ((x.kids.take (z+1).toNat).filter (jL ns)))=true:=aF _ _
  rw [ha]at this
  exact this
 all_goals(
  rw [e1]
  refine gg hB (z+1,es) [some 0,some 1] (wkS [0,1] (by decide) ⟨⟨_,rfl,rfl,rfl⟩,⟨_,rfl,rfl,pE⟩,trivial⟩ zr5) ⟨by simp only;omega,by simp only;omega,?_⟩ (by show(aX K).toNat-(z+1).toNat<(aX K).toNat-z.toNat;omega)
  show es=_
  rw [ha]
  simp)
theorem o1(ns:List af)(n:Int)(x:af)(hs:∀y∈ns,af.small y)(ht:eo ns=true)(hl:ns.length<=1048576)(h1:1<=n)(h2:n<=(ns.length:Int))(hx:ns[(n-1).toNat]? =some x)(hkl:x.kids.length<=1048576)(hk:∀k∈x.kids,isN ns k=true):dc prog 49 [.agg [.view (vwA af.ac ns)],ai n] fun res hi=>res= .o 0/\hi=[⟨3,1,vw ak (x.kids.filter (jL ns))⟩]:=by
 have cT:=jB ns hl hs
 rw [ht]at cT
 obtain⟨V,hV⟩:=nmE (vwA af.ac ns)
 have xC:aX V=(ns.length:Int):=by rw [az,hV,bC]
 have cI:=fC V n
 rw [show rng n 1 (aX V)=true by simp only [rng,zqs,zqp];omega]at cI
 obtain⟨K,hK⟩:=nmE (vw ak x.kids)
 obtain⟨Rt,hr⟩:=nmE (vw aO.c x.table.rules)
 obtain⟨G,hG⟩:=nmE (vw ak (x.kids.filter (jL ns)))
 have pG:=pmV hG
 have hp:aX K=(x.kids.length:Int):=by rw [az,hK,aq]
 have ho:0<=aX K:=by omega
 have xB:aX K<=1048576:=by omega
 have hd:∀z:Int,aX K<=z->vw ak ((x.kids.take z.toNat).filter (jL ns))=G:=fun z hz=>by rw [List.take_of_length_le (by omega),hG]
 have hh:∀z:Int,(vw ak ((x.kids.take z.toNat).filter (jL ns))).length<=1048576:=fun z=>by
  rw [aq]
  have:=List.length_filter_le (jL ns) (x.kids.take z.toNat)
  simp only [List.length_take]at this
  omega
 have he:∀(z:Int)(k:Int),0<=z->x.kids[z.toNat]? =some k->vw ak ((x.kids.take (z+1).toNat).filter (jL ns))=vw ak ((x.kids.take z.toNat).filter (jL ns))++(if jL ns k then [[.J k]]else []):=fun z k h0 hz=>by
  rw [mC h0 hz,pK]
  congr 1
  cases jL ns k<;>rfl
 have cn:=bm ns n x h1 (by omega) hx V K Rt hV hK hr
 rw [<-hV]at cT
 rw [<-hV,<-hG]
 refine ae (aJ f49) ay func49 fun g F hg hF=> ?_
 cbv
 (first|refine ad hg cT ?_|refine aa hg cT ?_)
 cbv
 (first|refine ad hg cI ?_|refine aa hg cI ?_)
 cbv
 (first|refine ad hg cn ?_|refine aa hg cn ?_)
 cbv
 refine bM hg ay (by kernel_rfl) (fun t:Int×LLA=>[(2,.p 0),(5,.o 1),(6,.v K),(7,.i t.1)]) (fun t=>[.bx 28 1 [.view V],.rw ⟨3,1,t.2⟩]) (fun t=>0<=t.1/\t.1<=aX K/\t.2=vw ak ((x.kids.take t.1.toNat).filter (jL ns))) (fun t=>(aX K).toNat-t.1.toNat)
  (0,[]) [some 0,some 1] ⟨Int.le_refl 0,ho,rfl⟩ (wkS [0,1] (by decide) ⟨⟨_,rfl,rfl,rfl⟩,⟨_,rfl,rfl,rfl⟩,trivial⟩ zr4) (fun t B hs hB=> ?_)
 obtain⟨z,es⟩:=t
 obtain⟨h0,hn,hb⟩:=hs
 simp only at h0 hn hb
 have hw:=hh z
 rw [<-hb]at hw
 have pE:=pmV hb
 cbv
 cases hc:g .q .lss z (g .ln K)
 ·rw [bh hg,bF hg,zqo]at hc
  cbv
  obtain rfl:es=G:=by rw [hb,hd z (by omega)]
  exact bR hF rfl pG
 rw [bh hg,bF hg,zqp]at hc
 cbv
 obtain⟨k,hf⟩:=oL (xs:=x.kids) h0 (fz hp hc)
 have hm:K[z.toNat]? =some (lc (ak k)):=by rw [hK];exact bf hf
 have hv:=hk k (zqd hf)
 obtain⟨k1,k2,y,hy⟩:=bq hv
 have ha:=he z k h0 hf
 have hj:jL ns k=(!y.style.hidden&&y.style.apart):=by unfold jL;rw [hy]
 rw [<-hb,hj]at ha
 clear hj
 obtain⟨Ky,hq⟩:=nmE (vw ak y.kids)
 obtain⟨Ry,hu⟩:=nmE (vw aO.c y.table.rules)
 have cy:=bm ns k y k1 (by omega) hy V Ky Ry hV hq hu
 have e1:g .w .add .i64 z 1=z+1:=by rw [aN hg,aw _ (by omega)]
 obtain⟨c0,c1,⟨c2,c3,c4,c5,c6,c7,c8,c9,hA,hC,hD,⟨hE,hH⟩,⟨hI,hJ⟩,⟨hL,hM⟩,⟨hN,hO⟩,⟨hP,hQ⟩,⟨hR,hS⟩,⟨hT,hU⟩,hW,⟨⟨hX,hY⟩,⟨hZ,h3⟩,⟨h4,h5⟩,⟨h6,h7⟩,⟨h8,h9⟩,⟨xa,xb⟩⟩,⟨⟨xc,xd⟩,⟨xe,xf⟩,⟨xg,xh⟩,⟨xi,xj⟩,⟨xk,xl⟩,⟨xm,xn⟩⟩,⟨xo,xp,xq,xr⟩,⟨xt,xu,xv,xw⟩,xx,xy⟩,xz,⟨xA⟩⟩:=y
 replace ha:vw ak ((x.kids.take (z+1).toNat).filter (jL ns))=es++(if(!c9&&c8)=true then [[.J k]]else []):=ha
 refine goX hg _ h0 hm rfl ?_
 cbv
 (first|refine ad hg cy ?_|refine aa hg cy ?_)
 cbv
 cases c9<;>cases c8<;>cbv
 case false.true=>
  refine goX hg _ h0 hm rfl ?_
  cbv
  refine dg hg rfl (by decide) (by omega) ?_
  cbv
  rw [e1,gd hg]
  refine gg hB (z+1,_) [some 0,some 4] (wkS [0,4] (by decide) ⟨⟨_,rfl,rfl,rfl⟩,⟨_,rfl,rfl,?_⟩,trivial⟩ zr4) ⟨by simp only;omega,by simp only;omega,ha.symm⟩ (by show(aX K).toNat-(z+1).toNat<(aX K).toNat-z.toNat;omega)
  have:aC (vw ak ((x.kids.take (z+1).toNat).filter (jL ns)))=true:=aF _ _
  rw [ha]at this
  exact this
 all_goals(
  rw [e1]
  refine gg hB (z+1,es) [some 0,some 1] (wkS [0,1] (by decide) ⟨⟨_,rfl,rfl,rfl⟩,⟨_,rfl,rfl,pE⟩,trivial⟩ zr4) ⟨by simp only;omega,by simp only;omega,?_⟩ (by show(aX K).toNat-(z+1).toNat<(aX K).toNat-z.toNat;omega)
  show es=_
  rw [ha]
  simp)
def xu(ns:List af)(n kid wide high:Int):Bool:=eo ns&&(rng n 1 (ns.length:Int)&&(v8 (apK ns n) kid&&(rng wide 0 1048576&&rng high 0 1048576)))
variable {ns:List af}
theorem io(h:eo ns=true){n:Int}{x:af}(h1:1<=n)(hx:ns[(n-1).toNat]? =some x):∀k∈x.kids,isN ns k=true:=fun k hk=>by
 simp only [eo,zqs]at h
 have:=(jP ns ns 0).1 h.2 _ x hx
 simp only [fG,zqs,zqf,gM]at this
 exact(this.2.2.2.1 k hk).1
theorem sD(x:af)(h:x.small):x.kids.length<=1048576:=by
 obtain⟨a0,a1,⟨a2,a3,a4,a5,a6,a7,a8,a9,ha,hb,hc,⟨hd,he⟩,⟨hf,hg⟩,⟨hh,hi⟩,⟨hj,hk⟩,⟨hl,hm⟩,⟨hn,ho⟩,⟨hp,hq⟩,hr,⟨⟨hs,ht⟩,⟨hu,hv⟩,⟨hw,hx⟩,⟨hy,hz⟩,⟨hA,hB⟩,⟨hC,hD⟩⟩,⟨⟨hE,hF⟩,⟨hG,hH⟩,⟨hI,hJ⟩,⟨hK,hL⟩,⟨hM,hN⟩,⟨hO,hP⟩⟩,⟨hQ,hR,hS,hT⟩,⟨hU,hV,hW,hX⟩,hY,hZ⟩,h0,⟨h1⟩⟩:=x
 exact h.1
theorem DG{n kid:Int}{x:af}(hx:ns[(n-1).toNat]? =some x)(h:v8 (apK ns n) kid=true):kid∈x.kids:=by
 simp only [v8,apK,oh,hx,List.any_eq_true,List.mem_filter,zqp]at h
 obtain⟨k,⟨h1,_⟩,rfl⟩:=h
 exact h1
theorem EG(xs:List Int)(n:Int):decide (cnt xs n=0)= !v8 xs n:=by
 have hb:∀xs:List Int,0<=cnt xs n/\(cnt xs n=0↔v8 xs n=false):=fun xs=>by
  induction xs with
  |nil=>simp [cnt,v8]
  |cons x xs ih=>
   have e:cnt (x::xs) n=(if x=n then 1 else 0)+cnt xs n:=by simp [cnt]
   have f:v8 (x::xs) n=(decide (x=n)||v8 xs n):=by simp [v8]
   rw [e,f]
   obtain⟨i1,i2⟩:=ih
   by_cases hx:x=n
   ·rw [if_pos hx]
    simp only [hx,decide_true,Bool.true_or]
    exact⟨by omega,by constructor<;>intro h<;>first|omega|cases h⟩
   ·rw [if_neg hx]
    simp only [hx,decide_false,Bool.false_or]
    exact⟨by omega,by rw [<-i2];constructor<;>intro h<;>omega⟩
 have:=(hb xs).2
 cases hh:v8 xs n
 ·simp [this.2 hh]
 ·have ha:cnt xs n≠0:=fun h0=>by rw [this.1 h0]at hh;cases hh
  simp [ha]
theorem qI(ns:List af)(n kid:Int)(x y:af)(hl:ns.length<=1048576)(h1:isN ns n=true)(h2:isN ns kid=true)(hx:ns[(n-1).toNat]? =some x)(hy:ns[(kid-1).toNat]? =some y)(rtl:Bool)(wide high:Int):PC0 81 [.agg [.view (vwA af.ac ns),.B rtl,.imm (.pointer none)],ai n,ai kid,ai wide,ai high] (.t (.agg (apC x.style y.style rtl (tU x.style wide) (vK x.style high)))):=by
 obtain⟨V,hV⟩:=nmE (vwA af.ac ns)
 obtain⟨K,hK⟩:=nmE (vw ak x.kids)
 obtain⟨Rt,hb⟩:=nmE (vw aO.c x.table.rules)
 obtain⟨Ky,ha⟩:=nmE (vw ak y.kids)
 obtain⟨Ry,hc⟩:=nmE (vw aO.c y.table.rules)
 have b1:=bq h1
 have b2:=bq h2
 have cn:=bP ns n x b1.1 (by have:=b1.2.1;omega) hx V K Rt hV hK hb
 have cy:=bP ns kid y b2.1 (by have:=b2.2.1;omega) hy V Ky Ry hV ha hc
 have cp:=uC x.style wide high
 obtain⟨W,hW⟩:=nmE (tU x.style wide)
 obtain⟨H,hH⟩:=nmE (vK x.style high)
 rw [<-hW,<-hH]at cp
 rw [<-hV,<-hW,<-hH]
 refine ae (aJ f81) ay func81 fun g F hg hF=> ?_
 cbv
 repeat'((first|refine aa hg cn ?_|refine aa hg cy ?_|refine ad hg cp ?_);cbv)
 refine fg hF ?_ ?_
 ·rfl
 ·exact⟨rfl,rfl⟩
theorem vf(ns:List af)(hl:ns.length<=1048576)(hs:∀y∈ns,af.small y)(n wide high:Int):PC0 47 [.agg [.view (vwA af.ac ns)],ai n,ai wide,ai high] (.t (abl (eo ns&&(rng n 1 (ns.length:Int)&&(rng wide 0 1048576&&rng high 0 1048576))))):=by
 have cT:=jB ns hl hs
 obtain⟨V,hV⟩:=nmE (vwA af.ac ns)
 have ha:aX V=(ns.length:Int):=by rw [az,hV,bC]
 have cI:=fC V n
 have cw:=bi wide 0 1048576
 have ch:=bi high 0 1048576
 rw [<-hV]at cT⊢
 rw [<-ha]
 clear ha hV hs hl
 obtain⟨T,hT⟩:=nmE (eo ns)
 obtain⟨I,hI⟩:=nmE (rng n 1 (aX V))
 obtain⟨W,hW⟩:=nmE (rng wide 0 1048576)
 obtain⟨H,hH⟩:=nmE (rng high 0 1048576)
 rw [<-hT]at cT
 rw [<-hI]at cI
 rw [<-hW]at cw
 rw [<-hH]at ch
 rw [<-hT,<-hI,<-hW,<-hH]
 clear hT hI hW hH
 cases T<;>cases I<;>cases W<;>cases H<;>(
  refine ae (aJ f47) ay func47 fun g F hg hF=> ?_
  cbv
  (repeat'((first|refine ad hg cT ?_|refine ad hg cI ?_|refine ad hg cw ?_|refine ad hg ch ?_);cbv))
  exact bk hF rfl)
end Go.Proofs.YtckchgoblpgpbaaGreat
namespace Go.Proofs.YtckchgoblpgpbaaGreat
open Go.Shelf Go.RowKit Go.Lib Go.Sort Am Go.Proofs.Tryz
def l4(f:Int->Int)(x:Int):List Int->List Int
 | []=>[x]
 |y::r=>if f x<f y then y::l4 f x r else x::y::r
def ltF(f:Int->Int)(x y:Int):Bool:=decide (f x<f y)
variable {d:Array Int}{pre post:List Int}
theorem uU{x:Int}(h:d.toList=pre++x::post):d[pre.length]! =x:=by
 have hl:pre.length<d.size:=by rw [<-Array.length_toList,h];simp
 rw [getElem!_pos d _ hl,<-Array.getElem_toList]
 simp [h]
theorem BK{x y:Int}(h:d.toList=pre++y::x::post):(swp d (pre.length+1) pre.length).toList=pre++x::y::post:=by
 have e1:d[pre.length]! =y:=uU h
 have e2:d[pre.length+1]! =x:=by
  have:=uU (d:=d) (pre:=pre++[y]) (post:=post) (x:=x) (by rw [h];simp)
  simpa using this
 unfold swp
 rw [e1,e2,Array.toList_setIfInBounds,Array.toList_setIfInBounds,h]
 apply List.ext_getElem?
 intro i
 simp only [List.getElem?_set,List.length_set,zqe,zqx,List.getElem?_append,List.getElem?_cons]
 split<;>split<;>split<;>(try split)<;>(try split)<;>first|rfl|omega|(simp_all<;>omega)
theorem sT(f:Int->Int):∀(j:Nat)(d:Array Int)(pre post:List Int)(x:Int),pre.length=j->d.toList=pre++x::post->(insInner (ltF f) 0 j d).toList=(l4 f x pre.reverse).reverse++post
 |0,d,pre,post,x,hj,h=>by
  obtain rfl:=List.length_eq_zero_iff.1 hj
  rw [insInner]
  simpa [l4]using h
 |j+1,d,pre,post,x,hj,h=>by
  rcases List.eq_nil_or_concat pre with rfl|⟨pre',y,rfl⟩
  ·simp at hj
  have ha:pre'.length=j:=by simpa using hj
  have h':d.toList=pre'++y::x::post:=by rw [h];simp
  have e1:d[j]! =y:=by rw [<-ha];exact uU h'
  have e2:d[j+1]! =x:=by
   have:=uU (d:=d) (pre:=pre'++[y]) (post:=post) (x:=x) (by rw [h'];simp)
   rw [<-ha];simpa using this
  rw [insInner,e1,e2]
  have hr:(pre'.concat y).reverse=y::pre'.reverse:=by simp
  rw [hr,l4]
  by_cases hlt:f x<f y
  ·have:(decide (j+1>0)&&ltF f x y)=true:=by simp [ltF,hlt]
   rw [if_pos this,if_pos hlt,sT f j _ pre' (y::post) x ha (by rw [<-ha];exact BK h')]
   simp
  ·have:(decide (j+1>0)&&ltF f x y)=false:=by simp [ltF,hlt]
   rw [if_neg (by rw [this];simp),if_neg hlt,h']
   simp
theorem sE(lt:Int->Int->Bool)(a:Nat):∀(j:Nat)(d:Array Int),(insInner lt a j d).size=d.size
 |0,d=>by rw [insInner]
 |j+1,d=>by
  rw [insInner]
  split
  ·rw [sE lt a j,size_swp]
  ·rfl
theorem sO(f:Int->Int)(b:Nat):∀(rest A:List Int)(d:Array Int),d.toList=A++rest->A.length+rest.length=b->(insOuter (ltF f) 0 b A.length d).toList=(rest.foldl (fun ha x=>l4 f x ha) A.reverse).reverse
 | [],A,d,h,hb=>by
  rw [insOuter,if_neg (by simp at hb;omega)]
  simpa using h
 |x::post,A,d,h,hb=>by
  simp only [zqx]at hb
  rw [insOuter,if_pos (by omega)]
  have hi:=sT f A.length d A post x rfl h
  have hl:(l4 f x A.reverse).reverse.length=A.length+1:=by
   have h1:=congrArg List.length hi
   have h2:(insInner (ltF f) 0 A.length d).size=d.size:=sE _ _ _ _
   rw [Array.length_toList,h2,<-Array.length_toList,h]at h1
   simp only [zqe,zqx]at h1
   omega
  have:=sO f b post (l4 f x A.reverse).reverse _ hi (by omega)
  rw [hl,List.reverse_reverse]at this
  rw [this,List.foldl_cons]
theorem vl(f:Int->Int)(xs:List Int):(Sort.insertionSort (ltF f) xs.toArray 0 xs.toArray.size).toList=(xs.foldl (fun ha x=>l4 f x ha) []).reverse:=by
 unfold Sort.insertionSort
 cases xs with
 |nil=>
  rw [insOuter,if_neg (by simp)];rfl
 |cons x post=>
  have:=sO f (x::post).toArray.size post [x] (x::post).toArray rfl (by simp;omega)
  simpa [l4]using this
theorem AO(f:Int->Int)(x:Int):∀(hb:List Int)(a:Nat),a<=hb.length->(∀i y,a<=i->hb[i]? =some y->f x<f y)->(l4 f x hb.reverse).reverse=(l4 f x (hb.take a).reverse).reverse++hb.drop a:=by
 intro hb
 induction h:hb.length generalizing hb with
 |zero=>
  intro a ha _
  obtain rfl:=List.length_eq_zero_iff.1 h
  simp
 |succ n ih=>
  intro a ha hy
  rcases List.eq_nil_or_concat hb with rfl|⟨o,y,rfl⟩
  ·simp at h
  rw [List.concat_eq_append]at *
  simp only [zqe,zqm,Nat.add_right_cancel_iff]at h
  by_cases ha2:a=(o++[y]).length
  ·subst ha2
   rw [List.take_length,List.drop_length,List.append_nil]
  ·have hc:a<=o.length:=by simp at ha ha2;omega
   have h1:=hy o.length y hc (by simp)
   have:=ih o h a (by omega) (fun i z hi hz=>hy i z hi (by rw [zqh (List.getElem?_eq_some_iff.1 hz).1];exact hz))
   rw [List.reverse_append,List.reverse_singleton,List.singleton_append,l4,if_pos h1,List.reverse_cons,this,List.take_append_of_le_length hc,List.drop_append_of_le_length hc]
   simp
theorem AN(f:Int->Int)(x:Int)(out:List Int)(a:Nat)(ha:a<=out.length)(hs:a=0\/∃y,out[a-1]? =some y/\¬f x<f y)(hy:∀i y,a<=i->out[i]? =some y->f x<f y):(l4 f x out.reverse).reverse=out.take a++x::out.drop a:=by
 rw [AO f x out a ha hy]
 rcases hs with rfl|⟨y,h1,h2⟩
 ·simp [l4]
 ·have hl:a-1<out.length:=(List.getElem?_eq_some_iff.1 h1).1
  have h0:0<a:=by
   rcases Nat.eq_zero_or_pos a with rfl|h
   ·exact absurd (hy 0 y (Nat.le_refl _) (by simpa using h1)) h2
   ·exact h
  have e:out.take a=out.take (a-1)++[y]:=by
   conv=>lhs;rw [show a=a-1+1 by omega]
   rw [List.take_add_one,h1];rfl
  rw [e,List.reverse_append,List.reverse_singleton,List.singleton_append,l4,if_neg h2]
  simp
theorem uv(f:Int->Int)(x:Int):∀l:List Int,(l4 f x l).length=l.length+1
 | []=>rfl
 |y::r=>by
  rw [l4];split
  ·simp [uv f x r]
  ·simp
theorem uu(f:Int->Int)(x k:Int):∀l:List Int,k∈l4 f x l↔k=x\/k∈l
 | []=>by simp [l4]
 |y::r=>by
  rw [l4];split
  ·simp only [List.mem_cons,uu f x k r]
   constructor
   ·rintro(h|h|h)<;>simp [h]
   ·rintro(h|h|h)<;>simp [h]
  ·simp
def gY(f:Int->Int)(xs:List Int):List Int:=(xs.foldl (fun acc x=>l4 f x acc) []).reverse
theorem wa(f:Int->Int)(k:Int):∀(xs ha:List Int),k∈xs.foldl (fun ha x=>l4 f x ha) ha↔k∈xs\/k∈ha
 | [],ha=>by simp
 |x::xs,ha=>by
  rw [List.foldl_cons,wa f k xs,uu]
  simp only [List.mem_cons]
  constructor
  ·rintro(h|h|h)<;>simp [h]
  ·rintro((h|h)|h)<;>simp [h]
theorem vm(f:Int->Int)(k:Int)(xs:List Int):k∈gY f xs↔k∈xs:=by simp [gY,wa]
theorem wb(f:Int->Int):∀(xs ha:List Int),(xs.foldl (fun ha x=>l4 f x ha) ha).length=xs.length+ha.length
 | [],ha=>by simp
 |x::xs,ha=>by rw [List.foldl_cons,wb f xs,uv];simp;omega
theorem nf(f:Int->Int)(xs:List Int):(gY f xs).length=xs.length:=by simp [gY,wb]
variable {cs:List AC}
theorem BX{F F':Nat->Prop}{w w':World}{b:Nat}(hF:∀b,F b->F' b)(hw:∀b,F b->w'.heap[b]? =w.heap[b]?)(hb:w'.heap[b]? =w.heap[b]?)(h:RPL F w b 0 cs):RPL F' w' b 0 cs:=
 RPL.mk fun j c hj=>by
  obtain⟨u,hu,ho,hr⟩:=RPL.get h hj
  exact⟨u,by rw [s9 hb];exact hu,ho,RP.ext hF hw hr⟩
theorem vR{P:Program}{g:FuncId}{f:Int->Int}{p:Int->Prop}{n:Nat}
  (hc:∀(dk:List Int)(i j:Nat),dk.length=n->(∀k∈dk,p k)->i<n->j<n->dc P g [ai (i:Int),ai (j:Int),.c (.eptr cs 0),.c (.eptr [.view (vw ak dk)] 0)] fun res hh=>res= .t (abl (decide (f (dk[i]!)<f (dk[j]!))))/\hh=[])
  {F:Nat->Prop} {w:World} {blk bo bt cap:Nat} {d:Array Int} (hF:∀b,F b->b<w.heap.size) (hFb:¬F blk) (hblk:blk<w.heap.size) (hbo:bo<w.heap.size) (hbt:bt<w.heap.size) (ho:bo≠blk) (ht:bt≠blk)
  (hco:w.cell? ⟨bo,0,none⟩=some (.slice (some ⟨blk,0,none⟩) n cap)) (hn:n<=cap) (hm:cap<=maxLen) (hct:RPL F w bt 0 cs) (hd:d.size=n) (hH:Holds (Value.int .i64) w blk 0 d):
  sw P g #[.pointer (some ⟨bt,0,none⟩),.pointer (some ⟨bo,0,none⟩)] (Value.int .i64) (ltF f) p blk 0 n w:=fun W dk hs hp hW i j hi hj=>by
 obtain⟨F',hf⟩:∃F':Nat->Prop,F'=fun b=>F b\/b=bo\/b=bt\/b=blk:=⟨_,rfl⟩
 have hg:∀b,F b->W.heap[b]? =w.heap[b]? :=fun b hb=>(hW.at_ b (hF b hb)).trans (iB (fun e=>hFb (e▸hb)))
 have hy:=hW.holds hblk hH (hs.trans hd.symm)
 have hl:W.cell? ⟨bo,0,none⟩=some (.slice (some ⟨blk,0,none⟩) n cap):=by rw [hW.cell hbo ho];exact hco
 have hr:RPL F' W bt 0 cs:=BX (fun b hb=>by rw [hf];exact .inl hb) hg ((hW.at_ bt hbt).trans (iB ht)) hct
 have ha:(vw ak dk.toList).length=n:=by rw [aq];simpa using hs
 have hu:RP F' W (.view (vw ak dk.toList)) (.slice (some ⟨blk,0,none⟩) n cap):=by
  unfold RP
  refine⟨_,cap,by rw [ha],by rw [ha];exact hn,hm,.inr ⟨blk,0,1,rfl,by rw [hf];exact .inr (.inr (.inr rfl)),RPE.mk fun q x hq=> ?_⟩⟩
  have he:q<dk.size:=by have:=(List.getElem?_eq_some_iff.1 hq).1;rw [ha]at this;omega
  have hx:x=lc (ak dk[q]!):=by
   have h1:dk.toList[q]? =some dk[q]! :=by rw [getElem!_pos dk q he];simp [he]
   have:=bf (c:=ak) h1
   rw [hq]at this;exact Option.some.inj this
  subst hx
  refine⟨rfl,RPL.mk fun t c ht=> ?_⟩
  have:t=0:=by
   have:=(List.getElem?_eq_some_iff.1 ht).1
   simp [lc,ak]at this;omega
  subst this
  have:c= .imm (.int .i64 dk[q]!):=by simpa [lc,ak]using ht.symm
  subst this
  refine⟨.int .i64 dk[q]!,?_,rfl,by unfold RP;rfl⟩
  have:=(hy q he).1
  simpa using this
 have hv:=hc dk.toList i j (by simpa using hs) (fun k hk=>by
  obtain⟨q,hq⟩:=List.mem_iff_getElem?.1 hk
  have he:q<dk.size:=by have:=(List.getElem?_eq_some_iff.1 hq).1;simpa using this
  have:=hp q (by omega)
  rw [getElem!_pos dk q he]at this
  have h2:k=dk[q]:=by simp [he]at hq;exact hq.symm
  rw [h2];exact this) hi hj
 have hw:∀q,q<n->dk.toList[q]! =dk[q]! :=fun q hq=>by
  rw [getElem!_pos dk q (by omega),getElem!_pos dk.toList q (by simp;omega)];simp
 rw [hw i hi,hw j hj]at hv
 have hz:∀b,F' b->b<W.heap.size:=fun b hb=>by
  rw [hf]at hb
  refine Nat.lt_of_lt_of_le ?_ hW.size
  rcases hb with hb|rfl|rfl|rfl
  ·exact hF b hb
  ·exact hbo
  ·exact hbt
  ·exact hblk
 refine(hv.2 F' W [] [.int .i64 i,.int .i64 j,.pointer (some ⟨bt,0,none⟩),.pointer (some ⟨bo,0,none⟩)] (RH.empty hz (Nat.zero_le _)) rfl (fun q x hq=> ?_)).mono ?_
 ·match q,hq with
  |0,hq=>obtain rfl:=Option.some.inj hq.symm;exact⟨_,rfl,rfl⟩
  |1,hq=>obtain rfl:=Option.some.inj hq.symm;exact⟨_,rfl,rfl⟩
  |2,hq=>obtain rfl:=Option.some.inj hq.symm;exact⟨_,rfl,bt,0,rfl,by rw [hf];exact .inr (.inr (.inl rfl)),hr⟩
  |3,hq=>
   obtain rfl:=Option.some.inj hq.symm
   refine⟨_,rfl,bo,0,rfl,by rw [hf];exact .inr (.inl rfl),RPL.mk fun t c ht=> ?_⟩
   have h0:t=0:=by
    have:=(List.getElem?_eq_some_iff.1 ht).1
    simp at this;omega
   subst h0
   obtain rfl:=Option.some.inj ht.symm
   exact⟨_,hl,rfl,hu⟩
  |q+4,hq=>simp at hq
 ·rintro e w' ⟨v,res,h',m',F'',rfl,⟨hh,rfl,hq,_⟩,hG,hS,hV⟩
  subst hq
  refine⟨?_,hS.os,hS.tape,hS.output,hS.size,fun b hb=>hS.blk b hb (fun r ab c h=>by simp at h)⟩
  have:v= .bool (decide (f dk[i]! <f dk[j]!)):=hV
  rw [this];rfl
def lY(ns:List af)(k:Int):Bool:=match ns[(k-1).toNat]? with|some y=> !y.style.hidden&& !y.style.apart|none=>false
def ix(ns:List af)(k:Int):Int:=match ns[(k-1).toNat]? with|some y=>y.style.order|none=>0
section
variable {F:Nat->Prop}{w w1 w2 w':World}{m m1:AM}{h h1:AH}
theorem sC(s:ek F w m h w1 m1 h1)(hos:w2.os=w1.os)(htp:w2.tape=w1.tape)(hou:w2.output=w1.output)(hsz:w1.heap.size<=w2.heap.size)(hb:∀b,b<w1.heap.size->w2.heap[b]? =w1.heap[b]?):ek F w m h w2 m1 h1:=by
 refine⟨⟨fun r ab hr=> ?_,s.hp.inj,s.hp.len,fun b ha=>Nat.lt_of_lt_of_le (s.hp.old b ha) hsz,Nat.le_trans s.hp.lo hsz⟩,s.keeps,hos.trans s.os,htp.trans s.tape,hou.trans s.output,Nat.le_trans s.size hsz,fun b ha hn=>(hb b (Nat.lt_of_lt_of_le ha s.size)).trans (s.blk b ha hn),s.own⟩
 rcases s.hp.at_ r ab hr with h3|⟨b,c,h3,h4,h5⟩
 ·exact .inl h3
 ·exact .inr ⟨b,c,h3,h4,RB.ext (fun _ h=>h) (fun b' ha=>hb b' (s.hp.old b' ha)) (fS.refl _ _) (hb b (s.hp.lt hr h3).2) h5⟩
theorem wJ(hH:RH F w m h){r b cap ty:Nat}{xs:List Int}{d:Array Int}(h1:h[r]? =some (.live ⟨ty,1,vw ak xs⟩))(h2:m[r]? =some (some (b,cap)))(hd:d.size=xs.length)(hS:kq (Value.int .i64) w b 0 d w'):ek F w m h w' m (h.set r (.live ⟨ty,1,vw ak d.toList⟩)):=by
 obtain⟨_,hF,cur,hc,hs,hf,hl,ha⟩:=hH.get h1 h1 h2
 simp only [Nat.mul_one,aq]at hs hf
 have hh:(putCells (Value.int .i64) 0 d cur).size=cur.size:=by simp [putCells]
 have hg:ek F w m h (w.setRow b (putCells (Value.int .i64) 0 d cur)) m (h.set r (.live ⟨ty,1,vw ak d.toList⟩)):=ek.update hH h1 h2 rfl rfl (by simp [aq,hd]) (by rw [hh];simpa using hs) (fun i x hx=>by
  have hi:i<d.size:=by have:=(List.getElem?_eq_some_iff.1 hx).1;simpa [aq]using this
  have hk:x=lc (ak d[i]!):=by
   have h3:d.toList[i]? =some d[i]! :=by rw [getElem!_pos d i hi];simp [hi]
   have:=bf (c:=ak) h3
   rw [hx]at this;exact Option.some.inj this
  subst hk
  refine⟨rfl,fun j c hj=> ?_⟩
  obtain rfl:j=0:=by
   have:=(List.getElem?_eq_some_iff.1 hj).1
   simp [lc,ak]at this;omega
  obtain rfl:c= .imm (.int .i64 d[i]!):=by simpa [lc,ak]using hj.symm
  have he:i<cur.size:=by omega
  exact⟨.int .i64 d[i]!,by simp [putCells,Array.getElem?_eq_getElem he,hi],rfl,rfl⟩)
 refine sC hg hS.os hS.tape hS.output (by simpa using hS.size) (fun b' hb=> ?_)
 rw [hS.at_ b' (by simpa using hb)]
 by_cases hbb:b'=b
 ·subst hbb
  rw [setRow_heap w b' cur _ _ _ hc]
  simp only [putRow,mapBlock,Array.getElem?_modify,hc,if_true,Option.map_some,onCells]
 ·rw [iB hbb,setRow_other _ _ _ _ hbb]
end
shelf_lay LaysGt.n8 Ggt 8 at Tryz as Tryz.sl8
theorem CU{d:List Int}{i:Nat}(h:i<d.length):d[i]? =some d[i]! :=by rw [getElem!_pos d i h];simp [h]
theorem zg(ns:List af)(dk:List Int)(hl:ns.length<=1048576)(hk:∀k∈dk,isN ns k=true)(i j:Nat)(hi:i<dk.length)(hj:j<dk.length):PC0 281 [ai (i:Int),ai (j:Int),.c (.eptr [.view (vwA af.ac ns)] 0),.c (.eptr [.view (vw ak dk)] 0)] (.t (abl (decide (ix ns (dk[i]!)<ix ns (dk[j]!))))):=by
 obtain⟨V,hV⟩:=nmE (vwA af.ac ns)
 obtain⟨D,hD⟩:=nmE (vw ak dk)
 obtain⟨a,ha⟩:=nmE (dk[i]!)
 obtain⟨b,hb⟩:=nmE (dk[j]!)
 have ga:dk[i]? =some a:=by rw [ha];exact CU hi
 have gb:dk[j]? =some b:=by rw [hb];exact CU hj
 obtain⟨a1,a2,xa,hc⟩:=bq (hk a (zqd ga))
 obtain⟨b1,b2,xb,hd⟩:=bq (hk b (zqd gb))
 have ya:D[((i:Int)).toNat]? =some (lc (ak a)):=by rw [hD];exact bf ga
 have yb:D[((j:Int)).toNat]? =some (lc (ak b)):=by rw [hD];exact bf gb
 have i0:(0:Int)<=(i:Int):=Int.natCast_nonneg i
 have j0:(0:Int)<=(j:Int):=Int.natCast_nonneg j
 have oa:ix ns a=xa.style.order:=by unfold ix;rw [hc]
 have ob:ix ns b=xb.style.order:=by unfold ix;rw [hd]
 rw [<-hV,<-hD,<-ha,<-hb,oa,ob]
 clear oa ob
 obtain⟨Ka,he⟩:=nmE (vw ak xa.kids)
 obtain⟨Ra,hh⟩:=nmE (vw aO.c xa.table.rules)
 obtain⟨Kb,hf⟩:=nmE (vw ak xb.kids)
 obtain⟨Rb,hm⟩:=nmE (vw aO.c xb.table.rules)
 have ca:=bP ns a xa a1 (by omega) hc V Ka Ra hV he hh
 have cb:=bP ns b xb b1 (by omega) hd V Kb Rb hV hf hm
 obtain⟨I,hI⟩:∃I:Int,I=(i:Int):=⟨_,rfl⟩
 obtain⟨J,hJ⟩:∃J:Int,J=(j:Int):=⟨_,rfl⟩
 rw [<-hI]at ya i0⊢
 rw [<-hJ]at yb j0⊢
 clear hI hJ ga gb hc hd
 refine ae (aJ f281) ay func281 fun g F hg hF=> ?_
 cbv
 refine goX hg _ i0 ya rfl ?_
 cbv
 (first|refine ad hg ca ?_|refine aa hg ca ?_)
 cbv
 refine goX hg _ j0 yb rfl ?_
 cbv
 (first|refine ad hg cb ?_|refine aa hg cb ?_)
 cbv
 rw [bh hg]
 exact bk hF rfl
noncomputable def siT:TypeInfo:=(prog.info? 24).get (by kernel_rfl)
noncomputable def siE:TypeInfo:=(prog.info? 3).get (by kernel_rfl)
theorem siK(n:Nat)(h2:2<=n):Lib.swapperK n siE 2=5:=by
 have a:siE.hasPointers=false:=by kernel_rfl
 have b:siE.bytes=8:=by kernel_rfl
 have c:(n==0)=false:=by simp;omega
 have d:(n==1)=false:=by simp;omega
 simp [Lib.swapperK,a,b,c,d]
theorem BR{w:World}{g blk c:Nat}{lb:Array Value}(f:Int->Int)(p:Int->Prop)(hg:∀ha w,(callFunc g ha).run prog w= .ok (.enter g ha) w)(h2:2<=d.size)(h20:d.size<20)
  (hless:sw prog g lb (Value.int .i64) (ltF f) p blk 0 d.size w) (hp:∀i,i<d.size->p d[i]!) (hH:Holds (Value.int .i64) w blk 0 d) (hblk:blk<w.heap.size):
  Calls prog 280 #[.iface 24 (.slice (some ⟨blk,0,none⟩) d.size c),.func (.func g) #[] lb] w fun e w'=>e= .returned (.tuple #[])/\kq (Value.int .i64) w blk 0 (Sort.insertionSort (ltF f) d 0 d.size) w':=by
 have hS:=uX Tryz.sl8 24 3 siT siE (by kernel_rfl) (by kernel_rfl) (by kernel_rfl) (by kernel_rfl) 2 (fun _=>by kernel_rfl) (by kernel_rfl) (fun _=>by kernel_rfl) (Value.int .i64) (fun _=>rfl) (ltF f) p g lb
  hg blk 0 c d h2 h20 321 (by rw [siK _ h2];kernel_rfl) true
  (fun ha W=>run_callFunc_extern func321 (by kernel_rfl) (by kernel_rfl) (by kernel_rfl) (e:=Extern.ReflectliteSwapper.swap true) (by kernel_rfl) ha W) w hless hp hH hblk
 exact hS
theorem zS{w:World}{p:Option Addr}{n c:Nat}(hn:n<=1)(lf:Fn)(la lb:Array Value):
  Calls prog 280 #[.iface 24 (.slice p n c),.func lf la lb] w fun e w'=>e= .returned (.tuple #[])/\∃os,w'=grow w os:=by
 rcases Nat.le_one_iff_eq_zero_or_eq_one.1 hn with rfl|rfl
 ·exact Any.sort_SliceStable_tiny Tryz.sl8 24 3 siT siE (by kernel_rfl) (by kernel_rfl) (by kernel_rfl) (by kernel_rfl) 2 (fun _=>by kernel_rfl) p 0 c (by omega) 317 (by kernel_rfl) lf la lb w
 ·exact Any.sort_SliceStable_tiny Tryz.sl8 24 3 siT siE (by kernel_rfl) (by kernel_rfl) (by kernel_rfl) (by kernel_rfl) 2 (fun _=>by kernel_rfl) p 1 c (by omega) 318 (by kernel_rfl) lf la lb w
theorem DM{id n0:Nat}{o35 o36 o37 o38:Oper}(e35:o35.op= .load 24 (.tmp 5))(d35:o35.dst=some 35)(g35:o35.guard=none)(e36:o36.op= .makeInterface 24 (.tmp 35))(d36:o36.dst=some 36)(g36:o36.guard=none)
  (e37:o37.op= .makeFunc (.func 281) #[] #[.tmp 2,.tmp 5]) (d37:o37.dst=some 37) (g37:o37.guard=none) (c38:Call) (e38:o38.op= .call c38) (k38:c38.callee= .value (.func 280)) (a38:c38.args= #[.tmp 36,.tmp 37]) (d38:o38.dst=some 38) (g38:o38.guard=none)
  (ns:List af) (hl:ns.length<=1048576) {E:List Int} (hE:∀k∈E,isN ns k=true) (h20:E.length<20) {l:List (Nat×AV)} {Q:Exit->(Nat->AV)->AH->Prop}
  (h2:lkT l 2= .p 0) (h5:lkT l 5= .p 1) (tT tI:Nat)
  (hQ:Q .normal (lkT ((38,.t (.c .dead))::(37,.t (.c .dead))::(36,.t (.c .dead))::(35,.o 2)::l)) (toH [.bx tT 1 [.view (vwA af.ac ns)],.bx tI 1 [.own 2],.rw ⟨3,1,vw ak (gY (ix ns) E)⟩])) (N:Nat) (hN:N=40) (cd:Code) (hcd:cd= .region id #[o35,o36,o37,o38] false) (hh:EH) (hhh:hh=[.bx tT 1 [.view (vwA af.ac ns)],.bx tI 1 [.own 2],.rw ⟨3,1,vw ak E⟩]):
  VC prog n0 N cd Q (lkT l) (toH hh):=by
 subst hN hcd hhh
 intro F w0 m0 h0 a w m xe r
 refine wp_region_list ?_
 show wpList _ _ _ [o35,o36,o37,o38] a w
 have wnt:∀(o:Oper)(y:Nat->Option Bool),o.guard=none->Region.wanted o y=true:=fun o y hg=>by unfold Region.wanted;rw [hg]
 unfold wpList
 rw [if_pos (wnt _ _ g35)]
 left
 obtain⟨H,hf⟩:∃H:AH,H=toH [.bx tT 1 [.view (vwA af.ac ns)],.bx tI 1 [.own 2],.rw ⟨3,1,vw ak E⟩]:=⟨_,rfl⟩
 rw [<-hf]at r
 have H1:H[1]? =some (.live ⟨tI,1,[[.own 2]]⟩):=by rw [hf];rfl
 have H0:H[0]? =some (.live ⟨tT,1,[[.view (vwA af.ac ns)]]⟩):=by rw [hf];rfl
 have H2:H[2]? =some (.live ⟨3,1,vw ak E⟩):=by rw [hf];rfl
 refine(ld (o:=o35) (K:=fun res h'=>res= .o 2/\h'=H) r.st.hp r.tm ?_).wp (fun v w1⟨res,h',m1,F1,⟨hres,hh'⟩,hG1,hs,hv⟩=> ?_)
 ·rw [e35]
  have ha:q9 prog 24=some none:=by kernel_rfl
  simp only [opA,pop,ev,h5,ha,H1]
  exact⟨[.own 2],rfl,.own 2,rfl,rfl,by simp⟩
 subst hres hh'
 have r1:=r.nextG (o:=o35) (by unfold fO;rw [d35];rfl) hG1.1 hs hv
 have hB:a.tmps.size=40:=r.sz
 obtain⟨b,hb⟩:=nmE (a.put o35.dst v)
 have xj:b.tmps.getD 35 undef=v:=by rw [hb,fc,if_pos ⟨d35,by rw [hB];decide⟩]
 rw [<-hb]at r1⊢
 have h8:b.tmps.size=40:=r1.sz
 have h7:Am.fB F F1 w0 m0 h0:=r.grow (Am.fB.refl _ _ _ _) hG1
 clear hs r hb hB
 unfold wpList
 rw [if_pos (wnt _ _ g36)]
 left
 have hU:(execOp b.eval o36).run prog w1= .ok (.value (.iface 24 v)) w1:=by
  have hu:=run_makeInterface (P:=prog) w1 24 v (by kernel_rfl)
  simp [execOp,e36,Act.eval,xj,hu]
 refine(Yl.value hU (R:=fun u w2=>u= .iface 24 v/\w2=w1) ⟨rfl,rfl⟩).wp (fun u w2⟨hu,hw⟩=> ?_)
 subst hu hw
 have r2:=r1.next (o:=o36) (by unfold fO;rw [d36];rfl) (ek.refl r1.st.hp) (res:= .t (.c .dead)) (v:= .iface 24 v) trivial
 obtain⟨c,hc⟩:∃c,c=b.put o36.dst (.iface 24 v):=⟨_,rfl⟩
 have hJ:c.tmps.getD 36 undef= .iface 24 v:=by rw [hc,fc,if_pos ⟨d36,by rw [h8];decide⟩]
 rw [<-hc]at r2⊢
 have h9:c.tmps.size=40:=r2.sz
 clear hc hU
 unfold wpList
 rw [if_pos (wnt _ _ g37)]
 left
 obtain⟨p2,hP⟩:=nmE (c.tmps.getD 2 undef)
 obtain⟨p5,hT⟩:=nmE (c.tmps.getD 5 undef)
 have hV:(execOp c.eval o37).run prog w2= .ok (.value (.func (.func 281) #[] #[p2,p5])) w2:=by
  simp [execOp,e37,Act.eval,<-hP,<-hT,Instr.makeFunc]
 refine(Yl.value hV (R:=fun u w3=>u= .func (.func 281) #[] #[p2,p5]/\w3=w2) ⟨rfl,rfl⟩).wp (fun u w3⟨hu,hw⟩=> ?_)
 subst hu hw
 have r3:=r2.next (o:=o37) (by unfold fO;rw [d37];rfl) (ek.refl r2.st.hp) (res:= .t (.c .dead)) (v:= .func (.func 281) #[] #[p2,p5]) trivial
 obtain⟨e,he⟩:∃e,e=c.put o37.dst (.func (.func 281) #[] #[p2,p5]):=⟨_,rfl⟩
 have xk:e.tmps.getD 37 undef= .func (.func 281) #[] #[p2,p5]:=by rw [he,fc,if_pos ⟨d37,by rw [h9];decide⟩]
 have hJ:e.tmps.getD 36 undef= .iface 24 v:=by rw [he,fc,if_neg (by rw [d37];simp),hJ]
 rw [<-he]at r3⊢
 have t2:=r2.tm 2
 have t5:=r2.tm 5
 rw [<-hP]at t2
 rw [<-hT]at t5
 simp only [put,d36,d35,h2,h5,zqy,Nat.reduceEqDiff,if_false]at t2 t5
 have xl:e.tmps.size=40:=r3.sz
 clear he hV r2
 unfold wpList
 rw [if_pos (wnt _ _ g38)]
 left
 have hH:=r3.st.hp
 rcases t2 with hx|⟨ab,b0,cap0,h20',hm0,rfl⟩
 ·rw [H0]at hx;cases hx
 rw [H0]at h20';cases h20'
 rcases t5 with hx|⟨ab,b1,cap1,h21',hm1,rfl⟩
 ·rw [H1]at hx;cases hx
 rw [H1]at h21';cases h21'
 simp only [Nat.zero_mul,Nat.add_zero]at *
 have hm:∀{R:Value->World->Prop},Calls prog 280 #[.iface 24 v,.func (.func 281) #[] #[.pointer (some ⟨b0,0,none⟩),.pointer (some ⟨b1,0,none⟩)]] w3 (fun x w'=>x= .returned (.tuple #[])/\R (.tuple #[]) w')->Yl prog o38 e w3 R:=fun hR=>by
  unfold Yl
  rw [pn e38 k38 (by kernel_rfl),a38]
  have:(#[Operand.tmp 36,Operand.tmp 37].map e.eval)= #[.iface 24 v,.func (.func 281) #[] #[.pointer (some ⟨b0,0,none⟩),.pointer (some ⟨b1,0,none⟩)]]:=by simp [Act.eval,hJ,xk]
  rw [this]
  exact hR.mono fun x w'⟨h1,h2⟩=>⟨_,h1,h2⟩
 have hG:∀(H':AH)(w':World),ek F1 w3 m1 h' w' m1 H'->H'=toH [.bx tT 1 [.view (vwA af.ac ns)],.bx tI 1 [.own 2],.rw ⟨3,1,vw ak (gY (ix ns) E)⟩]->wpList prog #[o35,o36,o37,o38] (lA F w0 m0 h0 40 Q) [] (e.put o38.dst (.tuple #[])) w':=fun H' w' hs hF=>by
  subst hF
  have r4:=r3.next (o:=o38) (by unfold fO;rw [d38];rfl) hs (res:= .t (.c .dead)) (v:= .tuple #[]) trivial
  exact⟨_,_,_,F1,by simpa only [d35,d36,d37,d38,vD,sK]using hQ,h7,r4⟩
 refine(hm (R:=fun u w'=>u= .tuple #[]/\∃H',ek F1 w3 m1 h' w' m1 H'/\H'=toH [.bx tT 1 [.view (vwA af.ac ns)],.bx tI 1 [.own 2],.rw ⟨3,1,vw ak (gY (ix ns) E)⟩]) ?_).wp (fun u w'⟨hu,H',hs,hF⟩=>by subst hu;exact hG H' w' hs hF)
 rcases hv with hx|⟨ab,hab,hv⟩
 ·rw [H2]at hx;cases hx
 rw [H2]at hab;cases hab
 simp only [aq]at hv
 by_cases hE1:E.length<=1
 ·have xg:gY (ix ns) E=E:=by
   match E,hE1 with
   | [],_=>rfl
   | [x],_=>rfl
  obtain⟨p,cc,rfl⟩:∃p cc,v= .slice p E.length cc:=by
   rcases hv with⟨bb,cc,_,rfl⟩|⟨_,h0,rfl⟩
   ·exact⟨_,_,rfl⟩
   ·exact⟨none,0,by rw [h0]⟩
  refine(zS (w:=w3) hE1 _ _ _).mono ?_
  rintro x w' ⟨rfl,os,rfl⟩
  refine⟨rfl,rfl,h',sC (ek.refl hH) rfl rfl rfl (by simp) (fun b hb=> ?_),by rw [xg,hf]⟩
  simp only [grow,Array.getElem?_append,hb,if_true]
 have hY:2<=E.length:=by omega
 obtain⟨b2,cap,hk,rfl⟩:∃b2 cap,m1[2]? =some (some (b2,cap))/\v= .slice (some ⟨b2,0,none⟩) E.length cap:=by
  rcases hv with⟨bb,cc,h1,h2⟩|⟨_,h0,_⟩
  ·exact⟨bb,cc,h1,h2⟩
  ·omega
 obtain⟨_,h6,cur,hn,xc,hM,xa,hL⟩:=hH.get H2 H2 hk
 simp only [Nat.mul_one,aq]at xc hM hL
 obtain⟨_,h4,hX,hz,_,_,_,hD⟩:=hH.get H1 H1 hm1
 obtain⟨_,hZ,hW,hy,_,_,_,hC⟩:=hH.get H0 H0 hm0
 have l2:=(hH.lt H2 hk).2
 have l1:=(hH.lt H1 hm1).2
 have l0:=(hH.lt H0 hm0).2
 have xi:b1≠b2:=fun h=>by subst h;have:=hH.inj 1 2 _ _ _ _ _ H1 H2 hm1 hk;cases this
 have xh:b0≠b2:=fun h=>by subst h;have:=hH.inj 0 2 _ _ _ _ _ H0 H2 hm0 hk;cases this
 have hK:Holds (Value.int .i64) w3 b2 0 E.toArray:=fun j hj=>by
  have hO:j<E.length:=by simpa using hj
  obtain⟨_,hq⟩:=hL j _ (bf (c:=ak) (CU hO))
  obtain⟨u,hu,_,hr⟩:=hq 0 _ rfl
  have xf:u= .int .i64 E[j]! :=hr
  subst xf
  refine⟨?_,?_⟩
  ·simp only [World.cell?,hn]
   simpa [getElem!_pos E j hO]using hu
  ·simp [World.frozen?,hn]
 have xb:w3.cell? ⟨b1,0,none⟩=some (.slice (some ⟨b2,0,none⟩) E.length cap):=by
  obtain⟨_,hq⟩:=hD 0 _ rfl
  obtain⟨u,hu,_,hr⟩:=hq 0 _ rfl
  rcases hr with hx|⟨ab,hab,hr⟩
  ·rw [H2]at hx;cases hx
  rw [H2]at hab;cases hab
  simp only [aq,hk,zqy,Prod.mk.injEq]at hr
  rcases hr with⟨bb,cc,⟨rfl,rfl⟩,rfl⟩|⟨hx,_⟩
  ·simp only [World.cell?,hz]
   simpa using hu
  ·cases hx
 have xd:RPL F1 w3 b0 0 [.view (vwA af.ac ns)]:=by
  obtain⟨_,hq⟩:=hC 0 _ rfl
  obtain⟨u,hu,ho,hr⟩:=hq 0 _ rfl
  refine RPL.mk fun t c ht=> ?_
  obtain rfl:t=0:=by
   have:=(List.getElem?_eq_some_iff.1 ht).1
   simp at this;omega
  obtain rfl:=Option.some.inj ht.symm
  exact⟨u,by simp only [World.cell?,hy];simpa using hu,ho,hr⟩
 have hA:=vR (P:=prog) (g:=281) (f:=ix ns) (p:=fun k=>isN ns k=true) (cs:=[.view (vwA af.ac ns)]) (n:=E.length) (fun dk i j hd hp hi hj=>zg ns dk hl hp i j (by omega) (by omega)) hH.old h6 l2 l1 l0 xi xh xb hM xa xd (d:=E.toArray) (by simp) hK
 have hs:=BR (w:=w3) (g:=281) (blk:=b2) (c:=cap) (lb:= #[.pointer (some ⟨b0,0,none⟩),.pointer (some ⟨b1,0,none⟩)]) (d:=E.toArray) (ix ns) (fun k=>isN ns k=true) (enters_of func281 (by kernel_rfl) rfl) (by simpa using hY) (by simpa using h20) (by simpa using hA) (fun i hi=>hE _ (by
  have hI:i<E.length:=by simpa using hi
  have:=zqd (CU hI)
  simp [getElem!_pos E i hI,hI])) hK l2
 simp only [List.size_toArray]at hs
 refine hs.mono ?_
 rintro x w' ⟨rfl,hS⟩
 have hB:(Sort.insertionSort (ltF (ix ns)) E.toArray 0 E.length).size=E.length:=by
  have:=congrArg List.length (vl (ix ns) E)
  have h3:=nf (ix ns) E
  unfold gY at h3
  rw [h3]at this
  simpa using this
 refine⟨rfl,rfl,_,wJ hH H2 hk hB hS,?_⟩
 have:=vl (ix ns) E
 simp only [List.size_toArray]at this
 rw [this,hf]
 rfl
end Go.Proofs.YtckchgoblpgpbaaGreat
