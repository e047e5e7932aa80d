/- The program's space across of a child. -/
import Derived.Test.YtckchgoblpgpbaaGreatJ5ba
set_option linter.unusedVariables false
set_option linter.unusedSimpArgs false
set_option maxHeartbeats 16000000
namespace Go.Proofs.YtckchgoblpgpbaaGreat
open Go.Shelf Go.RowKit Go.Lib Go.Sort Am Go.Proofs.Tryz
set_option maxRecDepth 100000
theorem qK(ns:List af)(n:Int)(nd:af)(hl:ns.length<=1048576)(h1:1<=n)(h2:n<=1048576)(hx:ns[(n-1).toNat]? =some nd)(hkl:nd.kids.length<20)(hk:∀k∈nd.kids,isN ns k=true):dc prog 230 [.agg [.view (vwA af.ac ns)],ai n] fun res hf=>res= .o 0/\hf=[⟨3,1,vw ak (gY (ix ns) (nd.kids.filter (lY ns)))⟩]:=by
 obtain⟨V,hV⟩:=nmE (vwA af.ac ns)
 obtain⟨K,hK⟩:=nmE (vw ak nd.kids)
 obtain⟨Rt,hp⟩:=nmE (vw aO.c nd.table.rules)
 have xD:aX K=(nd.kids.length:Int):=by rw [az,hK,aq]
 have xB:0<=aX K:=by omega
 have xC:aX K<=1048576:=by omega
 have ht:∀z:Int,(vw ak ((nd.kids.take z.toNat).filter (lY ns))).length<=1048576:=fun z=>by
  rw [aq]
  have:=List.length_filter_le (lY ns) (nd.kids.take z.toNat)
  simp only [List.length_take]at this
  omega
 have hm:∀(z:Int)(k:Int),0<=z->nd.kids[z.toNat]? =some k->vw ak ((nd.kids.take (z+1).toNat).filter (lY ns))=vw ak ((nd.kids.take z.toNat).filter (lY ns))++(if lY ns k then [[.J k]]else []):=fun z k h0 hz=>by
  rw [mC h0 hz,pK]
  congr 1
  cases lY ns k<;>rfl
 have cn:=bP ns n nd h1 h2 hx V K Rt hV hK hp
 rw [<-hV]
 refine k8 ([(9,.hand)]) ([]) (c:=aJ f230) ay func230 (by kernel_rfl) (by kernel_rfl) (by rfl) (by kernel_rfl) fun g xA hd F ha hj hg hF=> ?_
 cbv
 (first|refine ad hg cn ?_|refine aa hg cn ?_)
 cbv
 have hb:nd.kids.length<=1048576:=by omega
 refine lI ([(9,.hand)]) ([]) ha hj hg ay (by kernel_rfl) K (fun x=>lc (ak x)) nd.kids hK hb (fun z(s:LLA×List Int)=>[(2,.p 0),(5,.p 1),(12,.v K),(13,.i (g .ln K)),(14,.i (z))]) (fun z(s:LLA×List Int)=>[.bx 28 1 [.view V],.bx 24 1 [.own 2],.rw ⟨3,1,s.1⟩]) (fun z(s:LLA×List Int)=>s.1=vw ak s.2/\(s.2.length:Int)<=z) (fun(s:LLA×List Int) rest=>s.2++rest.filter (lY ns)) (nd.kids.filter (lY ns)) ([],[]) rfl ⟨rfl,by simp⟩ (Wk.weak (wkG [some 0,some 1,none] zr5 ⟨wqE rfl rfl,⟨_,_,rfl,rfl,rfl,rfl,.inr ⟨zr1,trivial⟩⟩,⟨_,rfl,rfl⟩,trivial⟩ (by decide) aD)) (fun z s B hz h0 hi he=> ?_) (fun z s x rest B z0 z1 z2 hx hy h0 hi hc e1 hB=> ?_)
 ·obtain⟨es,ks⟩:=s
  obtain⟨k1,k2⟩:=hi
  dsimp only at k1 k2 h0
  simp only [List.filter_nil,List.append_nil]at h0
  rw [h0]at k1
  cbv;rw [he];cbv
  rw [hj,hV]
  show VC _ _ _ (.region _ _ _) (QE _) (lkT _) (toH _)
  apply DM (ns:=ns) (E:=nd.kids.filter (lY ns)) (hl:=hl) (tT:=28) (tI:=24)
  case hcd=>rfl
  case hN=>rfl
  case hhh=>rw [k1]
  case hE=>exact fun k hs=>hk k (List.mem_filter.1 hs).1
  case h20=>exact Nat.lt_of_le_of_lt (List.length_filter_le _ _) hkl
  any_goals rfl
  refine⟨_,_,rfl,rfl,?_⟩
  obtain⟨G,hG⟩:=nmE (vw ak (gY (ix ns) (nd.kids.filter (lY ns))))
  have pG:=pmV hG
  rw [<-hG]at hF⊢
  cbv
  exact bR hF rfl pG
 obtain⟨es,ks⟩:=s
 obtain⟨k1,k2⟩:=hi
 dsimp only at k1 k2 h0
 have hr:=hk x (zqd hx)
 obtain⟨q1,q2,y,hn⟩:=bq hr
 have hh:lY ns x=(!y.style.hidden&& !y.style.apart):=by unfold lY;rw [hn]
 rw [List.filter_cons,hh]at h0
 clear hh
 have pE:=pmV k1
 have xE:es.length<=1048576:=by rw [k1,aq];omega
 obtain⟨Ky,ho⟩:=nmE (vw ak y.kids)
 obtain⟨Ry,hq⟩:=nmE (vw aO.c y.table.rules)
 have cy:=bP ns x y q1 (by omega) hn V Ky Ry hV ho hq
 obtain⟨c0,c1,⟨c2,c3,c4,c5,c6,c7,c8,c9,hv,hw,hA,⟨hC,hD⟩,⟨hH,hI⟩,⟨hJ,hL⟩,⟨hM,hO⟩,⟨hP,hQ⟩,⟨hR,hS⟩,⟨hT,hU⟩,hW,⟨⟨hX,hY⟩,⟨hZ,h3⟩,⟨h4,h5⟩,⟨h6,h7⟩,⟨h8,h9⟩,⟨xa,xb⟩⟩,⟨⟨xc,xd⟩,⟨xe,xf⟩,⟨xg,xh⟩,⟨xi,xj⟩,⟨xk,xl⟩,⟨xm,xn⟩⟩,⟨xo,xp,xq,xr⟩,⟨xs,xt,xu,xv⟩,xw,xx⟩,xy,⟨xz⟩⟩:=y
 replace h0:ks++(if(!c9&& !c8)=true then x::rest.filter (lY ns)else rest.filter (lY ns))=nd.kids.filter (lY ns):=h0
 cbv;rw [hc];cbv;refine goX hg _ z0 hy rfl ?_;cbv
 (first|refine ad hg cy ?_|refine aa hg cy ?_)
 cbv
 cases c9<;>cases c8<;>cbv
 case false.false=>
  refine dg hg rfl (by decide) (by omega) ?_
  cbv
  rw [e1,gd hg]
  have hu:aC (es++[[.J x]])=true:=by
   have:es++[[.J x]]=vw ak (ks++[x]):=by rw [k1,pK];rfl
   rw [this];exact aF _ _
  exact hB ((es++[[.J x]],ks++[x])) _ _ ⟨by simpa using h0,⟨by rw [k1,pK];rfl,by simp;omega⟩⟩ (Wk.weak (wkG [some 0,some 1,some 5] zr5 ⟨wqE rfl rfl,⟨_,_,rfl,rfl,rfl,rfl,.inr ⟨zr1,trivial⟩⟩,wqE rfl hu,trivial⟩ (by decide) aD))
 all_goals
  rw [e1]
  exact hB ((es,ks)) _ _ ⟨by simpa using h0,⟨k1,by simp only;omega⟩⟩ (Wk.weak (wkG [some 0,some 1,some 2] zr5 ⟨wqE rfl rfl,⟨_,_,rfl,rfl,rfl,rfl,.inr ⟨zr1,trivial⟩⟩,wqE rfl pE,trivial⟩ (by decide) aD))
section
variable {P:Program}{n0 N:Nat}{g:Gd}
variable {K:Nat->Nat->Prop}
theorem FS(hg:g=G0 P n0 N){es:LLA}{a:Int}(h0:0<=a)(h1:a<=aX es)(hK:∀j:Nat,j=a.toNat->K 0 j):g .SO es none (some a) K:=by
 subst hg
 have:=az es
 exact⟨0,a.toNat,rfl,⟨h0,rfl⟩,Nat.zero_le _,by omega,by simpa using hK _ rfl⟩
theorem GF(hg:g=G0 P n0 N)(es:LLA)(a m:Nat):g .tk es a m=(es.drop a).take m:=by subst hg;rfl
theorem FQ(hg:g=G0 P n0 N){es:LLA}{a:Int}(h0:0<=a)(h1:a<=aX es)(hK:∀j m:Nat,j=a.toNat->m=es.length-j->K j m):g .SO es (some a) none K:=by
 subst hg
 have:=az es
 exact⟨a.toNat,es.length,⟨h0,rfl⟩,rfl,by omega,Nat.le_refl _,hK _ _ rfl rfl⟩
end
theorem v9(f:Int->Int):∀(xs acc:List Int),xs.foldl (fun a k=>(l4 f k a.reverse).reverse) acc=(xs.foldl (fun a k=>l4 f k a) acc.reverse).reverse
 | [],acc=>by simp
 |x::xs,acc=>by rw [List.foldl_cons,v9 f xs,List.foldl_cons,List.reverse_reverse]
theorem yP(f:Int->Int)(xs:List Int):xs.foldl (fun a k=>(l4 f k a.reverse).reverse) []=gY f xs:=v9 f xs []
theorem qc(ns:List af)(n:Int)(nd:af)(hs:∀y∈ns,af.small y)(ht:eo ns=true)(hl:ns.length<=1048576)(h1:1<=n)(h2:n<=(ns.length:Int))(hx:ns[(n-1).toNat]? =some nd)(hkl:nd.kids.length<=1048576)(hk:∀k∈nd.kids,isN ns k=true):dc prog 206 [.agg [.view (vwA af.ac ns)],ai n] fun res hD=>res= .o 0/\hD=[⟨3,1,vw ak (gY (ix ns) (nd.kids.filter (lY ns)))⟩]:=by
 have cT:=jB ns hl hs
 rw [ht]at cT
 obtain⟨V,hV⟩:=nmE (vwA af.ac ns)
 have x0:aX V=(ns.length:Int):=by rw [az,hV,bC]
 have cI:=fC V n
 rw [show rng n 1 (aX V)=true by simp only [rng,zqs,zqp];omega]at cI
 obtain⟨K,hK⟩:=nmE (vw ak nd.kids)
 obtain⟨Rt,xK⟩:=nmE (vw aO.c nd.table.rules)
 obtain⟨G,hG⟩:=nmE (vw ak (gY (ix ns) (nd.kids.filter (lY ns))))
 have pG:=pmV hG
 have xZ:aX K=(nd.kids.length:Int):=by rw [az,hK,aq]
 have xX:0<=aX K:=by omega
 have xY:aX K<=1048576:=by omega
 have cn:=bm ns n nd h1 (by omega) hx V K Rt hV hK xK
 rw [<-hV]at cT
 rw [<-hV,<-hG]
 refine k8 ([(13,.hand)]) ([]) (c:=aJ f206) ay func206 (by kernel_rfl) (by kernel_rfl) (by rfl) (by kernel_rfl) fun g xW hd F hh hv hg hF=> ?_
 cbv
 (first|refine ad hg cT ?_|refine aa hg cT ?_)
 cbv
 (first|refine ad hg cI ?_|refine aa hg cI ?_)
 cbv
 (first|refine ad hg cn ?_|refine aa hg cn ?_)
 cbv
 refine lI ([(13,.hand)]) ([]) hh hv hg ay (by kernel_rfl) K (fun x=>lc (ak x)) nd.kids hK hkl (fun z(s:LLA×List Int)=>[(2,.p 0),(5,.o 1),(6,.v K),(7,.i (z))]) (fun z(s:LLA×List Int)=>[.bx 28 1 [.view V],.rw ⟨3,1,s.1⟩]) (fun z(s:LLA×List Int)=>s.1=vw ak s.2/\(s.2.length:Int)<=z/\∀k∈s.2,isN ns k=true) (fun(s:LLA×List Int) rest=>(rest.filter (lY ns)).foldl (fun a k=>(l4 (ix ns) k a.reverse).reverse) s.2) (gY (ix ns) (nd.kids.filter (lY ns))) ([],[]) (by simp only;exact yP _ _) ⟨rfl,by simp,by simp⟩ (Wk.weak (wkG [some 0,some 1] zr4 ⟨wqE rfl rfl,wqE rfl rfl,trivial⟩ (by decide) aD)) (fun z s B hz h0 hi he=> ?_) (fun z s x rest B z0 z1 z2 hx hy h0 hi hc e1 hB=> ?_)
 ·obtain⟨es,ks⟩:=s
  obtain⟨k1,k2,k3⟩:=hi
  dsimp only at k1 k2 h0
  simp only [List.filter_nil,List.foldl_nil]at h0
  rw [h0,<-hG]at k1
  subst k1
  cbv;rw [he];cbv
  exact bR hF rfl pG
 obtain⟨es,ks⟩:=s
 obtain⟨k1,k2,k3⟩:=hi
 dsimp only at k1 k2 k3 h0
 have xB:=hk x (zqd hx)
 obtain⟨q1,q2,y,hC⟩:=bq xB
 have hf:lY ns x=(!y.style.hidden&& !y.style.apart):=by unfold lY;rw [hC]
 have hu:ix ns x=y.style.order:=by unfold ix;rw [hC]
 rw [List.filter_cons,hf]at h0
 clear hf
 have pE:=pmV k1
 have xQ:es.length<=1048576:=by rw [k1,aq];omega
 obtain⟨Ky,xI⟩:=nmE (vw ak y.kids)
 obtain⟨Ry,xL⟩:=nmE (vw aO.c y.table.rules)
 have cy:=bm ns x y q1 (by omega) hC V Ky Ry hV xI xL
 obtain⟨c0,c1,⟨c2,c3,c4,c5,c6,c7,c8,c9,hb,hE,hH,⟨hI,hJ⟩,⟨hL,hM⟩,⟨hN,hO⟩,⟨hP,hQ⟩,⟨hR,hS⟩,⟨hT,hU⟩,⟨hW,hY⟩,hZ,⟨⟨h3,h4⟩,⟨h5,h6⟩,⟨h7,h8⟩,⟨h9,xa⟩,⟨xb,xc⟩,⟨xd,xe⟩⟩,⟨⟨xf,xg⟩,⟨xh,xi⟩,⟨xj,xk⟩,⟨xl,xm⟩,⟨xn,xo⟩,⟨xp,xq⟩⟩,⟨xr,xs,xt,xu⟩,⟨xv,xw,xx,xy⟩,xz,xA⟩,xU,⟨xV⟩⟩:=y
 replace h0:(if(!c9&& !c8)=true then x::rest.filter (lY ns)else rest.filter (lY ns)).foldl (fun a k=>(l4 (ix ns) k a.reverse).reverse) ks=gY (ix ns) (nd.kids.filter (lY ns)):=h0
 replace hu:ix ns x=hb:=hu
 have lF:(((l4 (ix ns) x ks.reverse).reverse).length:Int)<=z+1:=by rw [List.length_reverse,uv,List.length_reverse];omega
 cbv;rw [hc];cbv;refine goX hg _ z0 hy rfl ?_;cbv
 (first|refine ad hg cy ?_|refine aa hg cy ?_)
 cbv
 cases c9<;>cases c8<;>cbv
 case false.false=>
  simp only [Bool.not_false,Bool.and_self,if_true,List.foldl_cons]at h0
  have a0:0<=aX es:=by rw [az];omega
  have a1:aX es<=1048576:=by rw [az];omega
  have x2:aX es=(ks.length:Int):=by rw [k1,az,aq]
  rw [bF hg]
  refine sQ [(13,.hand)] [] hh hv hg ay (by kernel_rfl) (fun a:Int=>[(2,.p 0),(5,.o 1),(6,.v K),(7,.i (z)),(8,.p 2),(9,.i (a))]) (fun a=>[.bx 28 1 [.view V],.rw ⟨3,1,es⟩,.bx 36 60 [.J c2,.J c3,.J c4,.J c5,.J c6,.J c7,.B false,.B false,.J hb,.J hE,.J hH,.J hI,.J hJ,.J hL,.J hM,.J hN,.J hO,.J hP,.J hQ,.J hR,.J hS,.J hT,.J hU,.J hW,.J hY,.J hZ,.J h3,.J h4,.J h5,.J h6,.J h7,.J h8,.J h9,.J xa,.J xb,.J xc,.J xd,.J xe,.J xf,.J xg,.J xh,.J xi,.J xj,.J xk,.J xl,.J xm,.J xn,.J xo,.J xp,.J xq,.J xr,.J xs,.J xt,.J xu,.J xv,.J xw,.J xx,.J xy,.J xz,.J xA]]) (fun a=>0<=a/\a<=aX es/\∀(i:Nat)(q:Int),a.toNat<=i->ks[i]? =some q->hb<ix ns q) (fun a=>a.toNat) (aX es) ⟨a0,Int.le_refl _,fun i q hi hq=> ?_⟩ (Wk.weak (wkG [some 0,some 1,some 2] zr6 ⟨wqE rfl rfl,wqE rfl pE,wqE rfl rfl,trivial⟩ (by decide) aD)) (fun a B2 ha xF=> ?_)
  ·have:=(List.getElem?_eq_some_iff.1 hq).1;omega
  obtain⟨b0,b1,b2⟩:=ha
  have eA:∀j:Nat,g .ap [] (g .tk es 0 j)=vw ak (ks.take j):=fun j=>by rw [gd hg,GF hg,k1];simp [vw,List.map_take]
  have xT:ks.length<=1048576:=by omega
  have eB:∀j:Nat,g .ap (g .ap [] (g .tk es 0 j)) [[.J x]]=vw ak (ks.take j++[x]):=fun j=>by rw [eA j,gd hg,pK];rfl
  have eC:∀j m:Nat,m=es.length-j->g .tk es j m=vw ak (ks.drop j):=fun j m hm=>by
   rw [GF hg,hm,k1]
   simp only [vw,<-List.map_drop,zql]
   rw [List.take_of_length_le (by simp)]
  have pM:∀{A:Prop}{n:Nat},A->n<=3000000->A/\n*8<=140737488355328/\n<=4611686018427387904:=fun hA hn=>⟨hA,by omega,by omega⟩
  have mF:∀k∈(l4 (ix ns) x ks.reverse).reverse,isN ns k=true:=fun k hr=>by
   rw [List.mem_reverse,uu,List.mem_reverse]at hr
   rcases hr with rfl|h
   ·exact xB
   ·exact k3 k h
  have pN:∀{A:Prop}{n:Nat},A->n<=1048576->A/\(0+n)*8<=140737488355328/\0+n<=4611686018427387904:=fun hA hn=>⟨hA,by omega,by omega⟩
  have ho:(a=0\/∃q,ks[a.toNat-1]? =some q/\¬hb<ix ns q)->(l4 (ix ns) x ks.reverse).reverse=ks.take a.toNat++x::ks.drop a.toNat:=fun hc=>by
   refine AN (ix ns) x ks a.toNat (by omega) ?_ (fun i q hi hq=>by rw [hu];exact b2 i q hi hq)
   rcases hc with rfl|⟨q,h1,h2⟩
   ·exact .inl rfl
   ·exact .inr ⟨q,h1,by rw [hu];exact h2⟩
  have t0:g .q .gtr a 0=decide (0<a):=by rw [cu hg]
  have ew:0<a->g .w .sub .i64 a 1=a-1:=fun h=>by rw [bZ hg,aw _ (by omega)]
  have l1:0<a->(a-1).toNat<ks.length:=fun h=>by omega
  have l2:0<a->a-1<aX es:=fun h=>by omega
  cbv
  rw [t0]
  by_cases hf:0<a
  case' pos=>
   rw [zqu hf]
   cbv
   rw [ew hf]
   have xO:=l1 hf
   have xP:=l2 hf
   have hq:ks[(a-1).toNat]? =some ks[(a-1).toNat]:=zqc xO
   obtain⟨q,xR⟩:=nmE (ks[(a-1).toNat])
   rw [<-xR]at hq
   obtain⟨r1,r2,yq,xE⟩:=bq (k3 q (zqd hq))
   obtain⟨Kq,xH⟩:=nmE (vw ak yq.kids)
   obtain⟨Rq,xJ⟩:=nmE (vw aO.c yq.table.rules)
   have cq:=bm ns q yq r1 (by omega) xE V Kq Rq hV xH xJ
   have xC:ix ns q=yq.style.order:=by unfold ix;rw [xE]
   refine goY hg (by omega) xP fun j hj x1=> ?_
   cbv
   refine⟨_,by rw [hj,k1];exact bf hq,?_⟩
   cbv
   (first|refine ad hg cq ?_|refine aa hg cq ?_)
   cbv
   have tq:g .q .gtr yq.style.order hb=decide (hb<yq.style.order):=cu hg _ _
   cases hd:g .q .gtr yq.style.order hb
   rotate_left
   ·have xM:hb<ix ns q:=by rw [xC];exact of_decide_eq_true (tq.symm.trans hd)
    cbv
    rw [ew hf,xF]
    refine⟨a-1,⟨by omega,by omega,fun i p hi hp=> ?_⟩,by omega,Wk.weak (wkG [some 0,some 1,some 2] zr6 ⟨wqE rfl rfl,wqE rfl pE,wqE rfl rfl,trivial⟩ (by decide) aD)⟩
    by_cases hi2:a.toNat<=i
    ·exact b2 i p hi2 hp
    ·obtain rfl:i=(a-1).toNat:=by omega
     rw [hq]at hp
     cases hp
     exact xM
   have xD:=ho (.inr ⟨q,by rw [show a.toNat-1=(a-1).toNat by omega];exact hq,by rw [xC];exact of_decide_eq_false (tq.symm.trans hd)⟩)
  case' neg=>
   rw [zqt hf]
   have xD:=ho (.inl (by omega))
  all_goals
   cbv
   obtain⟨X,hX⟩:=nmE (vw ak (ks.take a.toNat++[x]))
   have pX:=pmV hX
   refine dr hg hv ay [1,2,3,5,6,7,8] (.op 0 [] (.op 4 [] (.op 9 [] (.op 10 [11] .done .none) .none) (.op 9 [] (.op 4 [] (.op 10 [11] .done .none) .none) .none)) (.op 9 [] (.op 0 [] (.op 4 [] (.op 10 [11] .done .none) .none) .none) .none)) (by kernel_rfl) (by kernel_rfl) (S:=LLA) (fun s=>s=X) (fun _=>[(2,.p 0),(5,.o 1),(6,.v K),(7,.i (z)),(8,.p 2),(9,.i (a)),(10,.o 3)]) (fun s=>[.bx 28 1 [.view V],.rw ⟨3,1,es⟩,.bx 36 60 [.J c2,.J c3,.J c4,.J c5,.J c6,.J c7,.B false,.B false,.J hb,.J hE,.J hH,.J hI,.J hJ,.J hL,.J hM,.J hN,.J hO,.J hP,.J hQ,.J hR,.J hS,.J hT,.J hU,.J hW,.J hY,.J hZ,.J h3,.J h4,.J h5,.J h6,.J h7,.J h8,.J h9,.J xa,.J xb,.J xc,.J xd,.J xe,.J xf,.J xg,.J xh,.J xi,.J xj,.J xk,.J xl,.J xm,.J xn,.J xo,.J xp,.J xq,.J xr,.J xs,.J xt,.J xu,.J xv,.J xw,.J xx,.J xy,.J xz,.J xA],.rw ⟨3,1,s⟩]) (fun BL xG=> ?_) (fun s xS=> ?_)
   ·cbv
    (repeat'(first|exact trivial|exact rfl|(refine FS hg b0 b1 fun j hj=> ?_;cbv)|(subst_vars;exact rfl)|((first|refine goX hg _ z0 hy rfl ?_|refine goN hg (pN (by rw [GF hg,k1];exact fun y hy=>BH (c:=ak) (k:=1) (fun _=>rfl) y (List.mem_of_mem_drop (List.mem_of_mem_take hy))) (by rw [GF hg];exact Nat.le_trans (List.length_take_le' _ _) (by simpa using xQ))) ?_|refine dg hg rfl (by decide) (by show(g .ap [] (g .tk es 0 _)).length<=_;rw [eA,aq];exact Nat.le_trans (List.length_take_le' _ _) xT) ?_);cbv)|exact xG _ (by rw [eB,hX];subst_vars;rfl) _ _ (Wk.weak (wkG [some 0,some 1,some 2,some 6] zr7 ⟨wqE rfl rfl,wqE rfl pE,wqE rfl rfl,⟨_,_,rfl,rfl,rfl,rfl,.inl ⟨rfl,by rw [eB];exact aF _ _⟩⟩,trivial⟩ (by decide) aD))|refine And.intro ?_ ?_))
   subst xS
   cbv
   refine FQ hg b0 b1 fun j2 m2 xN hw=> ?_
   cbv
   refine goN hg (pM (by show∀y∈g .tk es j2 m2,_;rw [eC j2 m2 hw];exact BH (c:=ak) (k:=1) (fun _=>rfl)) (by
    show s.length+(g .tk es j2 m2).length<=_
    rw [hX,eC j2 m2 hw,aq,aq]
    simp only [zqe,List.length_take,List.length_drop,zqm]
    omega)) ?_
   cbv
   rw [e1]
   have eF:g .ap s (g .tk es j2 m2)=vw ak ((l4 (ix ns) x ks.reverse).reverse):=by
    rw [hX,eC j2 m2 hw,gd hg,<-pK,xD,xN]
    simp
   have pF:aC (g .ap s (g .tk es j2 m2))=true:=by rw [eF];exact aF _ _
   skip
   exact hB ((_,(l4 (ix ns) x ks.reverse).reverse)) _ _ ⟨h0,⟨eF,lF,fun k hr=>(mF k hr)⟩⟩ (Wk.weak (wkG [some 0,some 4] zr4 ⟨wqE rfl rfl,wqE rfl pF,trivial⟩ (by decide) aD))
 skip
 all_goals
  rw [e1]
  exact hB ((es,ks)) _ _ ⟨by simpa using h0,⟨k1,by simp only;omega,k3⟩⟩ (Wk.weak (wkG [some 0,some 1] zr4 ⟨wqE rfl rfl,wqE rfl pE,trivial⟩ (by decide) aD))
end Go.Proofs.YtckchgoblpgpbaaGreat
namespace Go.Proofs.YtckchgoblpgpbaaGreat
open Go.ChangeShapes Go.WideShapes Go.ChangeAt Go.RowKit Am Go.Proofs.Tryz
set_option maxRecDepth 100000
def nwL(n:Int)(s:aj)(row:Bool)(al ac:aI)(kn:Int)(K:AC):List AC:= .J n::(lc (aj.c s)++[.B row,.J al.mode,.J al.n,.J ac.mode,.J ac.n,.J kn,K])
def plL(n:Int)(s:aj)(wd hg:aI)(row:Bool)(iw ih al ac:aI)(K:AC):List AC:= .J n::(lc (aj.c s)++[.J wd.mode,.J wd.n,.J hg.mode,.J hg.n,.B row,.J iw.mode,.J iw.n,.J ih.mode,.J ih.n,.J al.mode,.J al.n,.J ac.mode,.J ac.n,K])
def inW(s:aj)(w:aI):aI:=o7 w (sY s true)
def inH(s:aj)(h:aI):aI:=o7 h (sY s false)
def sdM(s:aj)(rtl main:Bool):Int×Int:=if main then(sd1 (jF s) (lh s rtl),sd2 (jF s) (lh s rtl))else(sd1 (!jF s) (lx s rtl),sd2 (!jF s) (lx s rtl))
def sdB(s k:aj)(rtl main:Bool)(base:Int):ar:=⟨0,i9 k.margin (sdM s rtl main).1 rtl base,i9 k.margin (sdM s rtl main).2 rtl base,u4 k.margin (sdM s rtl main).1 rtl,u4 k.margin (sdM s rtl main).2 rtl,0,0⟩
theorem fK(ns:List af)(hl:ns.length<=1048576)(kid:Int)(y:af)(h1:isN ns kid=true)(hy:ns[(kid-1).toNat]? =some y)(rtl main kp:Bool)(C D:AC)(n:Int)(s:aj)(row:Bool)(al ac:aI)(kn:Int)(K:LLA):PC0 255 [.c (.eptr [.view (vwA af.ac ns),.B rtl,.B kp,C,D] 0),.agg (nwL n s row al ac kn (.view K)),ai kid,abl main] (.t (.agg (lc (ar.c (sdB s y.style rtl main kn))))):=by
 obtain⟨V,hV⟩:=nmE (vwA af.ac ns)
 obtain⟨Ky,hh⟩:=nmE (vw ak y.kids)
 obtain⟨Ry,hi⟩:=nmE (vw aO.c y.table.rules)
 have b2:=bq h1
 have cy:=bm ns kid y b2.1 (by have:=b2.2.1;omega) hy V Ky Ry hV hh hi
 have cm:=oV s rtl
 have cc:=nZ s rtl
 obtain⟨p1,ha⟩:=nmE ((sdM s rtl main).1)
 obtain⟨p2,hb⟩:=nmE ((sdM s rtl main).2)
 have m1:=dz y.style.margin p1 rtl kn
 have m2:=dz y.style.margin p2 rtl kn
 have a1:=kP y.style.margin p1 rtl
 have a2:=kP y.style.margin p2 rtl
 rw [<-hV]
 unfold sdB
 rw [<-ha,<-hb]
 obtain⟨M1,he⟩:=nmE (i9 y.style.margin p1 rtl kn)
 obtain⟨M2,hf⟩:=nmE (i9 y.style.margin p2 rtl kn)
 obtain⟨A1,hc⟩:=nmE (u4 y.style.margin p1 rtl)
 obtain⟨A2,hd⟩:=nmE (u4 y.style.margin p2 rtl)
 rw [<-he]at m1⊢
 rw [<-hf]at m2⊢
 rw [<-hc]at a1⊢
 rw [<-hd]at a2⊢
 clear he hf hc hd
 cases main
 all_goals
  simp only [sdM,if_true,if_false,Bool.false_eq_true]at ha hb
  first|rw [<-ha,<-hb]at cm|rw [<-ha,<-hb]at cc
  refine ae (aJ f255) ay func255 fun g F hg hF=> ?_
  cbv
  repeat'((first|refine aa hg cm ?_|refine aa hg cc ?_|refine ad hg cy ?_|refine aa hg m1 ?_|refine aa hg m2 ?_|refine aa hg a1 ?_|refine aa hg a2 ?_);cbv)
  refine fg hF ?_ ?_<;>first|rfl|exact⟨rfl,rfl⟩
theorem fM(V:LLA)(rtl:Bool)(n:Int)(s k:aj)(wd hg2:aI)(row:Bool)(iw ih al ac:aI)(K:LLA)(p q:Int):PC0 234 [.agg [.view V,.B rtl,.imm (.pointer none)],.agg (plL n s wd hg2 row iw ih al ac (.view K)),.agg (lc (aj.c k)),ai p,ai q] (.tup [ai (i9 k.margin p rtl (knS iw)),ai (i9 k.margin q rtl (knS iw))]):=by
 have ck:=eJ iw.mode iw.n
 have m1:=fN k.margin p rtl (knS iw)
 have m2:=fN k.margin q rtl (knS iw)
 obtain⟨B,hB⟩:=nmE (knS iw)
 change PC0 _ _ (.i (knS iw))at ck
 rw [<-hB]at ck m1 m2⊢
 obtain⟨M1,ha⟩:=nmE (i9 k.margin p rtl B)
 obtain⟨M2,hb⟩:=nmE (i9 k.margin q rtl B)
 rw [<-ha]at m1⊢
 rw [<-hb]at m2⊢
 clear ha hb hB
 refine ae (aJ f234) ay func234 fun g F hg hF=> ?_
 cbv
 repeat'((first|refine ad hg ck ?_|refine aa hg m1 ?_|refine aa hg m2 ?_);cbv)
 refine fg hF ?_ ?_<;>first|rfl|exact⟨rfl,rfl⟩
theorem tr(ns:List af)(n:Int)(x:af)(hs:∀y∈ns,af.small y)(ht:eo ns=true)(hl:ns.length<=1048576)(h1:1<=n)(h2:n<=(ns.length:Int))(hx:ns[(n-1).toNat]? =some x)(hkl:x.kids.length<=1048576)(hk:∀k∈x.kids,isN ns k=true)(a b c d:Int):PC0 147 [.agg [.view (vwA af.ac ns)],ai n,agP ⟨a,b⟩,agP ⟨c,d⟩] (.t (.agg (nwL n x.style (jF x.style) (if jF x.style then inW x.style ⟨a,b⟩else inH x.style ⟨c,d⟩) (if jF x.style then inH x.style ⟨c,d⟩else inW x.style ⟨a,b⟩) (knS (inW x.style ⟨a,b⟩)) (.view (vw ak (gY (ix ns) (x.kids.filter (lY ns)))))))):=by
 have cF:=qc ns n x hs ht hl h1 h2 hx hkl hk
 obtain⟨V,hV⟩:=nmE (vwA af.ac ns)
 obtain⟨K,hK⟩:=nmE (vw ak x.kids)
 obtain⟨R,hR⟩:=nmE (vw aO.c x.table.rules)
 obtain⟨G,hG⟩:=nmE (vw ak (gY (ix ns) (x.kids.filter (lY ns))))
 have pG:=pmV hG
 have iG:=imV hG
 have kG:=kmV (k:=1) hG fun _=>rfl
 have dG:=dmV hG
 have cn:=bm ns n x h1 (by omega) hx V K R hV hK hR
 have cr:=gD x.style
 have f1:=gL x.style true
 have f2:=gL x.style false
 have i1:=dv a b (sY x.style true)
 have i2:=dv c d (sY x.style false)
 obtain⟨w1,w2,hW⟩:∃w1 w2,(⟨w1,w2⟩:aI)=inW x.style ⟨a,b⟩:=⟨_,_,rfl⟩
 obtain⟨q1,q2,hH⟩:∃q1 q2,(⟨q1,q2⟩:aI)=inH x.style ⟨c,d⟩:=⟨_,_,rfl⟩
 have ck:=dh w1 w2
 rw [<-hV,<-hG]at cF
 rw [<-hV,<-hG,<-hW,<-hH]
 change PC0 _ _ (.t (agP (inW x.style ⟨a,b⟩)))at i1
 change PC0 _ _ (.t (agP (inH x.style ⟨c,d⟩)))at i2
 rw [<-hW]at i1
 rw [<-hH]at i2
 obtain⟨kn,hc⟩:=nmE (knS ⟨w1,w2⟩)
 obtain⟨F1,ha⟩:=nmE (sY x.style true)
 obtain⟨F2,hb⟩:=nmE (sY x.style false)
 rw [<-hc]at ck⊢
 rw [<-ha]at f1 i1
 rw [<-hb]at f2 i2
 cases hr:jF x.style
 all_goals
  rw [hr]at cr
  simp only [if_true,if_false,Bool.false_eq_true]
  refine ae (aJ f147) ay func147 fun g F hg hF=> ?_
  cbv
  repeat'((first|refine ad hg cn ?_|refine aa hg cr ?_|refine aa hg f1 ?_|refine aa hg f2 ?_|refine aa hg i1 ?_|refine aa hg i2 ?_|refine ad hg ck ?_|refine bO hg cF (bp rfl) iG ?_);cbv)
  refine s5 [.agg (nwL n x.style _ _ _ _ (.view G))] hF (.agg (by repeat'(first|exact .nil|exact .imm _|exact aZ (ab:=⟨_,_,G⟩) rfl kG dG|refine .cons ?_ ?_)) .nil) ⟨rfl,rfl⟩
def GM:AC->Bool
 | .imm _=>true
 | .view _=>true
 | .eptr _ _=>true
 |_=>false
theorem D6{F:Nat->Prop}{w:World}{m:AM}{h:AH}{x:AT}{v:Value}(hp:x.cells.all GM=true)(hv:RT F w m h x v):RT F w [] [] x v:=by
 have ha:∀(c:AC)(u:Value),GM c=true->RC F w m h c u->RC F w [] [] c u:=by
  intro c u hc hr
  cases c<;>first|exact hr|cases hc
 cases x with
 |c y=>exact ha y v (by simpa [AT.cells]using hp) hv
 |agg xs=>
  obtain⟨vs,h1,h2,h3⟩:=hv
  exact⟨vs,h1,h2,fun j y hj=>let⟨u,hu,ho,hr⟩:=h3 j y hj;⟨u,hu,ho,ha y u (List.all_eq_true.1 hp y (zqd hj)) hr⟩⟩
variable {args:List AT}{P:Program}
theorem CN{f:FuncId}{h:AH}{Post:AV->List AB->Prop}(hc:dc P f args Post)(hp:(args.all fun x=>x.cells.all GM)=true):Con P f h args fun res h'=>∃r rows,Post r rows/\res=r.shift h.length/\h'=h++(rows.map (AB.shift h.length)).map .live:=
 ⟨hc.1,fun F w m vs hH hl hx=>(hc.2 F w [] vs (RH.empty hH.old (Nat.zero_le _)) hl (fun j x hj=>by
  obtain⟨v,hv,hr⟩:=hx j x hj
  exact⟨v,hv,D6 (List.all_eq_true.1 hp x (zqd hj)) hr⟩)).mono fun e w''⟨v,res,h',m',F1,he,⟨rows,hh,hpost⟩,hG,hs,hv⟩=>by
  subst hh
  obtain⟨m2,F2,g1,g2,g3⟩:=ek.of_outG hH (k9 (n:=h.length) hG hs hv)
  exact⟨v,_,_,m2,F2,he,⟨res,rows,hpost,rfl,rfl⟩,g1,g2,g3⟩⟩
theorem Bm{n0 N:Nat}{h:EH}{g:Gd}(hg:g=G0 P n0 N){f:FuncId}{K:AV->EH->Prop}{r:AV}(hc:dc P f args fun res ha=>res=r/\ha=[])(hp:(args.all fun x=>x.cells.all GM)=true)(hr:gH r=true)(hK:K r (h++[])):g .C f h args K:=by
 subst hg
 refine(CN (h:=toH h) hc hp).mono fun res h'⟨r0,ha,⟨e1,e2⟩,h1,h2⟩=> ?_
 subst e1 e2
 subst h1 h2
 exact⟨h,by simp,by rw [iC hr];simpa using hK⟩
def EB(s k:aj)(rtl row:Bool)(ac:aI)(kn:Int):aI:=
 let sd:=sdB s k rtl false kn
 let b:=wrap64 (sd.before+sd.behind)
 if ph k (!row) (knS ac)≠ -1 then⟨3,ly k (!row) (knS ac) (ph k (!row) (knS ac))⟩
 else if yv {sd with align:=zy s k}=true/\s.wrap=1/\ac.mode=3 then⟨3,ly k (!row) (knS ac) (wrap64 (ac.n-b))⟩
 else Cb (o7 ac b)
theorem kC(ns:List af)(hl:ns.length<=1048576)(kid:Int)(y:af)(h1:isN ns kid=true)(hy:ns[(kid-1).toNat]? =some y)(rtl kp:Bool)(C D:AC)(n:Int)(s:aj)(row:Bool)(al ac:aI)(kn:Int)(K:LLA):PC0 261 [.c (.eptr [.view (vwA af.ac ns),.B rtl,.B kp,C,D] 0),.agg (nwL n s row al ac kn (.view K)),ai kid] (.t (agP (EB s y.style rtl row ac kn))):=by
 obtain⟨Ky,ho⟩:=nmE (vw ak y.kids)
 obtain⟨Ry,hp⟩:=nmE (vw aO.c y.table.rules)
 have b2:=bq h1
 have cs:=fK ns hl kid y h1 hy rtl false kp C D n s row al ac kn K
 obtain⟨V,hV⟩:=nmE (vwA af.ac ns)
 have cy:=bm ns kid y b2.1 (by have:=b2.2.1;omega) hy V Ky Ry hV ho hp
 have ck:=dh ac.mode ac.n
 change PC0 _ _ (.i (knS ac))at ck
 have cf:=eG y.style (!row) (knS ac)
 have cb:=cj y.style (!row) (knS ac) (ph y.style (!row) (knS ac))
 have ca:=ml s y.style
 have ci:=fun z=>dv ac.mode ac.n z
 have cL:=kO
 obtain⟨R,hR⟩:=nmE (EB s y.style rtl row ac kn)
 rw [<-hV]at cs
 rw [<-hV,<-hR]
 unfold EB at hR
 simp only at hR
 obtain⟨SD,hn⟩:=nmE (sdB s y.style rtl false kn)
 rw [<-hn]at cs hR
 clear hn
 obtain⟨am,an⟩:=ac
 obtain⟨KN,hm⟩:=nmE (knS ⟨am,an⟩)
 rw [<-hm]at ck cf cb hR
 have cb:=fun z=>cj y.style (!row) KN z
 obtain⟨FX,hk⟩:=nmE (ph y.style (!row) KN)
 rw [<-hk]at cf hR
 obtain⟨AL,hh⟩:=nmE (zy s y.style)
 rw [<-hh]at ca hR
 clear hh hk hm
 have cF:=oD {SD with align:=AL}
 have cB:=iQ {SD with align:=AL}
 change PC0 _ _ (.i (wrap64 (SD.before+SD.behind)))at cB
 obtain⟨FB,hj⟩:∃S,S=yv {SD with align:=AL}:=⟨_,rfl⟩
 rw [<-hj]at cF hR
 obtain⟨BB,hi⟩:=nmE (wrap64 (SD.before+SD.behind))
 rw [<-hi]at cB hR
 clear hj hi
 have ci:=ci BB
 change PC0 _ _ (.t (agP (o7 ⟨am,an⟩ BB)))at ci
 obtain⟨i1,i2,hI⟩:∃i1 i2,(⟨i1,i2⟩:aI)=o7 ⟨am,an⟩ BB:=⟨_,_,rfl⟩
 rw [<-hI]at ci hR
 clear hI
 have cL:=cL i1 i2
 obtain⟨l1,l2,hL⟩:∃j1 j2,(⟨j1,j2⟩:aI)=Cb ⟨i1,i2⟩:=⟨_,_,rfl⟩
 rw [<-hL]at cL hR
 clear hL
 obtain⟨ZZ,he⟩:=nmE (wrap64 (an-BB))
 have ha:=cb FX
 have hb:=cb ZZ
 obtain⟨B1,hc⟩:=nmE (ly y.style (!row) KN FX)
 obtain⟨B2,hd⟩:=nmE (ly y.style (!row) KN ZZ)
 rw [<-he,<-hc,<-hd]at hR
 rw [<-hc]at ha
 rw [<-hd]at hb
 clear hc hd cb
 obtain⟨wr,hf⟩:=nmE s.wrap
 rw [<-hf]at hR
 by_cases q1:FX= -1
 ·simp only [q1,ne_eq,not_true_eq_false,if_false]at hR
  subst q1
  have t1:∀g:Gd,g=G0 prog 0 f261.ntmps->g .q .neq (-1) (-1)=false:=fun g hg=>by rw [bn hg];rfl
  have t2:∀g:Gd,g=G0 prog 0 f261.ntmps->g .q .eql s.wrap 1=decide (wr=1):=fun g hg=>by rw [bj hg,hf];exact zqn _ _
  have t3:∀g:Gd,g=G0 prog 0 f261.ntmps->g .q .eql am 3=decide (am=3):=fun g hg=>by rw [bj hg];exact zqn _ _
  have t4:∀g:Gd,g=G0 prog 0 f261.ntmps->g .w .sub .i64 an BB=ZZ:=fun g hg=>by rw [bZ hg,he]
  clear hf he
  cases FB
  case false=>
   simp only [Bool.false_eq_true,false_and,if_false]at hR
   rw [hR]
   clear hR
   refine ae (aJ f261) ay func261 fun g F hg hF=> ?_
   have t1:=t1 g hg
   cbv
   repeat'((first|refine ad hg cy ?_|refine ad hg ck ?_);cbv)
   refine Bm hg cs rfl rfl ?_
   cbv
   repeat'(refine ad hg cf ?_;cbv)
   rw [t1]
   cbv
   repeat'((first|refine ad hg ca ?_|refine ad hg cF ?_|refine aa hg cB ?_|refine aa hg ci ?_|refine aa hg cL ?_);cbv)
   exact l7 hF ⟨rfl,rfl⟩
  by_cases q2:wr=1
  case neg=>
   simp only [q2,false_and,and_false,if_false]at hR
   rw [hR]
   clear hR
   refine ae (aJ f261) ay func261 fun g F hg hF=> ?_
   have t1:=t1 g hg
   have t2:=t2 g hg
   rw [zqt q2]at t2
   cbv
   repeat'((first|refine ad hg cy ?_|refine ad hg ck ?_);cbv)
   refine Bm hg cs rfl rfl ?_
   cbv
   repeat'(refine ad hg cf ?_;cbv)
   rw [t1]
   cbv
   repeat'((first|refine ad hg ca ?_|refine ad hg cF ?_);cbv)
   rw [t2]
   cbv
   repeat'((first|refine aa hg cB ?_|refine aa hg ci ?_|refine aa hg cL ?_);cbv)
   exact l7 hF ⟨rfl,rfl⟩
  by_cases q3:am=3
  case neg=>
   simp only [q3,false_and,and_false,if_false]at hR
   rw [hR]
   clear hR
   refine ae (aJ f261) ay func261 fun g F hg hF=> ?_
   have t1:=t1 g hg
   have t2:=t2 g hg
   have t3:=t3 g hg
   rw [zqu q2]at t2
   rw [zqt q3]at t3
   cbv
   repeat'((first|refine ad hg cy ?_|refine ad hg ck ?_);cbv)
   refine Bm hg cs rfl rfl ?_
   cbv
   repeat'(refine ad hg cf ?_;cbv)
   rw [t1]
   cbv
   repeat'((first|refine ad hg ca ?_|refine ad hg cF ?_);cbv)
   rw [t2]
   cbv
   rw [t3]
   cbv
   repeat'((first|refine aa hg cB ?_|refine aa hg ci ?_|refine aa hg cL ?_);cbv)
   exact l7 hF ⟨rfl,rfl⟩
  simp only [q2,q3,and_self,if_true]at hR
  rw [hR]
  clear hR
  refine ae (aJ f261) ay func261 fun g F hg hF=> ?_
  have t1:=t1 g hg
  have t2:=t2 g hg
  have t3:=t3 g hg
  have t4:=t4 g hg
  rw [zqu q2]at t2
  rw [zqu q3]at t3
  cbv
  repeat'((first|refine ad hg cy ?_|refine ad hg ck ?_);cbv)
  refine Bm hg cs rfl rfl ?_
  cbv
  repeat'(refine ad hg cf ?_;cbv)
  rw [t1]
  cbv
  repeat'((first|refine ad hg ca ?_|refine ad hg cF ?_);cbv)
  rw [t2]
  cbv
  rw [t3]
  cbv
  repeat'(refine aa hg cB ?_;cbv)
  rw [t4]
  repeat'(refine aa hg hb ?_;cbv)
  exact l7 hF ⟨rfl,rfl⟩
 ·simp only [q1,ne_eq,not_false_eq_true,if_true]at hR
  rw [hR]
  clear hR
  refine ae (aJ f261) ay func261 fun g F hg hF=> ?_
  have t1:g .q .neq FX (-1)=true:=by rw [bn hg];simp [q1]
  cbv
  repeat'((first|refine ad hg cy ?_|refine ad hg ck ?_);cbv)
  refine Bm hg cs rfl rfl ?_
  cbv
  repeat'(refine ad hg cf ?_;cbv)
  rw [t1]
  cbv
  repeat'(refine ad hg ha ?_;cbv)
  exact l7 hF ⟨rfl,rfl⟩
theorem uc(ns:List af)(n:Int)(x:af)(hl:ns.length<=1048576)(h1:1<=n)(h2:n<=1048576)(hx:ns[(n-1).toNat]? =some x)(hkl:x.kids.length<20)(hk:∀k∈x.kids,isN ns k=true)(rtl:Bool)(a b c d:Int):PC0 169 [.agg [.view (vwA af.ac ns),.B rtl,.imm (.pointer none)],ai n,agP ⟨a,b⟩,agP ⟨c,d⟩] (.t (.agg (plL n x.style ⟨a,b⟩ ⟨c,d⟩ (jF x.style) (inW x.style ⟨a,b⟩) (inH x.style ⟨c,d⟩) (if jF x.style then inW x.style ⟨a,b⟩else inH x.style ⟨c,d⟩) (if jF x.style then inH x.style ⟨c,d⟩else inW x.style ⟨a,b⟩) (.view (vw ak (gY (ix ns) (x.kids.filter (lY ns)))))))):=by
 have cF:=qK ns n x hl h1 h2 hx hkl hk
 obtain⟨V,hV⟩:=nmE (vwA af.ac ns)
 obtain⟨K,hK⟩:=nmE (vw ak x.kids)
 obtain⟨R,hR⟩:=nmE (vw aO.c x.table.rules)
 obtain⟨G,hG⟩:=nmE (vw ak (gY (ix ns) (x.kids.filter (lY ns))))
 have pG:=pmV hG
 have iG:=imV hG
 have kG:=kmV (k:=1) hG fun _=>rfl
 have dG:=dmV hG
 have cn:=bP ns n x h1 (by omega) hx V K R hV hK hR
 have cr:=gI x.style
 have cf:=eU x.style
 obtain⟨e1,e2,e3,e4,hE⟩:∃e1 e2 e3 e4,(⟨e1,e2,e3,e4⟩:bS)=lw x.style:=⟨_,_,_,_,rfl⟩
 rw [<-hE]at cf
 have f1:=ec e1 e2 e3 e4
 have f2:=ei e1 e2 e3 e4
 obtain⟨F1,ha⟩:=nmE (sY x.style true)
 obtain⟨F2,hb⟩:=nmE (sY x.style false)
 have z1:adE e1 e3=F1:=by rw [ha];simp only [sY,<-hE,if_true]
 have z2:adE e2 e4=F2:=by rw [hb];simp only [sY,<-hE,if_false,Bool.false_eq_true]
 rw [z1]at f1
 rw [z2]at f2
 have i1:=eN a b F1
 have i2:=eN c d F2
 obtain⟨w1,w2,hW⟩:∃w1 w2,(⟨w1,w2⟩:aI)=inW x.style ⟨a,b⟩:=⟨_,_,rfl⟩
 obtain⟨q1,q2,hH⟩:∃q1 q2,(⟨q1,q2⟩:aI)=inH x.style ⟨c,d⟩:=⟨_,_,rfl⟩
 have y1:o7 ⟨a,b⟩ F1=⟨w1,w2⟩:=by rw [ha];exact hW.symm
 have y2:o7 ⟨c,d⟩ F2=⟨q1,q2⟩:=by rw [hb];exact hH.symm
 rw [y1]at i1
 rw [y2]at i2
 rw [<-hV,<-hG]at cF
 rw [<-hV,<-hG,<-hW,<-hH]
 clear ha hb z1 z2 y1 y2 hW hH
 cases hr:jF x.style
 all_goals
  rw [hr]at cr
  simp only [if_true,if_false,Bool.false_eq_true]
  refine ae (aJ f169) ay func169 fun g F hg hF=> ?_
  cbv
  repeat'((first|refine ad hg cn ?_|refine aa hg cr ?_|refine aa hg cf ?_|refine aa hg f1 ?_|refine aa hg f2 ?_|refine aa hg i1 ?_|refine aa hg i2 ?_|refine bO hg cF (bp rfl) iG ?_);cbv)
  refine s5 [.agg (plL n x.style _ _ _ _ _ _ _ (.view G))] hF (.agg (by repeat'(first|exact .nil|exact .imm _|exact aZ (ab:=⟨_,_,G⟩) rfl kG dG|refine .cons ?_ ?_)) .nil) ⟨rfl,rfl⟩
theorem jZ(ns:List af)(hl:ns.length<=1048576)(kid:Int)(y:af)(h1:isN ns kid=true)(hy:ns[(kid-1).toNat]? =some y)(rtl:Bool)(n:Int)(s:aj)(wd hgh:aI)(row:Bool)(iw ih al ac:aI)(K:LLA):PC0 240 [.agg [.view (vwA af.ac ns),.B rtl,.imm (.pointer none)],.agg (plL n s wd hgh row iw ih al ac (.view K)),ai kid] (.t (agP (EB s y.style rtl row ac (knS iw)))):=by
 obtain⟨Ky,hu⟩:=nmE (vw ak y.kids)
 obtain⟨Ry,hv⟩:=nmE (vw aO.c y.table.rules)
 have b2:=bq h1
 obtain⟨V,hV⟩:=nmE (vwA af.ac ns)
 have cy:=bP ns kid y b2.1 (by have:=b2.2.1;omega) hy V Ky Ry hV hu hv
 have ck:=eJ ac.mode ac.n
 change PC0 _ _ (.i (knS ac))at ck
 have cf:=eV y.style (!row) (knS ac)
 have cb:=fun z=>dx y.style (!row) (knS ac) z
 have cx:=fun z=>fp z
 have cs:=jo s rtl
 have cm:=fun p q=>fM V rtl n s y.style wd hgh row iw ih al ac K p q
 have ca:=mz s y.style
 have ci:=fun z=>eN ac.mode ac.n z
 have cL:=lu
 obtain⟨R,hR⟩:=nmE (EB s y.style rtl row ac (knS iw))
 rw [<-hV,<-hR]
 unfold EB sdB at hR
 simp only [sdM,Bool.false_eq_true,if_false,yv]at hR
 obtain⟨p,hp⟩:=nmE (sd1 (!jF s) (lx s rtl))
 obtain⟨q,hq⟩:=nmE (sd2 (!jF s) (lx s rtl))
 rw [<-hp,<-hq]at cs hR
 clear hp hq
 have cm:=cm p q
 have c1:=dJ y.style.margin p rtl
 have c2:=dJ y.style.margin q rtl
 obtain⟨M1,hr⟩:=nmE (i9 y.style.margin p rtl (knS iw))
 obtain⟨M2,hs⟩:=nmE (i9 y.style.margin q rtl (knS iw))
 obtain⟨A1,hk⟩:=nmE (u4 y.style.margin p rtl)
 obtain⟨A2,hm⟩:=nmE (u4 y.style.margin q rtl)
 rw [<-hr,<-hs]at cm hR
 rw [<-hk]at c1 hR
 rw [<-hm]at c2 hR
 clear hr hs hk hm
 obtain⟨am,an⟩:=ac
 obtain⟨KN,he⟩:=nmE (knS ⟨am,an⟩)
 rw [<-he]at ck cf hR
 simp only [<-he]at cb
 obtain⟨FX,ho⟩:=nmE (ph y.style (!row) KN)
 rw [<-ho]at cf hR
 obtain⟨AL,hn⟩:=nmE (zy s y.style)
 rw [<-hn]at ca hR
 clear hn ho he
 obtain⟨BB,hd⟩:=nmE (wrap64 (M1+M2))
 rw [<-hd]at hR
 have ci:=ci BB
 change PC0 _ _ (.t (agP (o7 ⟨am,an⟩ BB)))at ci
 obtain⟨i1,i2,hI⟩:∃i1 i2,(⟨i1,i2⟩:aI)=o7 ⟨am,an⟩ BB:=⟨_,_,rfl⟩
 rw [<-hI]at ci hR
 clear hI
 have cL:=cL i1 i2
 obtain⟨l1,l2,hL⟩:∃j1 j2,(⟨j1,j2⟩:aI)=Cb ⟨i1,i2⟩:=⟨_,_,rfl⟩
 rw [<-hL]at cL hR
 clear hL
 obtain⟨ZZ,hf⟩:=nmE (wrap64 (an-BB))
 have ha:=cb FX
 have hi:=cb ZZ
 obtain⟨B1,hb⟩:=nmE (ly y.style (!row) KN FX)
 obtain⟨B2,hc⟩:=nmE (ly y.style (!row) KN ZZ)
 rw [<-hf,<-hb,<-hc]at hR
 rw [<-hb]at ha
 rw [<-hc]at hi
 clear hb hc cb
 have hj:=cx B1
 have ht:=cx B2
 obtain⟨wr,hh⟩:=nmE s.wrap
 rw [<-hh]at hR
 by_cases q1:FX= -1
 ·simp only [q1,ne_eq,not_true_eq_false,if_false]at hR
  subst q1
  have t1:∀g:Gd,g=G0 prog 0 f240.ntmps->g .q .neq (-1) (-1)=false:=fun g hg=>by rw [bn hg];rfl
  have t2:∀g:Gd,g=G0 prog 0 f240.ntmps->g .q .eql s.wrap 1=decide (wr=1):=fun g hg=>by rw [bj hg,hh];exact zqn _ _
  have t3:∀g:Gd,g=G0 prog 0 f240.ntmps->g .q .eql am 3=decide (am=3):=fun g hg=>by rw [bj hg];exact zqn _ _
  have t4:∀g:Gd,g=G0 prog 0 f240.ntmps->g .w .sub .i64 an BB=ZZ:=fun g hg=>by rw [bZ hg,hf]
  have t5:∀g:Gd,g=G0 prog 0 f240.ntmps->g .q .eql AL 1=decide (AL=1):=fun g hg=>by rw [bj hg];exact zqn _ _
  have t6:∀g:Gd,g=G0 prog 0 f240.ntmps->g .w .add .i64 M1 M2=BB:=fun g hg=>by rw [aN hg,hd]
  clear hh hf hd
  cases A1<;>cases A2<;>by_cases q0:AL=1
  by_cases q2:wr=1
  by_cases q3:am=3
  all_goals
   (try simp only [q2]at hR)
   (try simp only [q3]at hR)
   simp only [q0,decide_true,decide_false,Bool.not_false,Bool.not_true,Bool.and_self,Bool.and_true,Bool.true_and,Bool.and_false,Bool.false_and,Bool.false_eq_true,and_self,and_true,true_and,and_false,false_and,if_true,if_false]at hR
   rw [hR]
   clear hR
   refine ae (aJ f240) ay func240 fun g F hg hF=> ?_
   have t1:=t1 g hg
   have t2:=t2 g hg
   have t3:=t3 g hg
   have t4:=t4 g hg
   have t5:=t5 g hg
   have t6:=t6 g hg
   (try first|rw [zqu q2]at t2|rw [zqt q2]at t2)
   (try first|rw [zqu q3]at t3|rw [zqt q3]at t3)
   first|rw [zqu q0]at t5|rw [zqt q0]at t5
   cbv
   repeat'(first|((first|refine ad hg cy ?_|refine ad hg ck ?_|refine ad hg cf ?_|rw [t1]|refine ad hg cs ?_|refine ad hg cm ?_|refine ad hg c1 ?_|refine ad hg c2 ?_|refine ad hg ca ?_|rw [t5]|rw [t2]|rw [t3]);cbv)|(rw [t6];first|rw [t4]|skip)|((first|refine ad hg hi ?_|refine ad hg ht ?_|refine ad hg ci ?_|refine ad hg cL ?_);cbv))
   exact l7 hF ⟨rfl,rfl⟩
 ·simp only [q1,ne_eq,not_false_eq_true,if_true]at hR
  rw [hR]
  clear hR
  refine ae (aJ f240) ay func240 fun g F hg hF=> ?_
  have t1:g .q .neq FX (-1)=true:=by rw [bn hg];simp [q1]
  cbv
  repeat'((first|refine ad hg cy ?_|refine ad hg ck ?_|refine ad hg cf ?_);cbv)
  rw [t1]
  cbv
  repeat'((first|refine ad hg ha ?_|refine ad hg hj ?_);cbv)
  exact l7 hF ⟨rfl,rfl⟩
end Go.Proofs.YtckchgoblpgpbaaGreat
