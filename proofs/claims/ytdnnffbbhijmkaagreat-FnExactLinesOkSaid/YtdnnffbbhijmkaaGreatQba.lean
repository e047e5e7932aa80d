/- The program's space across of a child. -/
import Derived.Test.YtdnnffbbhijmkaaGreatQaz
set_option linter.unusedVariables false
set_option linter.unusedSimpArgs false
set_option maxHeartbeats 16000000
namespace Go.Proofs.YtdnnffbbhijmkaaGreat
open Go.Shelf Go.RowKit Go.Lib Go.Sort Am Go.Proofs.Tryz
set_option maxRecDepth 100000
theorem k9(ns:List ak)(n:Int)(nd:ak)(hl:ns.length≤1048576)(h1:1≤n)(h2:n≤1048576)(hx:ns[(n-1).toNat]? =some nd)(hkl:nd.kids.length<20)(hk:∀k∈nd.kids,isN ns k=true):cY prog 70 [.agg [.view (vwA ak.ac ns)],ai n] fun res rows=>res= .o 0∧rows=[⟨3,1,vw ao (ia (io ns) (nd.kids.filter (lQ ns)))⟩]:=by
 obtain⟨V,hV⟩:=nmE (vwA ak.ac ns)
 obtain⟨K,hK⟩:=nmE (vw ao nd.kids)
 obtain⟨Rt,hRt⟩:=nmE (vw aJ.c nd.table.rules)
 have hKx:bg K=(nd.kids.length:Int):=by rw [aB,hK,af]
 have hK0:0≤bg K:=by omega
 have hK1:bg K≤1048576:=by omega
 have hlen:∀z:Int,(vw ao ((nd.kids.take z.toNat).filter (lQ ns))).length≤1048576:=fun z=>by
  rw [af]
  have:=List.length_filter_le (lQ ns) (nd.kids.take z.toNat)
  simp only [List.length_take]at this
  omega
 have hstep:∀(z:Int)(k:Int),0≤z→nd.kids[z.toNat]? =some k→vw ao ((nd.kids.take (z+1).toNat).filter (lQ ns))=vw ao ((nd.kids.take z.toNat).filter (lQ ns))++(if lQ ns k then [[.J k]]else []):=fun z k h0 hz=>by
  rw [wn h0 hz,uZ]
  congr 1
  cases lQ ns k<;>rfl
 have cn:=di ns n nd h1 h2 hx V K Rt hV hK hRt
 rw [←hV]
 refine gC ([(9,.hand)]) ([]) (c:=aK f70) aD func70 (by kernel_rfl) (by kernel_rfl) (by rfl) (by kernel_rfl) fun g eff hd F heff hhd hg hF=> ?_
 cbv
 (first|refine ad hg cn ?_|refine aa hg cn ?_)
 cbv
 have hkl1:nd.kids.length≤1048576:=by omega
 refine lA ([(9,.hand)]) ([]) heff hhd hg aD (by kernel_rfl) K (fun x=>lc (ao x)) nd.kids hK hkl1 (fun z(s:LLA×List Int)=>[(2,.p 0),(5,.p 1),(12,.v K),(13,.i (g .ln K)),(14,.i (z))]) (fun z(s:LLA×List Int)=>[.bx 32 1 [.view V],.bx 49 1 [.own 2],.rw ⟨3,1,s.1⟩]) (fun z(s:LLA×List Int)=>s.1=vw ao s.2∧(s.2.length:Int)≤z) (fun(s:LLA×List Int) rest=>s.2++rest.filter (lQ ns)) (nd.kids.filter (lQ ns)) ([],[]) rfl ⟨rfl,by simp⟩ (Wk.weak (wkG [some 0,some 1,none] ⟨rfl,rfl,rfl,rfl,rfl,trivial⟩ ⟨wqE rfl rfl,⟨_,_,rfl,rfl,rfl,rfl,.inr ⟨⟨rfl,trivial⟩,trivial⟩⟩,⟨_,rfl,rfl⟩,trivial⟩ (by decide) aI)) (fun z s B hz h0 hi he=> ?_) (fun z s x rest B z0 z1 z2 hx hy h0 hi hc e1 hB=> ?_)
 ·obtain⟨es,ks⟩:=s
  obtain⟨k1,k2⟩:=hi
  dsimp only at k1 k2 h0
  simp only [List.filter_nil,List.append_nil]at h0
  rw [h0]at k1
  cbv;rw [he];cbv
  rw [hhd,hV]
  show VC _ _ _ (.region _ _ _) (QE _) (lkT _) (toH _)
  apply Dn (ns:=ns) (E:=nd.kids.filter (lQ ns)) (hl:=hl) (tT:=32) (tI:=49)
  case hcd=>rfl
  case hN=>rfl
  case hhh=>rw [k1]
  case hE=>exact fun k hkm=>hk k (List.mem_filter.1 hkm).1
  case h20=>exact Nat.lt_of_le_of_lt (List.length_filter_le _ _) hkl
  any_goals rfl
  refine⟨_,_,rfl,rfl,?_⟩
  obtain⟨G,hG⟩:=nmE (vw ao (ia (io ns) (nd.kids.filter (lQ ns))))
  have pG:aj G=true:=by rw [hG];exact ag _ _
  rw [←hG]at hF⊢
  cbv
  exact bP hF rfl pG
 obtain⟨es,ks⟩:=s
 obtain⟨k1,k2⟩:=hi
 dsimp only at k1 k2 h0
 have hin:=hk x (zqd hx)
 obtain⟨q1,q2,y,hyn⟩:=bF hin
 have hap:lQ ns x=(!y.style.hidden&& !y.style.apart):=by unfold lQ;rw [hyn]
 rw [List.filter_cons,hap]at h0
 clear hap
 have pE:aj es=true:=by rw [k1];exact ag _ _
 have hle:es.length≤1048576:=by rw [k1,af];omega
 obtain⟨Ky,hKy⟩:=nmE (vw ao y.kids)
 obtain⟨Ry,hRy⟩:=nmE (vw aJ.c y.table.rules)
 have cy:=di ns x y q1 (by omega) hyn V Ky Ry hV hKy hRy
 obtain⟨c0,c1,⟨c2,c3,c4,c5,c6,c7,c8,c9,c10,c11,c12,⟨c13,c14⟩,⟨c15,c16⟩,⟨c17,c18⟩,⟨c19,c20⟩,⟨c21,c22⟩,⟨c23,c24⟩,⟨c25,c26⟩,c27,⟨⟨c28,c29⟩,⟨c30,c31⟩,⟨c32,c33⟩,⟨c34,c35⟩,⟨c36,c37⟩,⟨c38,c39⟩⟩,⟨⟨c40,c41⟩,⟨c42,c43⟩,⟨c44,c45⟩,⟨c46,c47⟩,⟨c48,c49⟩,⟨c50,c51⟩⟩,⟨c52,c53,c54,c55⟩,⟨c56,c57,c58,c59⟩,c60,c61⟩,c62,⟨c63⟩⟩:=y
 replace h0:ks++(if(!c9&& !c8)=true then x::rest.filter (lQ ns)else rest.filter (lQ ns))=nd.kids.filter (lQ ns):=h0
 cbv;rw [hc];cbv;refine goX hg _ z0 hy rfl ?_;cbv
 (first|refine ad hg cy ?_|refine aa hg cy ?_)
 cbv
 cases c9<;>cases c8<;>cbv
 case false.false=>
  refine dl hg rfl (by decide) (by omega) ?_
  cbv
  rw [e1,gG hg]
  have pE2:aj (es++[[.J x]])=true:=by
   have:es++[[.J x]]=vw ao (ks++[x]):=by rw [k1,uZ];rfl
   rw [this];exact ag _ _
  exact hB ((es++[[.J x]],ks++[x])) _ _ ⟨by simpa using h0,⟨by rw [k1,uZ];rfl,by simp;omega⟩⟩ (Wk.weak (wkG [some 0,some 1,some 5] ⟨rfl,rfl,rfl,rfl,rfl,trivial⟩ ⟨wqE rfl rfl,⟨_,_,rfl,rfl,rfl,rfl,.inr ⟨⟨rfl,trivial⟩,trivial⟩⟩,wqE rfl pE2,trivial⟩ (by decide) aI))
 all_goals
  rw [e1]
  exact hB ((es,ks)) _ _ ⟨by simpa using h0,⟨k1,by simp only;omega⟩⟩ (Wk.weak (wkG [some 0,some 1,some 2] ⟨rfl,rfl,rfl,rfl,rfl,trivial⟩ ⟨wqE rfl rfl,⟨_,_,rfl,rfl,rfl,rfl,.inr ⟨⟨rfl,trivial⟩,trivial⟩⟩,wqE rfl pE,trivial⟩ (by decide) aI))
section
variable {P : Program} {n0 N : Nat} {g : Gd}
theorem Fi(hg:g=G0 P n0 N){es:LLA}{a:Int}{K:Nat→Nat→Prop}(h0:0≤a)(h1:a≤bg es)(hK:∀j:Nat,j=a.toNat→K 0 j):g .SO es none (some a) K:=by
 subst hg
 have:=aB es
 exact⟨0,a.toNat,rfl,⟨h0,rfl⟩,Nat.zero_le _,by omega,by simpa using hK _ rfl⟩
theorem F6(hg:g=G0 P n0 N)(es:LLA)(a m:Nat):g .tk es a m=(es.drop a).take m:=by subst hg;rfl
theorem Fh(hg:g=G0 P n0 N){es:LLA}{a:Int}{K:Nat→Nat→Prop}(h0:0≤a)(h1:a≤bg es)(hK:∀j m:Nat,j=a.toNat→m=es.length-j→K j m):g .SO es (some a) none K:=by
 subst hg
 have:=aB es
 exact⟨a.toNat,es.length,⟨h0,rfl⟩,rfl,by omega,Nat.le_refl _,hK _ _ rfl rfl⟩
end
theorem vN(f:Int→Int):∀(xs acc:List Int),xs.foldl (fun a k=>(lU f k a.reverse).reverse) acc=(xs.foldl (fun a k=>lU f k a) acc.reverse).reverse
 | [],acc=>by simp
 |x::xs,acc=>by rw [List.foldl_cons,vN f xs,List.foldl_cons,List.reverse_reverse]
theorem yv(f:Int→Int)(xs:List Int):xs.foldl (fun a k=>(lU f k a.reverse).reverse) []=ia f xs:=vN f xs []
theorem kz(ns:List ak)(n:Int)(nd:ak)(hs:∀y∈ns,ak.small y)(ht:eo ns=true)(hl:ns.length≤1048576)(h1:1≤n)(h2:n≤(ns.length:Int))(hx:ns[(n-1).toNat]? =some nd)(hkl:nd.kids.length≤1048576)(hk:∀k∈nd.kids,isN ns k=true):cY prog 64 [.agg [.view (vwA ak.ac ns)],ai n] fun res rows=>res= .o 0∧rows=[⟨3,1,vw ao (ia (io ns) (nd.kids.filter (lQ ns)))⟩]:=by
 have cT:=mQ ns hl hs
 rw [ht]at cT
 obtain⟨V,hV⟩:=nmE (vwA ak.ac ns)
 have hVx:bg V=(ns.length:Int):=by rw [aB,hV,bE]
 have cI:=gx V n
 rw [show rng n 1 (bg V)=true by simp only [rng,zqs,zqp];omega]at cI
 obtain⟨K,hK⟩:=nmE (vw ao nd.kids)
 obtain⟨Rt,hRt⟩:=nmE (vw aJ.c nd.table.rules)
 obtain⟨G,hG⟩:=nmE (vw ao (ia (io ns) (nd.kids.filter (lQ ns))))
 have pG:aj G=true:=by rw [hG];exact ag _ _
 have hKx:bg K=(nd.kids.length:Int):=by rw [aB,hK,af]
 have hK0:0≤bg K:=by omega
 have hK1:bg K≤1048576:=by omega
 have cn:=bL ns n nd h1 (by omega) hx V K Rt hV hK hRt
 rw [←hV]at cT
 rw [←hV,←hG]
 refine gC ([(13,.hand)]) ([]) (c:=aK f64) aD func64 (by kernel_rfl) (by kernel_rfl) (by rfl) (by kernel_rfl) fun g eff hd F heff hhd hg hF=> ?_
 cbv
 (first|refine ad hg cT ?_|refine aa hg cT ?_)
 cbv
 (first|refine ad hg cI ?_|refine aa hg cI ?_)
 cbv
 (first|refine ad hg cn ?_|refine aa hg cn ?_)
 cbv
 refine lA ([(13,.hand)]) ([]) heff hhd hg aD (by kernel_rfl) K (fun x=>lc (ao x)) nd.kids hK hkl (fun z(s:LLA×List Int)=>[(2,.p 0),(5,.o 1),(6,.v K),(7,.i (z))]) (fun z(s:LLA×List Int)=>[.bx 32 1 [.view V],.rw ⟨3,1,s.1⟩]) (fun z(s:LLA×List Int)=>s.1=vw ao s.2∧(s.2.length:Int)≤z∧∀k∈s.2,isN ns k=true) (fun(s:LLA×List Int) rest=>(rest.filter (lQ ns)).foldl (fun a k=>(lU (io ns) k a.reverse).reverse) s.2) (ia (io ns) (nd.kids.filter (lQ ns))) ([],[]) (by simp only;exact yv _ _) ⟨rfl,by simp,by simp⟩ (Wk.weak (wkG [some 0,some 1] ⟨rfl,rfl,rfl,rfl,trivial⟩ ⟨wqE rfl rfl,wqE rfl rfl,trivial⟩ (by decide) aI)) (fun z s B hz h0 hi he=> ?_) (fun z s x rest B z0 z1 z2 hx hy h0 hi hc e1 hB=> ?_)
 ·obtain⟨es,ks⟩:=s
  obtain⟨k1,k2,k3⟩:=hi
  dsimp only at k1 k2 h0
  simp only [List.filter_nil,List.foldl_nil]at h0
  rw [h0,←hG]at k1
  subst k1
  cbv;rw [he];cbv
  exact bP hF rfl pG
 obtain⟨es,ks⟩:=s
 obtain⟨k1,k2,k3⟩:=hi
 dsimp only at k1 k2 k3 h0
 have hin:=hk x (zqd hx)
 obtain⟨q1,q2,y,hyn⟩:=bF hin
 have hap:lQ ns x=(!y.style.hidden&& !y.style.apart):=by unfold lQ;rw [hyn]
 have hor:io ns x=y.style.order:=by unfold io;rw [hyn]
 rw [List.filter_cons,hap]at h0
 clear hap
 have pE:aj es=true:=by rw [k1];exact ag _ _
 have hle:es.length≤1048576:=by rw [k1,af];omega
 obtain⟨Ky,hKy⟩:=nmE (vw ao y.kids)
 obtain⟨Ry,hRy⟩:=nmE (vw aJ.c y.table.rules)
 have cy:=bL ns x y q1 (by omega) hyn V Ky Ry hV hKy hRy
 obtain⟨c0,c1,⟨c2,c3,c4,c5,c6,c7,c8,c9,c10,c11,c12,⟨c13,c14⟩,⟨c15,c16⟩,⟨c17,c18⟩,⟨c19,c20⟩,⟨c21,c22⟩,⟨c23,c24⟩,⟨c25,c26⟩,c27,⟨⟨c28,c29⟩,⟨c30,c31⟩,⟨c32,c33⟩,⟨c34,c35⟩,⟨c36,c37⟩,⟨c38,c39⟩⟩,⟨⟨c40,c41⟩,⟨c42,c43⟩,⟨c44,c45⟩,⟨c46,c47⟩,⟨c48,c49⟩,⟨c50,c51⟩⟩,⟨c52,c53,c54,c55⟩,⟨c56,c57,c58,c59⟩,c60,c61⟩,c62,⟨c63⟩⟩:=y
 replace h0:(if(!c9&& !c8)=true then x::rest.filter (lQ ns)else rest.filter (lQ ns)).foldl (fun a k=>(lU (io ns) k a.reverse).reverse) ks=ia (io ns) (nd.kids.filter (lQ ns)):=h0
 replace hor:io ns x=c10:=hor
 have lF:(((lU (io ns) x ks.reverse).reverse).length:Int)≤z+1:=by rw [List.length_reverse,uj,List.length_reverse];omega
 cbv;rw [hc];cbv;refine goX hg _ z0 hy rfl ?_;cbv
 (first|refine ad hg cy ?_|refine aa hg cy ?_)
 cbv
 cases c9<;>cases c8<;>cbv
 case false.false=>
  simp only [Bool.not_false,Bool.and_self,if_true,List.foldl_cons]at h0
  have a0:0≤bg es:=by rw [aB];omega
  have a1:bg es≤1048576:=by rw [aB];omega
  have lks:bg es=(ks.length:Int):=by rw [k1,aB,af]
  rw [bD hg]
  refine sH [(13,.hand)] [] heff hhd hg aD (by kernel_rfl) (fun a:Int=>[(2,.p 0),(5,.o 1),(6,.v K),(7,.i (z)),(8,.p 2),(9,.i (a))]) (fun a=>[.bx 32 1 [.view V],.rw ⟨3,1,es⟩,.bx 87 60 [.J c2,.J c3,.J c4,.J c5,.J c6,.J c7,.B false,.B false,.J c10,.J c11,.J c12,.J c13,.J c14,.J c15,.J c16,.J c17,.J c18,.J c19,.J c20,.J c21,.J c22,.J c23,.J c24,.J c25,.J c26,.J c27,.J c28,.J c29,.J c30,.J c31,.J c32,.J c33,.J c34,.J c35,.J c36,.J c37,.J c38,.J c39,.J c40,.J c41,.J c42,.J c43,.J c44,.J c45,.J c46,.J c47,.J c48,.J c49,.J c50,.J c51,.J c52,.J c53,.J c54,.J c55,.J c56,.J c57,.J c58,.J c59,.J c60,.J c61]]) (fun a=>0≤a∧a≤bg es∧∀(i:Nat)(q:Int),a.toNat≤i→ks[i]? =some q→c10<io ns q) (fun a=>a.toNat) (bg es) ⟨a0,Int.le_refl _,fun i q hi hq=> ?_⟩ (Wk.weak (wkG [some 0,some 1,some 2] ⟨rfl,rfl,rfl,rfl,rfl,rfl,trivial⟩ ⟨wqE rfl rfl,wqE rfl pE,wqE rfl rfl,trivial⟩ (by decide) aI)) (fun a B2 ha hB2=> ?_)
  ·have:=(List.getElem?_eq_some_iff.1 hq).1;omega
  obtain⟨b0,b1,b2⟩:=ha
  have eA:∀j:Nat,g .ap [] (g .tk es 0 j)=vw ao (ks.take j):=fun j=>by rw [gG hg,F6 hg,k1];simp [vw,List.map_take]
  have lkN:ks.length≤1048576:=by omega
  have eB:∀j:Nat,g .ap (g .ap [] (g .tk es 0 j)) [[.J x]]=vw ao (ks.take j++[x]):=fun j=>by rw [eA j,gG hg,uZ];rfl
  have eC:∀j m:Nat,m=es.length-j→g .tk es j m=vw ao (ks.drop j):=fun j m hm=>by
   rw [F6 hg,hm,k1]
   simp only [vw,←List.map_drop,zql]
   rw [List.take_of_length_le (by simp)]
  have pM:∀{A:Prop}{n:Nat},A→n≤3000000→A∧n*8≤140737488355328∧n≤4611686018427387904:=fun hA hn=>⟨hA,by omega,by omega⟩
  have mF:∀k∈(lU (io ns) x ks.reverse).reverse,isN ns k=true:=fun k hkm=>by
   rw [List.mem_reverse,ui,List.mem_reverse]at hkm
   rcases hkm with rfl|h
   ·exact hin
   ·exact k3 k h
  have pN:∀{A:Prop}{n:Nat},A→n≤1048576→A∧(0+n)*8≤140737488355328∧0+n≤4611686018427387904:=fun hA hn=>⟨hA,by omega,by omega⟩
  have hfin:(a=0∨∃q,ks[a.toNat-1]? =some q∧¬c10<io ns q)→(lU (io ns) x ks.reverse).reverse=ks.take a.toNat++x::ks.drop a.toNat:=fun hc=>by
   refine Ap (io ns) x ks a.toNat (by omega) ?_ (fun i q hi hq=>by rw [hor];exact b2 i q hi hq)
   rcases hc with rfl|⟨q,h1,h2⟩
   ·exact .inl rfl
   ·exact .inr ⟨q,h1,by rw [hor];exact h2⟩
  have t0:g .q .gtr a 0=decide (0<a):=by rw [cj hg]
  have ew:0<a→g .w .sub .i64 a 1=a-1:=fun h=>by rw [dd hg,aC _ (by omega)]
  have l1:0<a→(a-1).toNat<ks.length:=fun h=>by omega
  have l2:0<a→a-1<bg es:=fun h=>by omega
  cbv
  rw [t0]
  by_cases hap:0<a
  case' pos=>
   rw [zqu hap]
   cbv
   rw [ew hap]
   have hl1:=l1 hap
   have hl2:=l2 hap
   have hq:ks[(a-1).toNat]? =some ks[(a-1).toNat]:=zqc hl1
   obtain⟨q,hqq⟩:=nmE (ks[(a-1).toNat])
   rw [←hqq]at hq
   obtain⟨r1,r2,yq,hyq⟩:=bF (k3 q (zqd hq))
   obtain⟨Kq,hKq⟩:=nmE (vw ao yq.kids)
   obtain⟨Rq,hRq⟩:=nmE (vw aJ.c yq.table.rules)
   have cq:=bL ns q yq r1 (by omega) hyq V Kq Rq hV hKq hRq
   have hoq:io ns q=yq.style.order:=by unfold io;rw [hyq]
   refine goY hg (by omega) hl2 fun j hj hjl=> ?_
   cbv
   refine⟨_,by rw [hj,k1];exact bh hq,?_⟩
   cbv
   (first|refine ad hg cq ?_|refine aa hg cq ?_)
   cbv
   have tq:g .q .gtr yq.style.order c10=decide (c10<yq.style.order):=cj hg _ _
   cases hd:g .q .gtr yq.style.order c10
   rotate_left
   ·have hd':c10<io ns q:=by rw [hoq];exact of_decide_eq_true (tq.symm.trans hd)
    cbv
    rw [ew hap,hB2]
    refine⟨a-1,⟨by omega,by omega,fun i p hi hp=> ?_⟩,by omega,Wk.weak (wkG [some 0,some 1,some 2] ⟨rfl,rfl,rfl,rfl,rfl,rfl,trivial⟩ ⟨wqE rfl rfl,wqE rfl pE,wqE rfl rfl,trivial⟩ (by decide) aI)⟩
    by_cases hi2:a.toNat≤i
    ·exact b2 i p hi2 hp
    ·obtain rfl:i=(a-1).toNat:=by omega
     rw [hq]at hp
     cases hp
     exact hd'
   have hst:=hfin (.inr ⟨q,by rw [show a.toNat-1=(a-1).toNat by omega];exact hq,by rw [hoq];exact of_decide_eq_false (tq.symm.trans hd)⟩)
  case' neg=>
   rw [zqt hap]
   have hst:=hfin (.inl (by omega))
  all_goals
   cbv
   obtain⟨X,hX⟩:=nmE (vw ao (ks.take a.toNat++[x]))
   have pX:aj X=true:=by rw [hX];exact ag _ _
   refine ek hg hhd aD [1,2,3,5,6,7,8] (.op 0 [] (.op 4 [] (.op 9 [] (.op 10 [11] .done .none) .none) (.op 9 [] (.op 4 [] (.op 10 [11] .done .none) .none) .none)) (.op 9 [] (.op 0 [] (.op 4 [] (.op 10 [11] .done .none) .none) .none) .none)) (by kernel_rfl) (by kernel_rfl) (S:=LLA) (fun s=>s=X) (fun _=>[(2,.p 0),(5,.o 1),(6,.v K),(7,.i (z)),(8,.p 2),(9,.i (a)),(10,.o 3)]) (fun s=>[.bx 32 1 [.view V],.rw ⟨3,1,es⟩,.bx 87 60 [.J c2,.J c3,.J c4,.J c5,.J c6,.J c7,.B false,.B false,.J c10,.J c11,.J c12,.J c13,.J c14,.J c15,.J c16,.J c17,.J c18,.J c19,.J c20,.J c21,.J c22,.J c23,.J c24,.J c25,.J c26,.J c27,.J c28,.J c29,.J c30,.J c31,.J c32,.J c33,.J c34,.J c35,.J c36,.J c37,.J c38,.J c39,.J c40,.J c41,.J c42,.J c43,.J c44,.J c45,.J c46,.J c47,.J c48,.J c49,.J c50,.J c51,.J c52,.J c53,.J c54,.J c55,.J c56,.J c57,.J c58,.J c59,.J c60,.J c61],.rw ⟨3,1,s⟩]) (fun BL hBL=> ?_) (fun s hsX=> ?_)
   ·cbv
    (repeat'(first|exact trivial|exact rfl|(refine Fi hg b0 b1 fun j hj=> ?_;cbv)|(subst_vars;exact rfl)|((first|refine goX hg _ z0 hy rfl ?_|refine goN hg (pN (by rw [F6 hg,k1];exact fun y hy=>bC (c:=ao) (k:=1) (fun _=>rfl) y (List.mem_of_mem_drop (List.mem_of_mem_take hy))) (by rw [F6 hg];exact Nat.le_trans (List.length_take_le' _ _) (by simpa using hle))) ?_|refine dl hg rfl (by decide) (by show(g .ap [] (g .tk es 0 _)).length≤_;rw [eA,af];exact Nat.le_trans (List.length_take_le' _ _) lkN) ?_);cbv)|exact hBL _ (by rw [eB,hX];subst_vars;rfl) _ _ (Wk.weak (wkG [some 0,some 1,some 2,some 6] ⟨rfl,rfl,rfl,rfl,rfl,rfl,rfl,trivial⟩ ⟨wqE rfl rfl,wqE rfl pE,wqE rfl rfl,⟨_,_,rfl,rfl,rfl,rfl,.inl ⟨rfl,by rw [eB];exact ag _ _⟩⟩,trivial⟩ (by decide) aI))|refine And.intro ?_ ?_))
   subst hsX
   cbv
   refine Fh hg b0 b1 fun j2 m2 hj2 hm2=> ?_
   cbv
   refine goN hg (pM (by show∀y∈g .tk es j2 m2,_;rw [eC j2 m2 hm2];exact bC (c:=ao) (k:=1) (fun _=>rfl)) (by
    show s.length+(g .tk es j2 m2).length≤_
    rw [hX,eC j2 m2 hm2,af,af]
    simp only [zqe,List.length_take,List.length_drop,zqm]
    omega)) ?_
   cbv
   rw [e1]
   have eF:g .ap s (g .tk es j2 m2)=vw ao ((lU (io ns) x ks.reverse).reverse):=by
    rw [hX,eC j2 m2 hm2,gG hg,←uZ,hst,hj2]
    simp
   have pF:aj (g .ap s (g .tk es j2 m2))=true:=by rw [eF];exact ag _ _
   skip
   exact hB ((_,(lU (io ns) x ks.reverse).reverse)) _ _ ⟨h0,⟨eF,lF,fun k hkm=>(mF k hkm)⟩⟩ (Wk.weak (wkG [some 0,some 4] ⟨rfl,rfl,rfl,rfl,trivial⟩ ⟨wqE rfl rfl,wqE rfl pF,trivial⟩ (by decide) aI))
 skip
 all_goals
  rw [e1]
  exact hB ((es,ks)) _ _ ⟨by simpa using h0,⟨k1,by simp only;omega,k3⟩⟩ (Wk.weak (wkG [some 0,some 1] ⟨rfl,rfl,rfl,rfl,trivial⟩ ⟨wqE rfl rfl,wqE rfl pE,trivial⟩ (by decide) aI))
end Go.Proofs.YtdnnffbbhijmkaaGreat
namespace Go.Proofs.YtdnnffbbhijmkaaGreat
open Go.ChangeShapes Go.WideShapes Go.ChangeAt Go.RowKit Am Go.Proofs.Tryz
set_option maxRecDepth 100000
def nwL(n:Int)(s:ar)(row:Bool)(al ac:aw)(kn:Int)(K:AC):List AC:= .J n::(lc (ar.c s)++[.B row,.J al.mode,.J al.n,.J ac.mode,.J ac.n,.J kn,K])
def plL(n:Int)(s:ar)(wd hg:aw)(row:Bool)(iw ih al ac:aw)(K:AC):List AC:= .J n::(lc (ar.c s)++[.J wd.mode,.J wd.n,.J hg.mode,.J hg.n,.B row,.J iw.mode,.J iw.n,.J ih.mode,.J ih.n,.J al.mode,.J al.n,.J ac.mode,.J ac.n,K])
def inW(s:ar)(w:aw):aw:=pk w (sN s true)
def inH(s:ar)(h:aw):aw:=pk h (sN s false)
def sdM(s:ar)(rtl main:Bool):Int×Int:=if main then(sd1 (jq s) (kO s rtl),sd2 (jq s) (kO s rtl))else(sd1 (!jq s) (ll s rtl),sd2 (!jq s) (ll s rtl))
def sdB(s k:ar)(rtl main:Bool)(base:Int):av:=⟨0,oH k.margin (sdM s rtl main).1 rtl base,oH k.margin (sdM s rtl main).2 rtl base,uS k.margin (sdM s rtl main).1 rtl,uS k.margin (sdM s rtl main).2 rtl,0,0⟩
def vG(ns:List ak)(n:Int)(wd hg:aw):Bool:=eo ns&&(rng n 1 (ns.length:Int)&&(A9 wd&&A9 hg))
theorem kl(ns:List ak)(hl:ns.length≤1048576)(hs:∀y∈ns,ak.small y)(n a b c d:Int):PC0 62 [.agg [.view (vwA ak.ac ns)],ai n,agP ⟨a,b⟩,agP ⟨c,d⟩] (.t (abl (vG ns n ⟨a,b⟩ ⟨c,d⟩))):=by
 have cT:=mQ ns hl hs
 obtain⟨V,hV⟩:=nmE (vwA ak.ac ns)
 have hVx:bg V=(ns.length:Int):=by rw [aB,hV,bE]
 have cI:=gx V n
 have cw:=l7 a b
 have ch:=l7 c d
 rw [←hV]at cT⊢
 unfold vG
 rw [←hVx]
 clear hVx hV hs hl
 obtain⟨T,hT⟩:=nmE (eo ns)
 obtain⟨I,hI⟩:=nmE (rng n 1 (bg V))
 obtain⟨W,hW⟩:=nmE (A9 ⟨a,b⟩)
 obtain⟨H,hH⟩:=nmE (A9 ⟨c,d⟩)
 rw [←hT]at cT
 rw [←hI]at cI
 rw [←hW]at cw
 rw [←hH]at ch
 rw [←hT,←hI,←hW,←hH]
 clear hT hI hW hH
 cases T<;>cases I<;>cases W<;>cases H<;>(
  refine ae (aK f62) aD func62 fun g F hg hF=> ?_
  cbv
  (repeat'((first|refine ad hg cT ?_|refine ad hg cI ?_|refine ad hg cw ?_|refine ad hg ch ?_);cbv))
  exact bj hF rfl)
theorem jz(ns:List ak)(hl:ns.length≤1048576)(hs:∀y∈ns,ak.small y)(n a b c d:Int):PC0 68 [.agg [.view (vwA ak.ac ns)],ai n,agP ⟨a,b⟩,agP ⟨c,d⟩] (.t (abl (vG ns n ⟨a,b⟩ ⟨c,d⟩))):=by
 have cT:=uq ns hl hs
 obtain⟨V,hV⟩:=nmE (vwA ak.ac ns)
 have hVx:bg V=(ns.length:Int):=by rw [aB,hV,bE]
 have cI:=jy V n
 have cw:=mf a b
 have ch:=mf c d
 rw [←hV]at cT⊢
 unfold vG
 rw [←hVx]
 clear hVx hV hs hl
 obtain⟨T,hT⟩:=nmE (eo ns)
 obtain⟨I,hI⟩:=nmE (rng n 1 (bg V))
 obtain⟨W,hW⟩:=nmE (A9 ⟨a,b⟩)
 obtain⟨H,hH⟩:=nmE (A9 ⟨c,d⟩)
 rw [←hT]at cT
 rw [←hI]at cI
 rw [←hW]at cw
 rw [←hH]at ch
 rw [←hT,←hI,←hW,←hH]
 clear hT hI hW hH
 cases T<;>cases I<;>cases W<;>cases H<;>(
  refine ae (aK f68) aD func68 fun g F hg hF=> ?_
  cbv
  (repeat'((first|refine ad hg cT ?_|refine ad hg cI ?_|refine ad hg cw ?_|refine ad hg ch ?_);cbv))
  exact bj hF rfl)
theorem fy(ns:List ak)(hl:ns.length≤1048576)(kid:Int)(y:ak)(h1:isN ns kid=true)(hy:ns[(kid-1).toNat]? =some y)(rtl main kp:Bool)(C D:AC)(n:Int)(s:ar)(row:Bool)(al ac:aw)(kn:Int)(K:LLA):PC0 109 [.c (.eptr [.view (vwA ak.ac ns),.B rtl,.B kp,C,D] 0),.agg (nwL n s row al ac kn (.view K)),ai kid,abl main] (.t (.agg (lc (av.c (sdB s y.style rtl main kn))))):=by
 obtain⟨V,hV⟩:=nmE (vwA ak.ac ns)
 obtain⟨Ky,hKy⟩:=nmE (vw ao y.kids)
 obtain⟨Ry,hRy⟩:=nmE (vw aJ.c y.table.rules)
 have b2:=bF h1
 have cy:=bL ns kid y b2.1 (by have:=b2.2.1;omega) hy V Ky Ry hV hKy hRy
 have cm:=oV s rtl
 have cc:=n3 s rtl
 obtain⟨p1,hp1⟩:=nmE ((sdM s rtl main).1)
 obtain⟨p2,hp2⟩:=nmE ((sdM s rtl main).2)
 have m1:=kw y.style.margin p1 rtl kn
 have m2:=kw y.style.margin p2 rtl kn
 have a1:=kB y.style.margin p1 rtl
 have a2:=kB y.style.margin p2 rtl
 rw [←hV]
 unfold sdB
 rw [←hp1,←hp2]
 obtain⟨M1,hM1⟩:=nmE (oH y.style.margin p1 rtl kn)
 obtain⟨M2,hM2⟩:=nmE (oH y.style.margin p2 rtl kn)
 obtain⟨A1,hA1⟩:=nmE (uS y.style.margin p1 rtl)
 obtain⟨A2,hA2⟩:=nmE (uS y.style.margin p2 rtl)
 rw [←hM1]at m1⊢
 rw [←hM2]at m2⊢
 rw [←hA1]at a1⊢
 rw [←hA2]at a2⊢
 clear hM1 hM2 hA1 hA2
 cases main
 all_goals
  simp only [sdM,if_true,if_false,Bool.false_eq_true]at hp1 hp2
  first|rw [←hp1,←hp2]at cm|rw [←hp1,←hp2]at cc
  refine ae (aK f109) aD func109 fun g F hg hF=> ?_
  cbv
  repeat'((first|refine ad hg cm ?_|refine aa hg cm ?_|refine ad hg cc ?_|refine aa hg cc ?_|refine ad hg cy ?_|refine aa hg cy ?_|refine ad hg m1 ?_|refine aa hg m1 ?_|refine ad hg m2 ?_|refine aa hg m2 ?_|refine ad hg a1 ?_|refine aa hg a1 ?_|refine ad hg a2 ?_|refine aa hg a2 ?_);cbv)
  refine dY hF ?_ ?_<;>first|rfl|exact⟨rfl,rfl⟩
theorem fC(V:LLA)(rtl:Bool)(n:Int)(s k:ar)(wd hg2:aw)(row:Bool)(iw ih al ac:aw)(K:LLA)(p q:Int):PC0 129 [.agg [.view V,.B rtl,.imm (.pointer none)],.agg (plL n s wd hg2 row iw ih al ac (.view K)),.agg (lc (ar.c k)),ai p,ai q] (.tup [ai (oH k.margin p rtl (knS iw)),ai (oH k.margin q rtl (knS iw))]):=by
 have ck:=ef iw.mode iw.n
 have m1:=lg k.margin p rtl (knS iw)
 have m2:=lg k.margin q rtl (knS iw)
 obtain⟨B,hB⟩:=nmE (knS iw)
 change PC0 _ _ (.i (knS iw))at ck
 rw [←hB]at ck m1 m2⊢
 obtain⟨M1,hM1⟩:=nmE (oH k.margin p rtl B)
 obtain⟨M2,hM2⟩:=nmE (oH k.margin q rtl B)
 rw [←hM1]at m1⊢
 rw [←hM2]at m2⊢
 clear hM1 hM2 hB
 refine ae (aK f129) aD func129 fun g F hg hF=> ?_
 cbv
 repeat'((first|refine ad hg ck ?_|refine aa hg ck ?_|refine ad hg m1 ?_|refine aa hg m1 ?_|refine ad hg m2 ?_|refine aa hg m2 ?_);cbv)
 refine dY hF ?_ ?_<;>first|rfl|exact⟨rfl,rfl⟩
theorem mM(ns:List ak)(n:Int)(x:ak)(hs:∀y∈ns,ak.small y)(ht:eo ns=true)(hl:ns.length≤1048576)(h1:1≤n)(h2:n≤(ns.length:Int))(hx:ns[(n-1).toNat]? =some x)(hkl:x.kids.length≤1048576)(hk:∀k∈x.kids,isN ns k=true)(a b c d:Int):PC0 66 [.agg [.view (vwA ak.ac ns)],ai n,agP ⟨a,b⟩,agP ⟨c,d⟩] (.t (.agg (nwL n x.style (jq x.style) (if jq x.style then inW x.style ⟨a,b⟩else inH x.style ⟨c,d⟩) (if jq x.style then inH x.style ⟨c,d⟩else inW x.style ⟨a,b⟩) (knS (inW x.style ⟨a,b⟩)) (.view (vw ao (ia (io ns) (x.kids.filter (lQ ns)))))))):=by
 have cF:=kz ns n x hs ht hl h1 h2 hx hkl hk
 obtain⟨V,hV⟩:=nmE (vwA ak.ac ns)
 obtain⟨K,hK⟩:=nmE (vw ao x.kids)
 obtain⟨R,hR⟩:=nmE (vw aJ.c x.table.rules)
 obtain⟨G,hG⟩:=nmE (vw ao (ia (io ns) (x.kids.filter (lQ ns))))
 have pG:aj G=true:=by rw [hG];exact ag _ _
 have iG:bR G=true:=by rw [hG];exact aG _ _
 have kG:∀y∈G,y.length=1:=by rw [hG];exact bC (c:=ao) (k:=1) fun _=>rfl
 have dG:∀y∈G,y.all dat=true:=by rw [hG];exact az
 have cn:=bL ns n x h1 (by omega) hx V K R hV hK hR
 have cr:=gy x.style
 have f1:=gI x.style true
 have f2:=gI x.style false
 have i1:=eU a b (sN x.style true)
 have i2:=eU c d (sN x.style false)
 obtain⟨w1,w2,hW⟩:∃w1 w2,(⟨w1,w2⟩:aw)=inW x.style ⟨a,b⟩:=⟨_,_,rfl⟩
 obtain⟨q1,q2,hH⟩:∃q1 q2,(⟨q1,q2⟩:aw)=inH x.style ⟨c,d⟩:=⟨_,_,rfl⟩
 have ck:=de w1 w2
 rw [←hV,←hG]at cF
 rw [←hV,←hG,←hW,←hH]
 change PC0 _ _ (.t (agP (inW x.style ⟨a,b⟩)))at i1
 change PC0 _ _ (.t (agP (inH x.style ⟨c,d⟩)))at i2
 rw [←hW]at i1
 rw [←hH]at i2
 obtain⟨kn,hkn⟩:=nmE (knS ⟨w1,w2⟩)
 obtain⟨F1,hF1⟩:=nmE (sN x.style true)
 obtain⟨F2,hF2⟩:=nmE (sN x.style false)
 rw [←hkn]at ck⊢
 rw [←hF1]at f1 i1
 rw [←hF2]at f2 i2
 cases hr:jq x.style
 all_goals
  rw [hr]at cr
  simp only [if_true,if_false,Bool.false_eq_true]
  refine ae (aK f66) aD func66 fun g F hg hF=> ?_
  cbv
  repeat'((first|refine ad hg cn ?_|refine aa hg cn ?_|refine ad hg cr ?_|refine aa hg cr ?_|refine ad hg f1 ?_|refine aa hg f1 ?_|refine ad hg f2 ?_|refine aa hg f2 ?_|refine ad hg i1 ?_|refine aa hg i1 ?_|refine ad hg i2 ?_|refine aa hg i2 ?_|refine ad hg ck ?_|refine aa hg ck ?_|refine bB hg cF (bp rfl) iG ?_|refine bN hg cF (bp rfl) iG ?_);cbv)
  refine sP [.agg (nwL n x.style _ _ _ _ (.view G))] hF (.agg (by repeat'(first|exact .nil|exact .imm _|exact bi (ab:=⟨_,_,G⟩) rfl kG dG|refine .cons ?_ ?_)) .nil) ⟨rfl,rfl⟩
def Gc:AC→Bool
 | .imm _=>true
 | .view _=>true
 | .eptr _ _=>true
 |_=>false
theorem DH{F:Nat→Prop}{w:World}{m:AM}{h:AH}{x:AT}{v:Value}(hp:x.cells.all Gc=true)(hv:RT F w m h x v):RT F w [] [] x v:=by
 have key:∀(c:AC)(u:Value),Gc c=true→RC F w m h c u→RC F w [] [] c u:=by
  intro c u hc hr
  cases c<;>first|exact hr|cases hc
 cases x with
 |c y=>exact key y v (by simpa [AT.cells]using hp) hv
 |agg xs=>
  obtain⟨vs,h1,h2,h3⟩:=hv
  exact⟨vs,h1,h2,fun j y hj=>let⟨u,hu,ho,hr⟩:=h3 j y hj;⟨u,hu,ho,key y u (List.all_eq_true.1 hp y (zqd hj)) hr⟩⟩
theorem Cj{P:Program}{f:FuncId}{h:AH}{args:List AT}{Post:AV→List AB→Prop}(hc:cY P f args Post)(hp:(args.all fun x=>x.cells.all Gc)=true):Con P f h args fun res h'=>∃r rows,Post r rows∧res=r.shift h.length∧h'=h++(rows.map (AB.shift h.length)).map .live:=
 ⟨hc.1,fun F w m vs hH hl hx=>(hc.2 F w [] vs (RH.empty hH.old (Nat.zero_le _)) hl (fun j x hj=>by
  obtain⟨v,hv,hr⟩:=hx j x hj
  exact⟨v,hv,DH (List.all_eq_true.1 hp x (zqd hj)) hr⟩)).mono fun e w''⟨v,res,h',m',F1,he,⟨rows,hh,hpost⟩,hG,hs,hv⟩=>by
  subst hh
  obtain⟨m2,F2,g1,g2,g3⟩:=ea.of_outG hH (kJ (n:=h.length) hG hs hv)
  exact⟨v,_,_,m2,F2,he,⟨res,rows,hpost,rfl,rfl⟩,g1,g2,g3⟩⟩
theorem AQ{P:Program}{n0 N:Nat}{h:EH}{g:Gd}(hg:g=G0 P n0 N){f:FuncId}{args:List AT}{K:AV→EH→Prop}{r:AV}(hc:cY P f args fun res rows=>res=r∧rows=[])(hp:(args.all fun x=>x.cells.all Gc)=true)(hr:gB r=true)(hK:K r (h++[])):g .C f h args K:=by
 subst hg
 refine(Cj (h:=toH h) hc hp).mono fun res h'⟨r0,rows,⟨e1,e2⟩,h1,h2⟩=> ?_
 subst e1 e2
 subst h1 h2
 exact⟨h,by simp,by rw [iv hr];simpa using hK⟩
def Eb(s k:ar)(rtl row:Bool)(ac:aw)(kn:Int):aw:=
 let sd:=sdB s k rtl false kn
 let b:=wrap64 (sd.before+sd.behind)
 if qM k (!row) (knS ac)≠ -1 then⟨3,oM k (!row) (knS ac) (qM k (!row) (knS ac))⟩
 else if xW {sd with align:=yZ s k}=true∧s.wrap=1∧ac.mode=3 then⟨3,oM k (!row) (knS ac) (wrap64 (ac.n-b))⟩
 else BG (pk ac b)
theorem ko(ns:List ak)(hl:ns.length≤1048576)(kid:Int)(y:ak)(h1:isN ns kid=true)(hy:ns[(kid-1).toNat]? =some y)(rtl kp:Bool)(C D:AC)(n:Int)(s:ar)(row:Bool)(al ac:aw)(kn:Int)(K:LLA):PC0 65 [.c (.eptr [.view (vwA ak.ac ns),.B rtl,.B kp,C,D] 0),.agg (nwL n s row al ac kn (.view K)),ai kid] (.t (agP (Eb s y.style rtl row ac kn))):=by
 obtain⟨Ky,hKy⟩:=nmE (vw ao y.kids)
 obtain⟨Ry,hRy⟩:=nmE (vw aJ.c y.table.rules)
 have b2:=bF h1
 have cs:=fy ns hl kid y h1 hy rtl false kp C D n s row al ac kn K
 obtain⟨V,hV⟩:=nmE (vwA ak.ac ns)
 have cy:=bL ns kid y b2.1 (by have:=b2.2.1;omega) hy V Ky Ry hV hKy hRy
 have ck:=de ac.mode ac.n
 change PC0 _ _ (.i (knS ac))at ck
 have cf:=fX y.style (!row) (knS ac)
 have cb:=eV y.style (!row) (knS ac) (qM y.style (!row) (knS ac))
 have ca:=l9 s y.style
 have ci:=fun z=>eU ac.mode ac.n z
 have cL:=ky
 obtain⟨R,hR⟩:=nmE (Eb s y.style rtl row ac kn)
 rw [←hV]at cs
 rw [←hV,←hR]
 unfold Eb at hR
 simp only at hR
 obtain⟨SD,hSD⟩:=nmE (sdB s y.style rtl false kn)
 rw [←hSD]at cs hR
 clear hSD
 obtain⟨am,an⟩:=ac
 obtain⟨KN,hKN⟩:=nmE (knS ⟨am,an⟩)
 rw [←hKN]at ck cf cb hR
 have cb:=fun z=>eV y.style (!row) KN z
 obtain⟨FX,hFX⟩:=nmE (qM y.style (!row) KN)
 rw [←hFX]at cf hR
 obtain⟨AL,hAL⟩:=nmE (yZ s y.style)
 rw [←hAL]at ca hR
 clear hAL hFX hKN
 have cF:=oC {SD with align:=AL}
 have cB:=iE {SD with align:=AL}
 change PC0 _ _ (.i (wrap64 (SD.before+SD.behind)))at cB
 obtain⟨FB,hFB⟩:∃S,S=xW {SD with align:=AL}:=⟨_,rfl⟩
 rw [←hFB]at cF hR
 obtain⟨BB,hBB⟩:=nmE (wrap64 (SD.before+SD.behind))
 rw [←hBB]at cB hR
 clear hFB hBB
 have ci:=ci BB
 change PC0 _ _ (.t (agP (pk ⟨am,an⟩ BB)))at ci
 obtain⟨i1,i2,hI⟩:∃i1 i2,(⟨i1,i2⟩:aw)=pk ⟨am,an⟩ BB:=⟨_,_,rfl⟩
 rw [←hI]at ci hR
 clear hI
 have cL:=cL i1 i2
 obtain⟨l1,l2,hL⟩:∃j1 j2,(⟨j1,j2⟩:aw)=BG ⟨i1,i2⟩:=⟨_,_,rfl⟩
 rw [←hL]at cL hR
 clear hL
 obtain⟨ZZ,hZZ⟩:=nmE (wrap64 (an-BB))
 have cb1:=cb FX
 have cb2:=cb ZZ
 obtain⟨B1,hB1⟩:=nmE (oM y.style (!row) KN FX)
 obtain⟨B2,hB2⟩:=nmE (oM y.style (!row) KN ZZ)
 rw [←hZZ,←hB1,←hB2]at hR
 rw [←hB1]at cb1
 rw [←hB2]at cb2
 clear hB1 hB2 cb
 obtain⟨wr,hwr⟩:=nmE s.wrap
 rw [←hwr]at hR
 by_cases q1:FX= -1
 ·simp only [q1,ne_eq,not_true_eq_false,if_false]at hR
  subst q1
  have t1:∀g:Gd,g=G0 prog 0 f65.ntmps→g .q .neq (-1) (-1)=false:=fun g hg=>by rw [bk hg];rfl
  have t2:∀g:Gd,g=G0 prog 0 f65.ntmps→g .q .eql s.wrap 1=decide (wr=1):=fun g hg=>by rw [bv hg,hwr];exact zqn _ _
  have t3:∀g:Gd,g=G0 prog 0 f65.ntmps→g .q .eql am 3=decide (am=3):=fun g hg=>by rw [bv hg];exact zqn _ _
  have t4:∀g:Gd,g=G0 prog 0 f65.ntmps→g .w .sub .i64 an BB=ZZ:=fun g hg=>by rw [dd hg,hZZ]
  clear hwr hZZ
  cases FB
  case false=>
   simp only [Bool.false_eq_true,false_and,if_false]at hR
   rw [hR]
   clear hR
   refine ae (aK f65) aD func65 fun g F hg hF=> ?_
   have t1:=t1 g hg
   cbv
   repeat'((first|refine ad hg cy ?_|refine aa hg cy ?_|refine ad hg ck ?_|refine aa hg ck ?_);cbv)
   refine AQ hg cs rfl rfl ?_
   cbv
   repeat'((first|refine ad hg cf ?_|refine aa hg cf ?_);cbv)
   rw [t1]
   cbv
   repeat'((first|refine ad hg ca ?_|refine aa hg ca ?_|refine ad hg cF ?_|refine aa hg cF ?_|refine ad hg cB ?_|refine aa hg cB ?_|refine ad hg ci ?_|refine aa hg ci ?_|refine ad hg cL ?_|refine aa hg cL ?_);cbv)
   exact mC hF ⟨rfl,rfl⟩
  by_cases q2:wr=1
  case neg=>
   simp only [q2,false_and,and_false,if_false]at hR
   rw [hR]
   clear hR
   refine ae (aK f65) aD func65 fun g F hg hF=> ?_
   have t1:=t1 g hg
   have t2:=t2 g hg
   rw [zqt q2]at t2
   cbv
   repeat'((first|refine ad hg cy ?_|refine aa hg cy ?_|refine ad hg ck ?_|refine aa hg ck ?_);cbv)
   refine AQ hg cs rfl rfl ?_
   cbv
   repeat'((first|refine ad hg cf ?_|refine aa hg cf ?_);cbv)
   rw [t1]
   cbv
   repeat'((first|refine ad hg ca ?_|refine aa hg ca ?_|refine ad hg cF ?_|refine aa hg cF ?_);cbv)
   rw [t2]
   cbv
   repeat'((first|refine ad hg cB ?_|refine aa hg cB ?_|refine ad hg ci ?_|refine aa hg ci ?_|refine ad hg cL ?_|refine aa hg cL ?_);cbv)
   exact mC hF ⟨rfl,rfl⟩
  by_cases q3:am=3
  case neg=>
   simp only [q3,false_and,and_false,if_false]at hR
   rw [hR]
   clear hR
   refine ae (aK f65) aD func65 fun g F hg hF=> ?_
   have t1:=t1 g hg
   have t2:=t2 g hg
   have t3:=t3 g hg
   rw [zqu q2]at t2
   rw [zqt q3]at t3
   cbv
   repeat'((first|refine ad hg cy ?_|refine aa hg cy ?_|refine ad hg ck ?_|refine aa hg ck ?_);cbv)
   refine AQ hg cs rfl rfl ?_
   cbv
   repeat'((first|refine ad hg cf ?_|refine aa hg cf ?_);cbv)
   rw [t1]
   cbv
   repeat'((first|refine ad hg ca ?_|refine aa hg ca ?_|refine ad hg cF ?_|refine aa hg cF ?_);cbv)
   rw [t2]
   cbv
   rw [t3]
   cbv
   repeat'((first|refine ad hg cB ?_|refine aa hg cB ?_|refine ad hg ci ?_|refine aa hg ci ?_|refine ad hg cL ?_|refine aa hg cL ?_);cbv)
   exact mC hF ⟨rfl,rfl⟩
  simp only [q2,q3,and_self,if_true]at hR
  rw [hR]
  clear hR
  refine ae (aK f65) aD func65 fun g F hg hF=> ?_
  have t1:=t1 g hg
  have t2:=t2 g hg
  have t3:=t3 g hg
  have t4:=t4 g hg
  rw [zqu q2]at t2
  rw [zqu q3]at t3
  cbv
  repeat'((first|refine ad hg cy ?_|refine aa hg cy ?_|refine ad hg ck ?_|refine aa hg ck ?_);cbv)
  refine AQ hg cs rfl rfl ?_
  cbv
  repeat'((first|refine ad hg cf ?_|refine aa hg cf ?_);cbv)
  rw [t1]
  cbv
  repeat'((first|refine ad hg ca ?_|refine aa hg ca ?_|refine ad hg cF ?_|refine aa hg cF ?_);cbv)
  rw [t2]
  cbv
  rw [t3]
  cbv
  repeat'((first|refine ad hg cB ?_|refine aa hg cB ?_);cbv)
  rw [t4]
  repeat'((first|refine ad hg cb2 ?_|refine aa hg cb2 ?_);cbv)
  exact mC hF ⟨rfl,rfl⟩
 ·simp only [q1,ne_eq,not_false_eq_true,if_true]at hR
  rw [hR]
  clear hR
  refine ae (aK f65) aD func65 fun g F hg hF=> ?_
  have t1:g .q .neq FX (-1)=true:=by rw [bk hg];simp [q1]
  cbv
  repeat'((first|refine ad hg cy ?_|refine aa hg cy ?_|refine ad hg ck ?_|refine aa hg ck ?_);cbv)
  refine AQ hg cs rfl rfl ?_
  cbv
  repeat'((first|refine ad hg cf ?_|refine aa hg cf ?_);cbv)
  rw [t1]
  cbv
  repeat'((first|refine ad hg cb1 ?_|refine aa hg cb1 ?_);cbv)
  exact mC hF ⟨rfl,rfl⟩
theorem nv(ns:List ak)(n:Int)(x:ak)(hl:ns.length≤1048576)(h1:1≤n)(h2:n≤1048576)(hx:ns[(n-1).toNat]? =some x)(hkl:x.kids.length<20)(hk:∀k∈x.kids,isN ns k=true)(rtl:Bool)(a b c d:Int):PC0 72 [.agg [.view (vwA ak.ac ns),.B rtl,.imm (.pointer none)],ai n,agP ⟨a,b⟩,agP ⟨c,d⟩] (.t (.agg (plL n x.style ⟨a,b⟩ ⟨c,d⟩ (jq x.style) (inW x.style ⟨a,b⟩) (inH x.style ⟨c,d⟩) (if jq x.style then inW x.style ⟨a,b⟩else inH x.style ⟨c,d⟩) (if jq x.style then inH x.style ⟨c,d⟩else inW x.style ⟨a,b⟩) (.view (vw ao (ia (io ns) (x.kids.filter (lQ ns)))))))):=by
 have cF:=k9 ns n x hl h1 h2 hx hkl hk
 obtain⟨V,hV⟩:=nmE (vwA ak.ac ns)
 obtain⟨K,hK⟩:=nmE (vw ao x.kids)
 obtain⟨R,hR⟩:=nmE (vw aJ.c x.table.rules)
 obtain⟨G,hG⟩:=nmE (vw ao (ia (io ns) (x.kids.filter (lQ ns))))
 have pG:aj G=true:=by rw [hG];exact ag _ _
 have iG:bR G=true:=by rw [hG];exact aG _ _
 have kG:∀y∈G,y.length=1:=by rw [hG];exact bC (c:=ao) (k:=1) fun _=>rfl
 have dG:∀y∈G,y.all dat=true:=by rw [hG];exact az
 have cn:=di ns n x h1 (by omega) hx V K R hV hK hR
 have cr:=gD x.style
 have cf:=eY x.style
 obtain⟨e1,e2,e3,e4,hE⟩:∃e1 e2 e3 e4,(⟨e1,e2,e3,e4⟩:bu)=nL x.style:=⟨_,_,_,_,rfl⟩
 rw [←hE]at cf
 have f1:=fD e1 e2 e3 e4
 have f2:=fF e1 e2 e3 e4
 obtain⟨F1,hF1⟩:=nmE (sN x.style true)
 obtain⟨F2,hF2⟩:=nmE (sN x.style false)
 have z1:adE e1 e3=F1:=by rw [hF1];simp only [sN,←hE,if_true]
 have z2:adE e2 e4=F2:=by rw [hF2];simp only [sN,←hE,if_false,Bool.false_eq_true]
 rw [z1]at f1
 rw [z2]at f2
 have i1:=gl a b F1
 have i2:=gl c d F2
 obtain⟨w1,w2,hW⟩:∃w1 w2,(⟨w1,w2⟩:aw)=inW x.style ⟨a,b⟩:=⟨_,_,rfl⟩
 obtain⟨q1,q2,hH⟩:∃q1 q2,(⟨q1,q2⟩:aw)=inH x.style ⟨c,d⟩:=⟨_,_,rfl⟩
 have y1:pk ⟨a,b⟩ F1=⟨w1,w2⟩:=by rw [hF1];exact hW.symm
 have y2:pk ⟨c,d⟩ F2=⟨q1,q2⟩:=by rw [hF2];exact hH.symm
 rw [y1]at i1
 rw [y2]at i2
 rw [←hV,←hG]at cF
 rw [←hV,←hG,←hW,←hH]
 clear hF1 hF2 z1 z2 y1 y2 hW hH
 cases hr:jq x.style
 all_goals
  rw [hr]at cr
  simp only [if_true,if_false,Bool.false_eq_true]
  refine ae (aK f72) aD func72 fun g F hg hF=> ?_
  cbv
  repeat'((first|refine ad hg cn ?_|refine aa hg cn ?_|refine ad hg cr ?_|refine aa hg cr ?_|refine ad hg cf ?_|refine aa hg cf ?_|refine ad hg f1 ?_|refine aa hg f1 ?_|refine ad hg f2 ?_|refine aa hg f2 ?_|refine ad hg i1 ?_|refine aa hg i1 ?_|refine ad hg i2 ?_|refine aa hg i2 ?_|refine bB hg cF (bp rfl) iG ?_|refine bN hg cF (bp rfl) iG ?_);cbv)
  refine sP [.agg (plL n x.style _ _ _ _ _ _ _ (.view G))] hF (.agg (by repeat'(first|exact .nil|exact .imm _|exact bi (ab:=⟨_,_,G⟩) rfl kG dG|refine .cons ?_ ?_)) .nil) ⟨rfl,rfl⟩
theorem jP(ns:List ak)(hl:ns.length≤1048576)(kid:Int)(y:ak)(h1:isN ns kid=true)(hy:ns[(kid-1).toNat]? =some y)(rtl:Bool)(n:Int)(s:ar)(wd hgh:aw)(row:Bool)(iw ih al ac:aw)(K:LLA):PC0 71 [.agg [.view (vwA ak.ac ns),.B rtl,.imm (.pointer none)],.agg (plL n s wd hgh row iw ih al ac (.view K)),ai kid] (.t (agP (Eb s y.style rtl row ac (knS iw)))):=by
 obtain⟨Ky,hKy⟩:=nmE (vw ao y.kids)
 obtain⟨Ry,hRy⟩:=nmE (vw aJ.c y.table.rules)
 have b2:=bF h1
 obtain⟨V,hV⟩:=nmE (vwA ak.ac ns)
 have cy:=di ns kid y b2.1 (by have:=b2.2.1;omega) hy V Ky Ry hV hKy hRy
 have ck:=ef ac.mode ac.n
 change PC0 _ _ (.i (knS ac))at ck
 have cf:=gp y.style (!row) (knS ac)
 have cb:=fun z=>gu y.style (!row) (knS ac) z
 have cx:=fun z=>iT z
 have cs:=jg s rtl
 have cm:=fun p q=>fC V rtl n s y.style wd hgh row iw ih al ac K p q
 have ca:=mg s y.style
 have ci:=fun z=>gl ac.mode ac.n z
 have cL:=li
 obtain⟨R,hR⟩:=nmE (Eb s y.style rtl row ac (knS iw))
 rw [←hV,←hR]
 unfold Eb sdB at hR
 simp only [sdM,Bool.false_eq_true,if_false,xW]at hR
 obtain⟨p,hp⟩:=nmE (sd1 (!jq s) (ll s rtl))
 obtain⟨q,hq⟩:=nmE (sd2 (!jq s) (ll s rtl))
 rw [←hp,←hq]at cs hR
 clear hp hq
 have cm:=cm p q
 have c1:=dF y.style.margin p rtl
 have c2:=dF y.style.margin q rtl
 obtain⟨M1,hM1⟩:=nmE (oH y.style.margin p rtl (knS iw))
 obtain⟨M2,hM2⟩:=nmE (oH y.style.margin q rtl (knS iw))
 obtain⟨A1,hA1⟩:=nmE (uS y.style.margin p rtl)
 obtain⟨A2,hA2⟩:=nmE (uS y.style.margin q rtl)
 rw [←hM1,←hM2]at cm hR
 rw [←hA1]at c1 hR
 rw [←hA2]at c2 hR
 clear hM1 hM2 hA1 hA2
 obtain⟨am,an⟩:=ac
 obtain⟨KN,hKN⟩:=nmE (knS ⟨am,an⟩)
 rw [←hKN]at ck cf hR
 simp only [←hKN]at cb
 obtain⟨FX,hFX⟩:=nmE (qM y.style (!row) KN)
 rw [←hFX]at cf hR
 obtain⟨AL,hAL⟩:=nmE (yZ s y.style)
 rw [←hAL]at ca hR
 clear hAL hFX hKN
 obtain⟨BB,hBB⟩:=nmE (wrap64 (M1+M2))
 rw [←hBB]at hR
 have ci:=ci BB
 change PC0 _ _ (.t (agP (pk ⟨am,an⟩ BB)))at ci
 obtain⟨i1,i2,hI⟩:∃i1 i2,(⟨i1,i2⟩:aw)=pk ⟨am,an⟩ BB:=⟨_,_,rfl⟩
 rw [←hI]at ci hR
 clear hI
 have cL:=cL i1 i2
 obtain⟨l1,l2,hL⟩:∃j1 j2,(⟨j1,j2⟩:aw)=BG ⟨i1,i2⟩:=⟨_,_,rfl⟩
 rw [←hL]at cL hR
 clear hL
 obtain⟨ZZ,hZZ⟩:=nmE (wrap64 (an-BB))
 have cb1:=cb FX
 have cb2:=cb ZZ
 obtain⟨B1,hB1⟩:=nmE (oM y.style (!row) KN FX)
 obtain⟨B2,hB2⟩:=nmE (oM y.style (!row) KN ZZ)
 rw [←hZZ,←hB1,←hB2]at hR
 rw [←hB1]at cb1
 rw [←hB2]at cb2
 clear hB1 hB2 cb
 have cx1:=cx B1
 have cx2:=cx B2
 obtain⟨wr,hwr⟩:=nmE s.wrap
 rw [←hwr]at hR
 by_cases q1:FX= -1
 ·simp only [q1,ne_eq,not_true_eq_false,if_false]at hR
  subst q1
  have t1:∀g:Gd,g=G0 prog 0 f71.ntmps→g .q .neq (-1) (-1)=false:=fun g hg=>by rw [bk hg];rfl
  have t2:∀g:Gd,g=G0 prog 0 f71.ntmps→g .q .eql s.wrap 1=decide (wr=1):=fun g hg=>by rw [bv hg,hwr];exact zqn _ _
  have t3:∀g:Gd,g=G0 prog 0 f71.ntmps→g .q .eql am 3=decide (am=3):=fun g hg=>by rw [bv hg];exact zqn _ _
  have t4:∀g:Gd,g=G0 prog 0 f71.ntmps→g .w .sub .i64 an BB=ZZ:=fun g hg=>by rw [dd hg,hZZ]
  have t5:∀g:Gd,g=G0 prog 0 f71.ntmps→g .q .eql AL 1=decide (AL=1):=fun g hg=>by rw [bv hg];exact zqn _ _
  have t6:∀g:Gd,g=G0 prog 0 f71.ntmps→g .w .add .i64 M1 M2=BB:=fun g hg=>by rw [aM hg,hBB]
  clear hwr hZZ hBB
  cases A1<;>cases A2<;>by_cases q0:AL=1
  by_cases q2:wr=1
  by_cases q3:am=3
  all_goals
   (try simp only [q2]at hR)
   (try simp only [q3]at hR)
   simp only [q0,decide_true,decide_false,Bool.not_false,Bool.not_true,Bool.and_self,Bool.and_true,Bool.true_and,Bool.and_false,Bool.false_and,Bool.false_eq_true,and_self,and_true,true_and,and_false,false_and,if_true,if_false]at hR
   rw [hR]
   clear hR
   refine ae (aK f71) aD func71 fun g F hg hF=> ?_
   have t1:=t1 g hg
   have t2:=t2 g hg
   have t3:=t3 g hg
   have t4:=t4 g hg
   have t5:=t5 g hg
   have t6:=t6 g hg
   (try first|rw [zqu q2]at t2|rw [zqt q2]at t2)
   (try first|rw [zqu q3]at t3|rw [zqt q3]at t3)
   first|rw [zqu q0]at t5|rw [zqt q0]at t5
   cbv
   repeat'(first|((first|refine ad hg cy ?_|refine ad hg ck ?_|refine ad hg cf ?_|rw [t1]|refine ad hg cs ?_|refine ad hg cm ?_|refine ad hg c1 ?_|refine ad hg c2 ?_|refine ad hg ca ?_|rw [t5]|rw [t2]|rw [t3]);cbv)|(rw [t6];first|rw [t4]|skip)|((first|refine ad hg cb2 ?_|refine ad hg cx2 ?_|refine ad hg ci ?_|refine ad hg cL ?_);cbv))
   exact mC hF ⟨rfl,rfl⟩
 ·simp only [q1,ne_eq,not_false_eq_true,if_true]at hR
  rw [hR]
  clear hR
  refine ae (aK f71) aD func71 fun g F hg hF=> ?_
  have t1:g .q .neq FX (-1)=true:=by rw [bk hg];simp [q1]
  cbv
  repeat'((first|refine ad hg cy ?_|refine aa hg cy ?_|refine ad hg ck ?_|refine aa hg ck ?_|refine ad hg cf ?_|refine aa hg cf ?_);cbv)
  rw [t1]
  cbv
  repeat'((first|refine ad hg cb1 ?_|refine aa hg cb1 ?_|refine ad hg cx1 ?_|refine aa hg cx1 ?_);cbv)
  exact mC hF ⟨rfl,rfl⟩
end Go.Proofs.YtdnnffbbhijmkaaGreat
