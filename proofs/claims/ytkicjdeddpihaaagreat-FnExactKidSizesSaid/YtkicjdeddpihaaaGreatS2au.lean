/- Numbers, lengths, sides and bounds, as maps of data. -/
import Derived.Test.YtkicjdeddpihaaaGreatS2at
set_option linter.unusedVariables false
set_option linter.unusedSimpArgs false
set_option maxHeartbeats 8000000
namespace Go.Proofs.YtkicjdeddpihaaaGreat
open Go.ChangeShapes Go.WideShapes Go.ChangeAt Go.RowKit Am Go.Proofs.Tryz
set_option maxRecDepth 100000
abbrev ai(n:Int):AT:= .c (.J n)
abbrev abl(b:Bool):AT:= .c (.B b)
theorem HM(a:Array Value):(lc a).length=a.size:=by simp [lc]
theorem DR(a:Array Value):(lc a).all dy=true:=by simp [lc,dy]
variable {α:Type}
theorem aG(c:α->Array Value)(xs:List α):aB (vw c xs)=true:=by
 simp only [aB,vw,List.all_map,zqf]
 intro x _
 exact DR _
variable {xs:List α}{V:LLA}
theorem pmV{c:α->Array Value}(h:V=vw c xs):aB V=true:=by rw [h];exact aG _ _
theorem Hn{es:List α}{j i:Nat}{x:α}(hj:j<es.length):(es.set j x)[i]? =if i=j then some x else es[i]? :=by
 rw [List.getElem?_set]
 by_cases h:j=i
 ·subst h;simp [hj]
 ·rw [if_neg h,if_neg (fun h'=>h h'.symm)]
structure sk(k:Nat)(V es:LLA)(z:Int):Prop where
 z0:0<=z
 z1:z<=aQ V
 len:es.length=V.length
 ks:∀e∈es,e.length=k
 pl:aB es=true
 eq:∀i:Nat,i<z.toNat->es[i]? =V[i]?
variable {k:Nat}
theorem sk.start{z:List AC}(hk:z.length=k)(hp:z.all dy=true){n:Int}(hn:n=aQ V):sk k V (List.replicate n.toNat z) 0:=
 ⟨by omega,by have:=aj V;omega,by have:=aj V;simp;omega,fun e he=>by rw [(List.mem_replicate.1 he).2];exact hk,by simp [aB,hp],fun i hi=>by simp at hi⟩
variable {z:Int}
theorem sk.step{V es:LLA}{j:Nat}{y:List AC}(h:sk k V es z)(hz:z<aQ V)(hj:j=z.toNat)(hy:V[z.toNat]? =some y)(hk:y.length=k)(hp:y.all dy=true):sk k V (es.set j y) (z+1):=by
 have:=h.z0
 have:=h.len
 have:=aj V
 refine⟨by omega,by omega,by simpa using h.len,fun e he=> ?_,?_,fun i hi=> ?_⟩
 ·rcases List.mem_or_eq_of_mem_set he with h1|rfl
  ·exact h.ks e h1
  ·exact hk
 ·rw [aB,zqf]
  intro e he
  rcases List.mem_or_eq_of_mem_set he with h1|rfl
  ·exact List.all_eq_true.1 h.pl e h1
  ·exact hp
 ·rw [Hn (by omega)]
  by_cases hij:i=j
  ·rw [if_pos hij,hij,hj,hy]
  ·rw [if_neg hij];exact h.eq i (by omega)
theorem sk.done{V es:LLA}(h:sk k V es z)(hz:¬z<aQ V):es=V:=by
 have:=aj V
 have:=h.z1
 have:=h.len
 refine List.ext_getElem? fun i=> ?_
 by_cases hi:i<V.length
 ·exact h.eq i (by omega)
 ·rw [zqz (by omega),zqz (by omega)]
theorem sk.mem{V es:LLA}(h:sk k V es z){j:Nat}(hj:j<es.length):∃e,es[j]? =some e/\e.length=k:=⟨es[j],zqc hj,h.ks _ (List.getElem_mem hj)⟩
def szR(n left:Int):Int:=if left-n<0 then-1 else left-n
theorem aq(n:Int)(h: -9223372036854775808<=n/\n<=9223372036854775807):wrap64 n=n:=IntWalk.wrap64_in n h
theorem aO(x:dx):PC0 210 [.agg (lc (dx.c x))] (.t (.agg (lc (dx.c x)))):=by
 obtain⟨a0,a1⟩:=x
 refine ae (aK f210) ay func210 fun g F hg hF=> ?_
 cbv
 exact gP hF rfl ⟨rfl,rfl⟩
theorem bu(x y:dx):PC0 228 [.agg (lc (dx.c x)),.agg (lc (dx.c y))] (.t (abl (decide (x=y)))):=by
 obtain⟨a0,a1⟩:=x
 obtain⟨b0,b1⟩:=y
 refine ae (aK f228) ay func228 fun g F hg hF=> ?_
 cbv
 cases e0:g .q .neq a0 b0
 case true=>
  rw [bz hg,bne_iff_ne]at e0
  cbv
  exact gP hF rfl ⟨by simp [mkV,e0],rfl⟩
 rw [bz hg,zqq]at e0
 subst e0
 cbv
 cases e1:g .q .neq a1 b1
 case true=>
  rw [bz hg,bne_iff_ne]at e1
  cbv
  exact gP hF rfl ⟨by simp [mkV,e1],rfl⟩
 rw [bz hg,zqq]at e1
 subst e1
 cbv
 exact gP hF rfl ⟨by simp [mkV],rfl⟩
theorem gF(x:bh):PC0 211 [.agg (lc (bh.c x))] (.t (.agg (lc (bh.c x)))):=by
 obtain⟨⟨a0,a1⟩,⟨a2,a3⟩,⟨a4,a5⟩,⟨a6,a7⟩,⟨a8,a9⟩,⟨ha,hb⟩⟩:=x
 refine ae (aK f211) ay func211 fun g F hg hF=> ?_
 cbv
 (first|refine fU hg (aO (⟨a0,a1⟩:dx)) rfl rfl ?_|refine dX hg (aO (⟨a0,a1⟩:dx)) rfl rfl ?_)
 cbv
 (first|refine fU hg (aO (⟨a2,a3⟩:dx)) rfl rfl ?_|refine dX hg (aO (⟨a2,a3⟩:dx)) rfl rfl ?_)
 cbv
 (first|refine fU hg (aO (⟨a4,a5⟩:dx)) rfl rfl ?_|refine dX hg (aO (⟨a4,a5⟩:dx)) rfl rfl ?_)
 cbv
 (first|refine fU hg (aO (⟨a6,a7⟩:dx)) rfl rfl ?_|refine dX hg (aO (⟨a6,a7⟩:dx)) rfl rfl ?_)
 cbv
 (first|refine fU hg (aO (⟨a8,a9⟩:dx)) rfl rfl ?_|refine dX hg (aO (⟨a8,a9⟩:dx)) rfl rfl ?_)
 cbv
 (first|refine fU hg (aO (⟨ha,hb⟩:dx)) rfl rfl ?_|refine dX hg (aO (⟨ha,hb⟩:dx)) rfl rfl ?_)
 cbv
 exact gP hF rfl ⟨rfl,rfl⟩
theorem mG(x y:bh):PC0 229 [.agg (lc (bh.c x)),.agg (lc (bh.c y))] (.t (abl (decide (x=y)))):=by
 obtain⟨⟨a0,a1⟩,⟨a2,a3⟩,⟨a4,a5⟩,⟨a6,a7⟩,⟨a8,a9⟩,⟨ha,hb⟩⟩:=x
 obtain⟨⟨b0,b1⟩,⟨b2,b3⟩,⟨b4,b5⟩,⟨b6,b7⟩,⟨b8,b9⟩,⟨hc,he⟩⟩:=y
 refine ae (aK f229) ay func229 fun g F hg hF=> ?_
 cbv
 (first|refine bv hg (bu (⟨a0,a1⟩:dx) (⟨b0,b1⟩:dx)) rfl (fun R0 hf=> ?_)|refine ba hg (bu (⟨a0,a1⟩:dx) (⟨b0,b1⟩:dx)) rfl (fun R0 hf=> ?_))
 cases R0
 case false=>
  cbv
  refine gP hF rfl ⟨?_,rfl⟩
  have hd:=of_decide_eq_false hf.symm
  have:¬(⟨⟨a0,a1⟩,⟨a2,a3⟩,⟨a4,a5⟩,⟨a6,a7⟩,⟨a8,a9⟩,⟨ha,hb⟩⟩:bh)=⟨⟨b0,b1⟩,⟨b2,b3⟩,⟨b4,b5⟩,⟨b6,b7⟩,⟨b8,b9⟩,⟨hc,he⟩⟩:=fun h=>hd (by simp only [bh.mk.injEq]at h;simp only [h])
  simp only [mkV,this,decide_false]
 have e0:=of_decide_eq_true hf.symm
 clear hf
 simp only [dx.mk.injEq,bh.mk.injEq,bV.mk.injEq,az.mk.injEq]at e0
 obtain⟨rfl,rfl⟩:=e0
 cbv
 (first|refine bv hg (bu (⟨a2,a3⟩:dx) (⟨b2,b3⟩:dx)) rfl (fun R1 hh=> ?_)|refine ba hg (bu (⟨a2,a3⟩:dx) (⟨b2,b3⟩:dx)) rfl (fun R1 hh=> ?_))
 cases R1
 case false=>
  cbv
  refine gP hF rfl ⟨?_,rfl⟩
  have hd:=of_decide_eq_false hh.symm
  have:¬(⟨⟨a0,a1⟩,⟨a2,a3⟩,⟨a4,a5⟩,⟨a6,a7⟩,⟨a8,a9⟩,⟨ha,hb⟩⟩:bh)=⟨⟨a0,a1⟩,⟨b2,b3⟩,⟨b4,b5⟩,⟨b6,b7⟩,⟨b8,b9⟩,⟨hc,he⟩⟩:=fun h=>hd (by simp only [bh.mk.injEq]at h;simp only [h])
  simp only [mkV,this,decide_false]
 have e1:=of_decide_eq_true hh.symm
 clear hh
 simp only [dx.mk.injEq,bh.mk.injEq,bV.mk.injEq,az.mk.injEq]at e1
 obtain⟨rfl,rfl⟩:=e1
 cbv
 (first|refine bv hg (bu (⟨a4,a5⟩:dx) (⟨b4,b5⟩:dx)) rfl (fun R2 hi=> ?_)|refine ba hg (bu (⟨a4,a5⟩:dx) (⟨b4,b5⟩:dx)) rfl (fun R2 hi=> ?_))
 cases R2
 case false=>
  cbv
  refine gP hF rfl ⟨?_,rfl⟩
  have hd:=of_decide_eq_false hi.symm
  have:¬(⟨⟨a0,a1⟩,⟨a2,a3⟩,⟨a4,a5⟩,⟨a6,a7⟩,⟨a8,a9⟩,⟨ha,hb⟩⟩:bh)=⟨⟨a0,a1⟩,⟨a2,a3⟩,⟨b4,b5⟩,⟨b6,b7⟩,⟨b8,b9⟩,⟨hc,he⟩⟩:=fun h=>hd (by simp only [bh.mk.injEq]at h;simp only [h])
  simp only [mkV,this,decide_false]
 have e2:=of_decide_eq_true hi.symm
 clear hi
 simp only [dx.mk.injEq,bh.mk.injEq,bV.mk.injEq,az.mk.injEq]at e2
 obtain⟨rfl,rfl⟩:=e2
 cbv
 (first|refine bv hg (bu (⟨a6,a7⟩:dx) (⟨b6,b7⟩:dx)) rfl (fun R3 hj=> ?_)|refine ba hg (bu (⟨a6,a7⟩:dx) (⟨b6,b7⟩:dx)) rfl (fun R3 hj=> ?_))
 cases R3
 case false=>
  cbv
  refine gP hF rfl ⟨?_,rfl⟩
  have hd:=of_decide_eq_false hj.symm
  have:¬(⟨⟨a0,a1⟩,⟨a2,a3⟩,⟨a4,a5⟩,⟨a6,a7⟩,⟨a8,a9⟩,⟨ha,hb⟩⟩:bh)=⟨⟨a0,a1⟩,⟨a2,a3⟩,⟨a4,a5⟩,⟨b6,b7⟩,⟨b8,b9⟩,⟨hc,he⟩⟩:=fun h=>hd (by simp only [bh.mk.injEq]at h;simp only [h])
  simp only [mkV,this,decide_false]
 have e3:=of_decide_eq_true hj.symm
 clear hj
 simp only [dx.mk.injEq,bh.mk.injEq,bV.mk.injEq,az.mk.injEq]at e3
 obtain⟨rfl,rfl⟩:=e3
 cbv
 (first|refine bv hg (bu (⟨a8,a9⟩:dx) (⟨b8,b9⟩:dx)) rfl (fun R4 hk=> ?_)|refine ba hg (bu (⟨a8,a9⟩:dx) (⟨b8,b9⟩:dx)) rfl (fun R4 hk=> ?_))
 cases R4
 case false=>
  cbv
  refine gP hF rfl ⟨?_,rfl⟩
  have hd:=of_decide_eq_false hk.symm
  have:¬(⟨⟨a0,a1⟩,⟨a2,a3⟩,⟨a4,a5⟩,⟨a6,a7⟩,⟨a8,a9⟩,⟨ha,hb⟩⟩:bh)=⟨⟨a0,a1⟩,⟨a2,a3⟩,⟨a4,a5⟩,⟨a6,a7⟩,⟨b8,b9⟩,⟨hc,he⟩⟩:=fun h=>hd (by simp only [bh.mk.injEq]at h;simp only [h])
  simp only [mkV,this,decide_false]
 have e4:=of_decide_eq_true hk.symm
 clear hk
 simp only [dx.mk.injEq,bh.mk.injEq,bV.mk.injEq,az.mk.injEq]at e4
 obtain⟨rfl,rfl⟩:=e4
 cbv
 (first|refine bv hg (bu (⟨ha,hb⟩:dx) (⟨hc,he⟩:dx)) rfl (fun R5 hl=> ?_)|refine ba hg (bu (⟨ha,hb⟩:dx) (⟨hc,he⟩:dx)) rfl (fun R5 hl=> ?_))
 cases R5
 case false=>
  cbv
  refine gP hF rfl ⟨?_,rfl⟩
  have hd:=of_decide_eq_false hl.symm
  have:¬(⟨⟨a0,a1⟩,⟨a2,a3⟩,⟨a4,a5⟩,⟨a6,a7⟩,⟨a8,a9⟩,⟨ha,hb⟩⟩:bh)=⟨⟨a0,a1⟩,⟨a2,a3⟩,⟨a4,a5⟩,⟨a6,a7⟩,⟨a8,a9⟩,⟨hc,he⟩⟩:=fun h=>hd (by simp only [bh.mk.injEq]at h;simp only [h])
  simp only [mkV,this,decide_false]
 have e5:=of_decide_eq_true hl.symm
 clear hl
 simp only [dx.mk.injEq,bh.mk.injEq,bV.mk.injEq,az.mk.injEq]at e5
 obtain⟨rfl,rfl⟩:=e5
 cbv
 exact gP hF rfl ⟨by simp [mkV],rfl⟩
theorem gG(x:bV):PC0 212 [.agg (lc (bV.c x))] (.t (.agg (lc (bV.c x)))):=by
 obtain⟨a0,a1,a2,a3⟩:=x
 refine ae (aK f212) ay func212 fun g F hg hF=> ?_
 cbv
 exact gP hF rfl ⟨rfl,rfl⟩
theorem mH(x y:bV):PC0 230 [.agg (lc (bV.c x)),.agg (lc (bV.c y))] (.t (abl (decide (x=y)))):=by
 obtain⟨a0,a1,a2,a3⟩:=x
 obtain⟨b0,b1,b2,b3⟩:=y
 refine ae (aK f230) ay func230 fun g F hg hF=> ?_
 cbv
 cases e0:g .q .neq a0 b0
 case true=>
  rw [bz hg,bne_iff_ne]at e0
  cbv
  exact gP hF rfl ⟨by simp [mkV,e0],rfl⟩
 rw [bz hg,zqq]at e0
 subst e0
 cbv
 cases e1:g .q .neq a1 b1
 case true=>
  rw [bz hg,bne_iff_ne]at e1
  cbv
  exact gP hF rfl ⟨by simp [mkV,e1],rfl⟩
 rw [bz hg,zqq]at e1
 subst e1
 cbv
 cases e2:g .q .neq a2 b2
 case true=>
  rw [bz hg,bne_iff_ne]at e2
  cbv
  exact gP hF rfl ⟨by simp [mkV,e2],rfl⟩
 rw [bz hg,zqq]at e2
 subst e2
 cbv
 cases e3:g .q .neq a3 b3
 case true=>
  rw [bz hg,bne_iff_ne]at e3
  cbv
  exact gP hF rfl ⟨by simp [mkV,e3],rfl⟩
 rw [bz hg,zqq]at e3
 subst e3
 cbv
 exact gP hF rfl ⟨by simp [mkV],rfl⟩
theorem jn(x:ak):PC0 145 [.agg (lc (ak.c x))] (.t (.agg (lc (ak.c x)))):=by
 obtain⟨a0,a1,a2,a3,a4,a5,a6,a7,a8,a9,hW,⟨ha,hb⟩,⟨hc,hd⟩,⟨he,hf⟩,⟨hh,hi⟩,⟨hj,hk⟩,⟨hl,hm⟩,⟨hn,ho⟩,hX,⟨⟨hp,hq⟩,⟨hr,hs⟩,⟨ht,hu⟩,⟨hv,hw⟩,⟨hx,hy⟩,⟨hz,hA⟩⟩,⟨⟨hB,hC⟩,⟨hD,hE⟩,⟨hG,hH⟩,⟨hI,hJ⟩,⟨hK,hL⟩,⟨hM,hN⟩⟩,⟨hO,hP,hQ,hR⟩,⟨hS,hT,hU,hV⟩,hY,hZ⟩:=x
 refine ae (aK f145) ay func145 fun g F hg hF=> ?_
 cbv
 (first|refine fU hg (aO (⟨ha,hb⟩:dx)) rfl rfl ?_|refine dX hg (aO (⟨ha,hb⟩:dx)) rfl rfl ?_)
 cbv
 (first|refine fU hg (aO (⟨hc,hd⟩:dx)) rfl rfl ?_|refine dX hg (aO (⟨hc,hd⟩:dx)) rfl rfl ?_)
 cbv
 (first|refine fU hg (aO (⟨he,hf⟩:dx)) rfl rfl ?_|refine dX hg (aO (⟨he,hf⟩:dx)) rfl rfl ?_)
 cbv
 (first|refine fU hg (aO (⟨hh,hi⟩:dx)) rfl rfl ?_|refine dX hg (aO (⟨hh,hi⟩:dx)) rfl rfl ?_)
 cbv
 (first|refine fU hg (aO (⟨hj,hk⟩:dx)) rfl rfl ?_|refine dX hg (aO (⟨hj,hk⟩:dx)) rfl rfl ?_)
 cbv
 (first|refine fU hg (aO (⟨hl,hm⟩:dx)) rfl rfl ?_|refine dX hg (aO (⟨hl,hm⟩:dx)) rfl rfl ?_)
 cbv
 (first|refine fU hg (aO (⟨hn,ho⟩:dx)) rfl rfl ?_|refine dX hg (aO (⟨hn,ho⟩:dx)) rfl rfl ?_)
 cbv
 (first|refine fU hg (gF (⟨⟨hp,hq⟩,⟨hr,hs⟩,⟨ht,hu⟩,⟨hv,hw⟩,⟨hx,hy⟩,⟨hz,hA⟩⟩:bh)) rfl rfl ?_|refine dX hg (gF (⟨⟨hp,hq⟩,⟨hr,hs⟩,⟨ht,hu⟩,⟨hv,hw⟩,⟨hx,hy⟩,⟨hz,hA⟩⟩:bh)) rfl rfl ?_)
 cbv
 (first|refine fU hg (gF (⟨⟨hB,hC⟩,⟨hD,hE⟩,⟨hG,hH⟩,⟨hI,hJ⟩,⟨hK,hL⟩,⟨hM,hN⟩⟩:bh)) rfl rfl ?_|refine dX hg (gF (⟨⟨hB,hC⟩,⟨hD,hE⟩,⟨hG,hH⟩,⟨hI,hJ⟩,⟨hK,hL⟩,⟨hM,hN⟩⟩:bh)) rfl rfl ?_)
 cbv
 (first|refine fU hg (gG (⟨hO,hP,hQ,hR⟩:bV)) rfl rfl ?_|refine dX hg (gG (⟨hO,hP,hQ,hR⟩:bV)) rfl rfl ?_)
 cbv
 (first|refine fU hg (gG (⟨hS,hT,hU,hV⟩:bV)) rfl rfl ?_|refine dX hg (gG (⟨hS,hT,hU,hV⟩:bV)) rfl rfl ?_)
 cbv
 exact gP hF rfl ⟨rfl,rfl⟩
theorem s5(x y:ak):PC0 171 [.agg (lc (ak.c x)),.agg (lc (ak.c y))] (.t (abl (decide (x=y)))):=by
 refine ae (aK f171) ay func171 fun g F hg hF=> ?_
 cbv
 iterate 25
  first
   |(
    generalize e:g .q .neq _ _=r
    cases r
    rotate_left
    ·rw [bz hg,bne_iff_ne]at e
     cbv
     exact gP hF rfl ⟨by simp [mkV,show¬x=y from fun h=>e (by rw [h])],rfl⟩
    rw [bz hg,zqq]at e)
   |(
    generalize e:g .qb .neq _ _=r
    cases r
    rotate_left
    ·rw [fX hg,bne_iff_ne]at e
     cbv
     exact gP hF rfl ⟨by simp [mkV,show¬x=y from fun h=>e (by rw [h])],rfl⟩
    rw [fX hg,zqq]at e)
   |(
    first|refine bv hg (bu _ _) rfl (fun R e=> ?_)|refine ba hg (bu _ _) rfl (fun R e=> ?_)|refine bv hg (mG _ _) rfl (fun R e=> ?_)|refine ba hg (mG _ _) rfl (fun R e=> ?_)|refine bv hg (mH _ _) rfl (fun R e=> ?_)|refine ba hg (mH _ _) rfl (fun R e=> ?_)
    cases R
    ·replace e:=of_decide_eq_false e.symm
     cbv
     exact gP hF rfl ⟨by simp [mkV,show¬x=y from fun h=>e (by rw [h])],rfl⟩
    replace e:=of_decide_eq_true e.symm)
  cbv
 obtain rfl:x=y:=by
  cases x
  cases y
  simp_all
 exact gP hF rfl ⟨by simp [mkV],rfl⟩
theorem vb(x:aI):PC0 263 [.agg (lc (aI.c x))] (.t (.agg (lc (aI.c x)))):=by
 obtain⟨a0,a1,a2⟩:=x
 refine ae (aK f263) ay func263 fun g F hg hF=> ?_
 cbv
 exact gP hF rfl ⟨rfl,rfl⟩
theorem vk(x y:aI):PC0 279 [.agg (lc (aI.c x)),.agg (lc (aI.c y))] (.t (abl (decide (x=y)))):=by
 obtain⟨a0,a1,a2⟩:=x
 obtain⟨b0,b1,b2⟩:=y
 refine ae (aK f279) ay func279 fun g F hg hF=> ?_
 cbv
 cases e0:g .q .neq a0 b0
 case true=>
  rw [bz hg,bne_iff_ne]at e0
  cbv
  exact gP hF rfl ⟨by simp [mkV,e0],rfl⟩
 rw [bz hg,zqq]at e0
 subst e0
 cbv
 cases e1:g .q .neq a1 b1
 case true=>
  rw [bz hg,bne_iff_ne]at e1
  cbv
  exact gP hF rfl ⟨by simp [mkV,e1],rfl⟩
 rw [bz hg,zqq]at e1
 subst e1
 cbv
 cases e2:g .q .neq a2 b2
 case true=>
  rw [bz hg,bne_iff_ne]at e2
  cbv
  exact gP hF rfl ⟨by simp [mkV,e2],rfl⟩
 rw [bz hg,zqq]at e2
 subst e2
 cbv
 exact gP hF rfl ⟨by simp [mkV],rfl⟩
theorem mD(x:az):PC0 10 [.agg (lc (az.c x))] (.t (.agg (lc (az.c x)))):=by
 obtain⟨a0,a1⟩:=x
 refine ae (aK f10) ay func10 fun g F hg hF=> ?_
 cbv
 exact gP hF rfl ⟨rfl,rfl⟩
theorem sX(V:LLA)(L:Int)(hV:V.length<=9223372036854775807)(h0:0<=L)(h1:L<=1048576):PC0 193 [.c (.view V),ai L] (.i (szR (aQ V) L)):=by
 obtain⟨M,hM⟩:=nmE (aQ V)
 have ha:0<=M:=by rw [hM,aj];omega
 have hb:M<=9223372036854775807:=by rw [hM,aj];omega
 rw [<-hM]
 refine ae (aK f193) ay func193 fun g F hg hF=> ?_
 cbv
 have e1:g .w .sub .i64 L (g .ln V)=L-M:=by rw [dq hg,bB hg,<-hM,aq _ (by omega)]
 obtain⟨D,hD⟩:=nmE (L-M)
 rw [<-hD]at e1
 rw [e1]
 cases e:g .q .lss D 0
 ·rw [bg hg,zqo]at e
  cbv
  exact aU hF (by unfold szR;rw [<-hD,if_neg e])
 ·rw [bg hg,zqp]at e
  cbv
  exact aU hF (by unfold szR;rw [<-hD,if_pos e])
theorem mE(xs:List aI)(hl:xs.length<=1048576):cY prog 213 [.c (.view (vw aI.c xs))] fun res ha=>∃ab,res= .o 0/\ha=[ab]/\(ab.es.all fun x=>x.all dy)=true/\ab=⟨193,3,vw aI.c xs⟩:=by
 obtain⟨V,hV⟩:=nmE (vw aI.c xs)
 have he:=lmV hV
 rw [<-hV]
 refine ae (aK f213) ay func213 fun g F hg hF=> ?_
 cbv
 refine Fk hg (by decide) (by rw [he];exact hl) ?_
 cbv
 have hd:sk 3 V (List.replicate (g .ln V).toNat [.J 0,.J 0,.J 0]) 0:=sk.start (k:=3) (z:=[.J 0,.J 0,.J 0]) rfl rfl (bB hg V)
 refine bP hg ay (by kernel_rfl) (fun s:Int×LLA=>[(0,.v V),(3,.o 0),(4,.i s.1)]) (fun s=>[.rw ⟨193,3,s.2⟩]) (fun s=>sk 3 V s.2 s.1) (fun s=>V.length-s.1.toNat)
  (0,g .rp (g .ln V) [.J 0,.J 0,.J 0]) [some 0] ?_ (wkS [0] (by decide) ⟨⟨_,rfl,rfl,?_⟩,trivial⟩ zr3) (fun s B hs hB=> ?_)
 ·simp only [yg hg];exact hd
 ·simp only [yg hg];exact hd.pl
 ·obtain⟨z,es⟩:=s
  simp only at hs
  have h0:=hs.z0
  have h1:=hs.z1
  cbv
  cases hc:g .q .lss z (g .ln V)
  ·cbv
   rw [bg hg,bB hg,zqo]at hc
   obtain rfl:=hs.done hc
   exact Jo _ hF rfl hs.pl ⟨_,rfl,rfl,hs.pl,by rw [hV]⟩
  ·cbv
   rw [bg hg,bB hg,zqp]at hc
   have hf:=aj V
   obtain⟨x,hx⟩:=qz (xs:=xs) h0 (by omega)
   have hy:V[z.toNat]? =some (lc (aI.c x)):=by rw [hV];exact bd hx
   obtain⟨a0,a1,a2⟩:=x
   refine goX hg _ h0 hy rfl ?_
   cbv
   refine ad hg (vb ⟨a0,a1,a2⟩) ?_
   cbv
   refine goY hg h0 (by have:=hs.len;have:=aj V;have:aQ es=(es.length:Int):=rfl;show z<aQ es;omega) (fun j hj hh=> ?_)
   cbv
   refine goN hg (hs.mem hh) ?_
   cbv
   have hf:=aj V
   have h2:g .w .add .i64 z 1=z+1:=by rw [aJ hg,aq _ (by omega)]
   rw [h2,kI hg]
   have hb:=hs.step hc hj hy rfl rfl
   exact ip hB (z+1,_) [some 0] (wkS [0] (by decide) ⟨⟨_,rfl,rfl,hb.pl⟩,trivial⟩ zr3) hb (by show V.length-(z+1).toNat<V.length-z.toNat;omega)
theorem s6(xs ys:List aI)(hl:xs.length<=1048576):PC0 231 [.c (.view (vw aI.c xs)),.c (.view (vw aI.c ys))] (.t (abl (decide (xs=ys)))):=by
 obtain⟨V,hV⟩:=nmE (vw aI.c xs)
 obtain⟨W,hW⟩:=nmE (vw aI.c ys)
 have hb:=lmV hV
 have hd:=lmV hW
 rw [<-hV,<-hW]
 refine ae (aK f231) ay func231 fun g F hg hF=> ?_
 cbv
 cases e0:g .q .neq (g .ln V) (g .ln W)
 case true=>
  rw [bz hg,bne_iff_ne,bB hg,bB hg]at e0
  cbv
  refine gP hF rfl ⟨?_,rfl⟩
  have:¬xs=ys:=fun h=>e0 (by rw [aj,aj,hb,hd,h])
  simp [mkV,this]
 rw [bz hg,zqq,bB hg,bB hg]at e0
 have hm:xs.length=ys.length:=by have:=aj V;have:=aj W;omega
 cbv
 refine bP hg ay (by kernel_rfl) (fun z:Int=>[(0,.v V),(1,.v W),(5,.i z)]) (fun _=>[]) (fun z=>0<=z/\z<=aQ V/\∀i:Nat,i<z.toNat->xs[i]? =ys[i]?) (fun z=>xs.length-z.toNat)
  0 [] ⟨by omega,by have:=aj V;omega,fun i hi=>by simp at hi⟩ (wk0 zr3) (fun z B hs hB=> ?_)
 obtain⟨h0,h1,h2⟩:=hs
 cbv
 cases hc:g .q .lss z (g .ln V)
 ·cbv
  rw [bg hg,bB hg,zqo]at hc
  refine gP hF rfl ⟨?_,rfl⟩
  have:xs=ys:=by
   have ha:=aj V
   refine List.ext_getElem? fun i=> ?_
   by_cases hi:i<xs.length
   ·exact h2 i (by omega)
   ·rw [zqz (by omega),zqz (by omega)]
  simp [mkV,this]
 ·cbv
  rw [bg hg,bB hg,zqp]at hc
  have ha:=aj V
  obtain⟨x,hx⟩:=qz (xs:=xs) h0 (by omega)
  obtain⟨y,hy⟩:=qz (xs:=ys) h0 (by omega)
  have hh:V[z.toNat]? =some (lc (aI.c x)):=by rw [hV];exact bd hx
  have hk:W[z.toNat]? =some (lc (aI.c y)):=by rw [hW];exact bd hy
  have hf:¬x=y->¬xs=ys:=fun h he=>h (by subst he;rw [hx]at hy;exact Option.some.inj hy)
  obtain⟨a0,a1,a2⟩:=x
  obtain⟨b0,b1,b2⟩:=y
  refine goX hg _ h0 hh rfl ?_
  cbv
  refine goX hg _ h0 hk rfl ?_
  cbv
  refine aa hg (vk ⟨a0,a1,a2⟩ ⟨b0,b1,b2⟩) ?_
  cbv
  obtain⟨D,hD⟩:∃D:Bool,D=decide ((⟨a0,a1,a2⟩:aI)=⟨b0,b1,b2⟩):=⟨_,rfl⟩
  rw [<-hD]
  cases D
  ·cbv
   refine gP hF rfl ⟨?_,rfl⟩
   simp [mkV,hf (by simpa using hD.symm)]
  ·cbv
   have hj:(⟨a0,a1,a2⟩:aI)=⟨b0,b1,b2⟩:=by simpa using hD.symm
   have ha:=aj V
   have h3:g .w .add .i64 z 1=z+1:=by rw [aJ hg,aq _ (by omega)]
   rw [h3]
   refine ip hB (z+1) [] (wk0 zr3) ⟨by omega,by omega,fun i hi=> ?_⟩ (by omega)
   by_cases hi2:i<z.toNat
   ·exact h2 i hi2
   ·rw [show i=z.toNat by omega,hx,hy,hj]
theorem vg(V:LLA)(L:Int)(hV:V.length<=9223372036854775807)(h0:0<=L)(h1:L<=1048576):PC0 117 [.c (.view V),ai L] (.i (szR (aQ V) L)):=by
 obtain⟨M,hM⟩:=nmE (aQ V)
 have ha:0<=M:=by rw [hM,aj];omega
 have hb:M<=9223372036854775807:=by rw [hM,aj];omega
 rw [<-hM]
 refine ae (aK f117) ay func117 fun g F hg hF=> ?_
 cbv
 have e1:g .w .sub .i64 L (g .ln V)=L-M:=by rw [dq hg,bB hg,<-hM,aq _ (by omega)]
 obtain⟨D,hD⟩:=nmE (L-M)
 rw [<-hD]at e1
 rw [e1]
 cases e:g .q .lss D 0
 ·rw [bg hg,zqo]at e
  cbv
  exact aU hF (by unfold szR;rw [<-hD,if_neg e])
 ·rw [bg hg,zqp]at e
  cbv
  exact aU hF (by unfold szR;rw [<-hD,if_pos e])
theorem nV(xs:List Int)(hl:xs.length<=1048576):cY prog 144 [.c (.view (vw ah xs))] fun res ha=>∃ab,res= .o 0/\ha=[ab]/\(ab.es.all fun x=>x.all dy)=true/\ab=⟨3,1,vw ah xs⟩:=by
 obtain⟨V,hV⟩:=nmE (vw ah xs)
 have he:=lmV hV
 rw [<-hV]
 refine ae (aK f144) ay func144 fun g F hg hF=> ?_
 cbv
 refine Fk hg (by decide) (by rw [he];exact hl) ?_
 cbv
 have hd:sk 1 V (List.replicate (g .ln V).toNat [.J 0]) 0:=sk.start (k:=1) (z:=[.J 0]) rfl rfl (bB hg V)
 refine bP hg ay (by kernel_rfl) (fun s:Int×LLA=>[(0,.v V),(3,.o 0),(4,.i s.1)]) (fun s=>[.rw ⟨3,1,s.2⟩]) (fun s=>sk 1 V s.2 s.1) (fun s=>V.length-s.1.toNat)
  (0,g .rp (g .ln V) [.J 0]) [some 0] ?_ (wkS [0] (by decide) ⟨⟨_,rfl,rfl,?_⟩,trivial⟩ zr3) (fun s B hs hB=> ?_)
 ·simp only [yg hg];exact hd
 ·simp only [yg hg];exact hd.pl
 ·obtain⟨z,es⟩:=s
  simp only at hs
  have h0:=hs.z0
  have h1:=hs.z1
  cbv
  cases hc:g .q .lss z (g .ln V)
  ·cbv
   rw [bg hg,bB hg,zqo]at hc
   obtain rfl:=hs.done hc
   exact Jo _ hF rfl hs.pl ⟨_,rfl,rfl,hs.pl,by rw [hV]⟩
  ·cbv
   rw [bg hg,bB hg,zqp]at hc
   have hf:=aj V
   obtain⟨x,hx⟩:=qz (xs:=xs) h0 (by omega)
   have hy:V[z.toNat]? =some (lc (ah x)):=by rw [hV];exact bd hx
   refine goX hg _ h0 hy rfl ?_
   cbv
   refine goY hg h0 (by have:=hs.len;have:=aj V;have:aQ es=(es.length:Int):=rfl;show z<aQ es;omega) (fun j hj hh=> ?_)
   cbv
   refine goN hg (hs.mem hh) ?_
   cbv
   have hf:=aj V
   have h2:g .w .add .i64 z 1=z+1:=by rw [aJ hg,aq _ (by omega)]
   rw [h2,kI hg]
   have hb:=hs.step hc hj hy rfl rfl
   exact ip hB (z+1,_) [some 0] (wkS [0] (by decide) ⟨⟨_,rfl,rfl,hb.pl⟩,trivial⟩ zr3) hb (by show V.length-(z+1).toNat<V.length-z.toNat;omega)
theorem nW(xs ys:List Int)(hl:xs.length<=1048576):PC0 12 [.c (.view (vw ah xs)),.c (.view (vw ah ys))] (.t (abl (decide (xs=ys)))):=by
 obtain⟨V,hV⟩:=nmE (vw ah xs)
 obtain⟨W,hW⟩:=nmE (vw ah ys)
 have hb:=lmV hV
 have hd:=lmV hW
 rw [<-hV,<-hW]
 refine ae (aK f12) ay func12 fun g F hg hF=> ?_
 cbv
 cases e0:g .q .neq (g .ln V) (g .ln W)
 case true=>
  rw [bz hg,bne_iff_ne,bB hg,bB hg]at e0
  cbv
  refine gP hF rfl ⟨?_,rfl⟩
  have:¬xs=ys:=fun h=>e0 (by rw [aj,aj,hb,hd,h])
  simp [mkV,this]
 rw [bz hg,zqq,bB hg,bB hg]at e0
 have hm:xs.length=ys.length:=by have:=aj V;have:=aj W;omega
 cbv
 refine bP hg ay (by kernel_rfl) (fun z:Int=>[(0,.v V),(1,.v W),(5,.i z)]) (fun _=>[]) (fun z=>0<=z/\z<=aQ V/\∀i:Nat,i<z.toNat->xs[i]? =ys[i]?) (fun z=>xs.length-z.toNat)
  0 [] ⟨by omega,by have:=aj V;omega,fun i hi=>by simp at hi⟩ (wk0 zr3) (fun z B hs hB=> ?_)
 obtain⟨h0,h1,h2⟩:=hs
 cbv
 cases hc:g .q .lss z (g .ln V)
 ·cbv
  rw [bg hg,bB hg,zqo]at hc
  refine gP hF rfl ⟨?_,rfl⟩
  have:xs=ys:=by
   have ha:=aj V
   refine List.ext_getElem? fun i=> ?_
   by_cases hi:i<xs.length
   ·exact h2 i (by omega)
   ·rw [zqz (by omega),zqz (by omega)]
  simp [mkV,this]
 ·cbv
  rw [bg hg,bB hg,zqp]at hc
  have ha:=aj V
  obtain⟨x,hx⟩:=qz (xs:=xs) h0 (by omega)
  obtain⟨y,hy⟩:=qz (xs:=ys) h0 (by omega)
  have hh:V[z.toNat]? =some (lc (ah x)):=by rw [hV];exact bd hx
  have hk:W[z.toNat]? =some (lc (ah y)):=by rw [hW];exact bd hy
  have hf:¬x=y->¬xs=ys:=fun h he=>h (by subst he;rw [hx]at hy;exact Option.some.inj hy)
  refine goX hg _ h0 hh rfl ?_
  cbv
  refine goX hg _ h0 hk rfl ?_
  cbv
  cases hD:g .q .neq x y
  ·cbv
   have hj:x=y:=by rw [bz hg,zqq]at hD;exact hD
   have ha:=aj V
   have h3:g .w .add .i64 z 1=z+1:=by rw [aJ hg,aq _ (by omega)]
   rw [h3]
   refine ip hB (z+1) [] (wk0 zr3) ⟨by omega,by omega,fun i hi=> ?_⟩ (by omega)
   by_cases hi2:i<z.toNat
   ·exact h2 i hi2
   ·rw [show i=z.toNat by omega,hx,hy,hj]
  ·cbv
   refine gP hF rfl ⟨?_,rfl⟩
   simp [mkV,hf (by rw [bz hg,bne_iff_ne]at hD;exact hD)]
def iJ(n l m:Int):Int:=if(if m<0 then n else if m<n then m else n)<l then l else if m<0 then n else if m<n then m else n
def xN(f:α->Int)(xs:List α)(n:Nat):Int:=((xs.take n).map f).sum
theorem jy(f:α->Int)(xs:List α):xN f xs 0=0:=by simp [xN]
theorem jz(f:α->Int){n:Nat}{x:α}(h:xs[n]? =some x):xN f xs (n+1)=xN f xs n+f x:=by
 simp [xN,List.take_add_one,h]
theorem l4(f:α->Int){n:Nat}(h:xs.length<=n):xN f xs n=(xs.map f).sum:=by
 rw [xN,List.take_of_length_le h]
theorem nf(a b:Int):wrap64 (wrap64 a+b)=wrap64 (a+b):=by unfold wrap64;omega
theorem tC(a b:Int):wrap64 (a+wrap64 b)=wrap64 (a+b):=by unfold wrap64;omega
theorem Ba{c:α->Array Value}(hk:∀x,(c x).size=k):∀y∈vw c xs,y.length=k:=by
 intro y hy
 simp only [vw,List.mem_map]at hy
 obtain⟨x,_,rfl⟩:=hy
 rw [HM];exact hk x
theorem kmV{c:α->Array Value}(h:V=vw c xs)(hk:∀x,(c x).size=k):∀y∈V,y.length=k:=by rw [h];exact Ba hk
theorem HN(a:Array Value):(lc a).all dat=true:=by simp [lc,dat]
theorem qD{c:α->Array Value}:∀y∈vw c xs,y.all dat=true:=by
 intro y hy
 simp only [vw,List.mem_map]at hy
 obtain⟨x,_,rfl⟩:=hy
 exact HN _
theorem dmV{c:α->Array Value}(h:V=vw c xs):∀y∈V,y.all dat=true:=by rw [h];exact qD
def hyp(x:af):Int:=iJ x.base x.least x.most
theorem jJ(n l m:Int):PC0 190 [ai n,ai l,ai m] (.i (iJ n l m)):=by
 refine ae (aK f190) ay func190 fun g F hg hF=> ?_
 cbv
 cases e1:g .q .geq m 0
 ·rw [iR hg,zqo]at e1
  cbv
  cases e3:g .q .lss n l
  ·rw [bg hg,zqo]at e3
   cbv
   exact aU hF (by unfold iJ;omega)
  ·rw [bg hg,zqp]at e3
   cbv
   exact aU hF (by unfold iJ;omega)
 ·rw [iR hg,zqp]at e1
  cbv
  cases e2:g .q .gtr n m
  ·rw [cj hg,zqo]at e2
   cbv
   cases e3:g .q .lss n l
   ·rw [bg hg,zqo]at e3
    cbv
    exact aU hF (by unfold iJ;omega)
   ·rw [bg hg,zqp]at e3
    cbv
    exact aU hF (by unfold iJ;omega)
  ·rw [cj hg,zqp]at e2
   cbv
   cases e3:g .q .lss m l
   ·rw [bg hg,zqo]at e3
    cbv
    exact aU hF (by unfold iJ;omega)
   ·rw [bg hg,zqp]at e3
    cbv
    exact aU hF (by unfold iJ;omega)
theorem jV(n l m:Int):PC0 192 [ai n,ai l,ai m] (.i (iJ n l m)):=by
 refine ae (aK f192) ay func192 fun g F hg hF=> ?_
 cbv
 cases e1:g .q .geq m 0
 ·rw [iR hg,zqo]at e1
  cbv
  exact aU hF (by rw [Fj hg];unfold iJ;omega)
 ·rw [iR hg,zqp]at e1
  cbv
  exact aU hF (by rw [Fj hg,IW hg];unfold iJ;omega)
theorem i7(x:af):PC0 259 [.agg (lc (af.c x))] (.i (hyp x)):=by
 obtain⟨a0,a1,a2,a3,a4,a5,a6,a7,a8⟩:=x
 obtain⟨R,hR⟩:=nmE (iJ a0 a1 a2)
 have hc:=jJ a0 a1 a2
 rw [<-hR]at hc
 refine ae (aK f259) ay func259 fun g F hg hF=> ?_
 cbv
 refine ad hg hc ?_
 cbv
 exact aU hF (by rw [hR];rfl)
theorem jc(x:af):PC0 222 [.agg (lc (af.c x))] (.i (hyp x)):=by
 obtain⟨a0,a1,a2,a3,a4,a5,a6,a7,a8⟩:=x
 obtain⟨R,hR⟩:=nmE (iJ a0 a1 a2)
 have hc:=jV a0 a1 a2
 rw [<-hR]at hc
 refine ae (aK f222) ay func222 fun g F hg hF=> ?_
 cbv
 refine ad hg hc ?_
 cbv
 exact aU hF (by rw [hR];rfl)
def bro(n l m:Int):Int:=if m<l\/n<l then l else if m<n then m else n
def cl(n:Int):Int:=bro n 0 1048576
def sg(n:Int):Int:=bro n (-1048576) 1048576
def fdv(a b:Int):Int:=if b<1 then 0 else if a.tmod b<0 then wrap64 (wrap64 (a.tdiv b)-1)else wrap64 (a.tdiv b)
def kn(v:dx)(base:Int):Bool:=decide (v.kind=1)||(decide (v.kind=2)&&decide (0<=base))
def Gm(v:dx)(base:Int):Int:=if kn v base=false then-1 else if v.kind=1 then v.n else fdv (wrap64 (cl base*bro v.n (-1000000) 1000000)) 100
def tG(v:dx)(base:Int):Int:=if kn v base=false then-1 else cl (Gm v base)
def orl(n m:Int):Int:=if n= -1 then m else n
def qL(s:bh)(sd:Int)(rtl:Bool):dx:=
 if sd=1 then s.top else if sd=3 then s.bottom
 else if sd=0 then(if(if rtl then s.fin else s.start).kind≠0 then(if rtl then s.fin else s.start)else s.left)
 else if sd=2 then(if(if rtl then s.start else s.fin).kind≠0 then(if rtl then s.start else s.fin)else s.right)else⟨0,0⟩
def adE(a b:Int):Int:=cl (wrap64 (cl a+cl b))
def Jp(a b:bV):bV:=⟨adE a.left b.left,adE a.top b.top,adE a.right b.right,adE a.bottom b.bottom⟩
def oh(s:ak):bV:=Jp s.pad s.border
def ud(s:ak)(wide:Bool):Int:=if wide then adE (oh s).left (oh s).right else adE (oh s).top (oh s).bottom
def Ca(s:ak)(wide:Bool)(base:Int):Int:=if ud s wide<orl (tG (if wide then s.minWidth else s.minHeight) base) 0 then orl (tG (if wide then s.minWidth else s.minHeight) base) 0 else ud s wide
def Da(s:ak)(wide:Bool)(base:Int):Int:=tG (if wide then s.maxWidth else s.maxHeight) base
def po(s:ak)(wide:Bool)(base n:Int):Int:=cl (iJ n (Ca s wide base) (Da s wide base))
def rT(s:ak)(wide:Bool)(base:Int):Int:=tG (if wide then s.width else s.height) base
theorem eG(n l m:Int):PC0 197 [ai n,ai l,ai m] (.i (bro n l m)):=by
 refine ae (aK f197) ay func197 fun g F hg hF=> ?_
 cbv
 repeat'(first|(split<;>rename_i hh<;>(try rw [hh])<;>(try simp only [dD hg]at hh)<;>cbv))
 all_goals exact aU hF (by unfold bro;grind)
theorem eN(n l m:Int):PC0 221 [ai n,ai l,ai m] (.i (bro n l m)):=by
 refine ae (aK f221) ay func221 fun g F hg hF=> ?_
 cbv
 repeat'(first|(split<;>rename_i hh<;>(try rw [hh])<;>(try simp only [dD hg]at hh)<;>cbv))
 all_goals exact aU hF (by unfold bro;grind)
theorem bI(n l m:Int):PC0 120 [ai n,ai l,ai m] (.t (abl (decide (l<=n)&&decide (n<=m)))):=by
 refine ae (aK f120) ay func120 fun g F hg hF=> ?_
 cbv
 repeat'(first|(split<;>rename_i hh<;>(try rw [hh])<;>(try simp only [dD hg]at hh)<;>cbv))
 all_goals exact bj hF (by(try simp only [iY hg,iR hg]);grind)
theorem de(n l m:Int):PC0 148 [ai n,ai l,ai m] (.t (abl (decide (l<=n)&&decide (n<=m)))):=by
 refine ae (aK f148) ay func148 fun g F hg hF=> ?_
 cbv
 repeat'(first|(split<;>rename_i hh<;>(try rw [hh])<;>(try simp only [dD hg]at hh)<;>cbv))
 all_goals exact bj hF (by(try simp only [iY hg,iR hg]);grind)
theorem aN(n:Int):PC0 124 [ai n] (.i (cl n)):=by
 refine ae (aK f124) ay func124 fun g F hg hF=> ?_
 cbv
 repeat'(first|(refine bk hg (eG _ _ _) rfl (fun R0 ha=> ?_);cbv)|(split<;>rename_i hh<;>(try rw [hh])<;>(try simp only [dD hg]at hh)<;>cbv))
 all_goals exact aU hF (by subst_vars;rfl)
theorem aZ(n:Int):PC0 153 [ai n] (.i (cl n)):=by
 refine ae (aK f153) ay func153 fun g F hg hF=> ?_
 cbv
 repeat'(first|(refine bk hg (eN _ _ _) rfl (fun R0 ha=> ?_);cbv)|(split<;>rename_i hh<;>(try rw [hh])<;>(try simp only [dD hg]at hh)<;>cbv))
 all_goals exact aU hF (by subst_vars;rfl)
theorem bO(n:Int):PC0 207 [ai n] (.i (sg n)):=by
 refine ae (aK f207) ay func207 fun g F hg hF=> ?_
 cbv
 repeat'(first|(refine bk hg (eG _ _ _) rfl (fun R0 ha=> ?_);cbv)|(split<;>rename_i hh<;>(try rw [hh])<;>(try simp only [dD hg]at hh)<;>cbv))
 all_goals exact aU hF (by subst_vars;rfl)
theorem bZ(n:Int):PC0 227 [ai n] (.i (sg n)):=by
 refine ae (aK f227) ay func227 fun g F hg hF=> ?_
 cbv
 repeat'(first|(refine bk hg (eN _ _ _) rfl (fun R0 ha=> ?_);cbv)|(split<;>rename_i hh<;>(try rw [hh])<;>(try simp only [dD hg]at hh)<;>cbv))
 all_goals exact aU hF (by subst_vars;rfl)
theorem qF(n:Int):PC0 262 [ai n] (.i (bro n (-1000000) 1000000)):=by
 refine ae (aK f262) ay func262 fun g F hg hF=> ?_
 cbv
 repeat'(first|(refine bk hg (eG _ _ _) rfl (fun R0 ha=> ?_);cbv)|(split<;>rename_i hh<;>(try rw [hh])<;>(try simp only [dD hg]at hh)<;>cbv))
 all_goals exact aU hF (by subst_vars;rfl)
theorem bJ(a b:Int):PC0 209 [ai a,ai b] (.i (fdv a b)):=by
 refine ae (aK f209) ay func209 fun g F hg hF=> ?_
 cbv
 by_cases hb:b<1
 ·have h0:g .q .lss b 1=true:=by rw [bg hg];simpa using hb
  rw [h0]
  cbv
  all_goals exact aU hF (by unfold fdv;rw [if_pos hb])
 ·have h0:g .q .lss b 1=false:=by rw [bg hg];simpa using hb
  rw [h0]
  cbv
  refine G9 hg (by omega) ?_
  cbv
  refine G9 hg (by omega) ?_
  cbv
  repeat'(first|(split<;>rename_i hh<;>(try rw [hh])<;>(try simp only [dD hg]at hh)<;>cbv))
  all_goals exact aU hF (by unfold fdv;simp only [D3 hg,Gu hg,dq hg]at *;grind)
theorem bK(a b:Int):PC0 191 [ai a,ai b] (.i (fdv a b)):=by
 refine ae (aK f191) ay func191 fun g F hg hF=> ?_
 cbv
 by_cases hb:b<1
 ·have h0:g .q .lss b 1=true:=by rw [bg hg];simpa using hb
  rw [h0]
  cbv
  all_goals exact aU hF (by unfold fdv;rw [if_pos hb])
 ·have h0:g .q .lss b 1=false:=by rw [bg hg];simpa using hb
  rw [h0]
  cbv
  refine G9 hg (by omega) ?_
  cbv
  refine G9 hg (by omega) ?_
  cbv
  repeat'(first|(split<;>rename_i hh<;>(try rw [hh])<;>(try simp only [dD hg]at hh)<;>cbv))
  all_goals exact aU hF (by unfold fdv;simp only [D3 hg,Gu hg,dq hg]at *;grind)
theorem fC(k n b:Int):PC0 206 [.agg [.J k,.J n],ai b] (.t (abl (kn ⟨k,n⟩ b))):=by
 refine ae (aK f206) ay func206 fun g F hg hF=> ?_
 cbv
 repeat'(first|(split<;>rename_i hh<;>(try rw [hh])<;>(try simp only [dD hg]at hh)<;>cbv))
 all_goals exact bj hF (by(try simp only [iY hg,iR hg,bm hg]);simp only [kn];grind)
theorem fI(k n b:Int):PC0 225 [.agg [.J k,.J n],ai b] (.t (abl (kn ⟨k,n⟩ b))):=by
 refine ae (aK f225) ay func225 fun g F hg hF=> ?_
 cbv
 repeat'(first|(split<;>rename_i hh<;>(try rw [hh])<;>(try simp only [dD hg]at hh)<;>cbv))
 all_goals exact bj hF (by(try simp only [iY hg,iR hg,bm hg]);simp only [kn];grind)
theorem fM(k n b:Int):PC0 208 [.agg [.J k,.J n],ai b] (.i (Gm ⟨k,n⟩ b)):=by
 refine ae (aK f208) ay func208 fun g F hg hF=> ?_
 cbv
 repeat'(first|(refine bv hg (fC _ _ _) rfl (fun R0 ha=> ?_);cases R0<;>cbv)|((first|refine aV hg (aN _) rfl (fun R0 ha=> ?_)|refine aV hg (qF _) rfl (fun R0 ha=> ?_)|refine aV hg (bJ _ _) rfl (fun R0 ha=> ?_));cbv)|(split<;>rename_i hh<;>(try rw [hh])<;>(try simp only [dD hg]at hh)<;>cbv))
 all_goals exact aU hF (by(try simp only [gl hg]at *);simp only [Gm];grind)
theorem fQ(k n b:Int):PC0 226 [.agg [.J k,.J n],ai b] (.i (Gm ⟨k,n⟩ b)):=by
 refine ae (aK f226) ay func226 fun g F hg hF=> ?_
 cbv
 repeat'(first|(refine bv hg (fI _ _ _) rfl (fun R0 ha=> ?_);cases R0<;>cbv)|((first|refine aV hg (aZ _) rfl (fun R0 ha=> ?_)|refine aV hg (eN _ _ _) rfl (fun R0 ha=> ?_)|refine aV hg (bK _ _) rfl (fun R0 ha=> ?_));cbv)|(split<;>rename_i hh<;>(try rw [hh])<;>(try simp only [dD hg]at hh)<;>cbv))
 all_goals exact aU hF (by(try simp only [gl hg]at *);simp only [Gm];grind)
theorem ef(k n b:Int):PC0 138 [.agg [.J k,.J n],ai b] (.i (tG ⟨k,n⟩ b)):=by
 refine ae (aK f138) ay func138 fun g F hg hF=> ?_
 cbv
 repeat'(first|(refine bv hg (fC _ _ _) rfl (fun R0 ha=> ?_);cases R0<;>cbv)|((first|refine bk hg (aN _) rfl (fun R0 ha=> ?_)|refine bk hg (fM _ _ _) rfl (fun R0 ha=> ?_));cbv)|(split<;>rename_i hh<;>(try rw [hh])<;>(try simp only [dD hg]at hh)<;>cbv))
 all_goals exact aU hF (by simp only [tG];grind)
theorem ej(k n b:Int):PC0 164 [.agg [.J k,.J n],ai b] (.i (tG ⟨k,n⟩ b)):=by
 refine ae (aK f164) ay func164 fun g F hg hF=> ?_
 cbv
 repeat'(first|(refine bv hg (fI _ _ _) rfl (fun R0 ha=> ?_);cases R0<;>cbv)|((first|refine bk hg (aZ _) rfl (fun R0 ha=> ?_)|refine bk hg (fQ _ _ _) rfl (fun R0 ha=> ?_));cbv)|(split<;>rename_i hh<;>(try rw [hh])<;>(try simp only [dD hg]at hh)<;>cbv))
 all_goals exact aU hF (by simp only [tG];grind)
theorem jK(n m:Int):PC0 137 [ai n,ai m] (.i (orl n m)):=by
 refine ae (aK f137) ay func137 fun g F hg hF=> ?_
 cbv
 repeat'(first|(split<;>rename_i hh<;>(try rw [hh])<;>(try simp only [dD hg]at hh)<;>cbv))
 all_goals exact aU hF (by simp only [orl];grind)
theorem n7(n m:Int):PC0 167 [ai n,ai m] (.i (orl n m)):=by
 refine ae (aK f167) ay func167 fun g F hg hF=> ?_
 cbv
 repeat'(first|(split<;>rename_i hh<;>(try rw [hh])<;>(try simp only [dD hg]at hh)<;>cbv))
 all_goals exact aU hF (by simp only [orl];grind)
end Go.Proofs.YtkicjdeddpihaaaGreat
