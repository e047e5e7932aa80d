/- Lines of items: lengths within bounds, sums over a line. -/
import Derived.Test.YtkicjdeddpihaaaGreatS4at
set_option linter.unusedVariables false
set_option linter.unusedSimpArgs false
set_option maxHeartbeats 8000000
namespace Go.Proofs.YtkicjdeddpihaaaGreat
open Go.ChangeShapes Go.WideShapes Go.ChangeAt Go.RowKit Am Go.Proofs.Tryz
set_option maxRecDepth 100000
abbrev ai(n:Int):AT:= .c (.J n)
abbrev abl(b:Bool):AT:= .c (.B b)
theorem H6(a:Array Value):(lc a).length=a.size:=by simp [lc]
theorem D0(a:Array Value):(lc a).all dt=true:=by simp [lc,dt]
variable {α:Type}
theorem aI(c:α->Array Value)(xs:List α):aB (vw c xs)=true:=by
 simp only [aB,vw,List.all_map,zqf]
 intro x _
 exact D0 _
variable {xs:List α}{V:LLA}
theorem pmV{c:α->Array Value}(h:V=vw c xs):aB V=true:=by rw [h];exact aI _ _
theorem HB{es:List α}{j i:Nat}{x:α}(hj:j<es.length):(es.set j x)[i]? =if i=j then some x else es[i]? :=by
 rw [List.getElem?_set]
 by_cases h:j=i
 ·subst h;simp [hj]
 ·rw [if_neg h,if_neg (fun h'=>h h'.symm)]
structure qC(k:Nat)(V es:LLA)(z:Int):Prop where
 z0:0<=z
 z1:z<=aN V
 len:es.length=V.length
 ks:∀e∈es,e.length=k
 pl:aB es=true
 eq:∀i:Nat,i<z.toNat->es[i]? =V[i]?
variable {k:Nat}
theorem qC.start{z:List AC}(hk:z.length=k)(hp:z.all dt=true){n:Int}(hn:n=aN V):qC k V (List.replicate n.toNat z) 0:=
 ⟨by omega,by have:=ah V;omega,by have:=ah V;simp;omega,fun e he=>by rw [(List.mem_replicate.1 he).2];exact hk,by simp [aB,hp],fun i hi=>by simp at hi⟩
variable {z:Int}
theorem qC.step{V es:LLA}{j:Nat}{y:List AC}(h:qC k V es z)(hz:z<aN V)(hj:j=z.toNat)(hy:V[z.toNat]? =some y)(hk:y.length=k)(hp:y.all dt=true):qC k V (es.set j y) (z+1):=by
 have:=h.z0
 have:=h.len
 have:=ah V
 refine⟨by omega,by omega,by simpa using h.len,fun e he=> ?_,?_,fun i hi=> ?_⟩
 ·rcases List.mem_or_eq_of_mem_set he with h1|rfl
  ·exact h.ks e h1
  ·exact hk
 ·rw [aB,zqf]
  intro e he
  rcases List.mem_or_eq_of_mem_set he with h1|rfl
  ·exact List.all_eq_true.1 h.pl e h1
  ·exact hp
 ·rw [HB (by omega)]
  by_cases hij:i=j
  ·rw [if_pos hij,hij,hj,hy]
  ·rw [if_neg hij];exact h.eq i (by omega)
theorem qC.done{V es:LLA}(h:qC k V es z)(hz:¬z<aN V):es=V:=by
 have:=ah V
 have:=h.z1
 have:=h.len
 refine List.ext_getElem? fun i=> ?_
 by_cases hi:i<V.length
 ·exact h.eq i (by omega)
 ·rw [zqz (by omega),zqz (by omega)]
theorem qC.mem{V es:LLA}(h:qC k V es z){j:Nat}(hj:j<es.length):∃e,es[j]? =some e/\e.length=k:=⟨es[j],zqc hj,h.ks _ (List.getElem_mem hj)⟩
def szR(n left:Int):Int:=if left-n<0 then-1 else left-n
theorem ak(n:Int)(h: -9223372036854775808<=n/\n<=9223372036854775807):wrap64 n=n:=IntWalk.wrap64_in n h
theorem aR(x:dy):PC0 210 [.agg (lc (dy.c x))] (.t (.agg (lc (dy.c x)))):=by
 obtain⟨a0,a1⟩:=x
 refine ad (aM f210) ay func210 fun g F hg hF=> ?_
 cbv
 exact fw hF rfl ⟨rfl,rfl⟩
theorem bu(x y:dy):PC0 228 [.agg (lc (dy.c x)),.agg (lc (dy.c y))] (.t (abl (decide (x=y)))):=by
 obtain⟨a0,a1⟩:=x
 obtain⟨b0,b1⟩:=y
 refine ad (aM f228) ay func228 fun g F hg hF=> ?_
 cbv
 cases e0:g .q .neq a0 b0
 case true=>
  rw [bj hg,bne_iff_ne]at e0
  cbv
  exact fw hF rfl ⟨by simp [mkV,e0],rfl⟩
 rw [bj hg,zqq]at e0
 subst e0
 cbv
 cases e1:g .q .neq a1 b1
 case true=>
  rw [bj hg,bne_iff_ne]at e1
  cbv
  exact fw hF rfl ⟨by simp [mkV,e1],rfl⟩
 rw [bj hg,zqq]at e1
 subst e1
 cbv
 exact fw hF rfl ⟨by simp [mkV],rfl⟩
theorem gD(x:bh):PC0 211 [.agg (lc (bh.c x))] (.t (.agg (lc (bh.c x)))):=by
 obtain⟨⟨a0,a1⟩,⟨a2,a3⟩,⟨a4,a5⟩,⟨a6,a7⟩,⟨a8,a9⟩,⟨ha,hb⟩⟩:=x
 refine ad (aM f211) ay func211 fun g F hg hF=> ?_
 cbv
 (first|refine fU hg (aR (⟨a0,a1⟩:dy)) rfl rfl ?_|refine dT hg (aR (⟨a0,a1⟩:dy)) rfl rfl ?_)
 cbv
 (first|refine fU hg (aR (⟨a2,a3⟩:dy)) rfl rfl ?_|refine dT hg (aR (⟨a2,a3⟩:dy)) rfl rfl ?_)
 cbv
 (first|refine fU hg (aR (⟨a4,a5⟩:dy)) rfl rfl ?_|refine dT hg (aR (⟨a4,a5⟩:dy)) rfl rfl ?_)
 cbv
 (first|refine fU hg (aR (⟨a6,a7⟩:dy)) rfl rfl ?_|refine dT hg (aR (⟨a6,a7⟩:dy)) rfl rfl ?_)
 cbv
 (first|refine fU hg (aR (⟨a8,a9⟩:dy)) rfl rfl ?_|refine dT hg (aR (⟨a8,a9⟩:dy)) rfl rfl ?_)
 cbv
 (first|refine fU hg (aR (⟨ha,hb⟩:dy)) rfl rfl ?_|refine dT hg (aR (⟨ha,hb⟩:dy)) rfl rfl ?_)
 cbv
 exact fw hF rfl ⟨rfl,rfl⟩
theorem mE(x y:bh):PC0 229 [.agg (lc (bh.c x)),.agg (lc (bh.c y))] (.t (abl (decide (x=y)))):=by
 obtain⟨⟨a0,a1⟩,⟨a2,a3⟩,⟨a4,a5⟩,⟨a6,a7⟩,⟨a8,a9⟩,⟨ha,hb⟩⟩:=x
 obtain⟨⟨b0,b1⟩,⟨b2,b3⟩,⟨b4,b5⟩,⟨b6,b7⟩,⟨b8,b9⟩,⟨hc,he⟩⟩:=y
 refine ad (aM f229) ay func229 fun g F hg hF=> ?_
 cbv
 (first|refine bv hg (bu (⟨a0,a1⟩:dy) (⟨b0,b1⟩:dy)) rfl (fun R0 hf=> ?_)|refine bd hg (bu (⟨a0,a1⟩:dy) (⟨b0,b1⟩:dy)) rfl (fun R0 hf=> ?_))
 cases R0
 case false=>
  cbv
  refine fw hF rfl ⟨?_,rfl⟩
  have hd:=of_decide_eq_false hf.symm
  have:¬(⟨⟨a0,a1⟩,⟨a2,a3⟩,⟨a4,a5⟩,⟨a6,a7⟩,⟨a8,a9⟩,⟨ha,hb⟩⟩:bh)=⟨⟨b0,b1⟩,⟨b2,b3⟩,⟨b4,b5⟩,⟨b6,b7⟩,⟨b8,b9⟩,⟨hc,he⟩⟩:=fun h=>hd (by simp only [bh.mk.injEq]at h;simp only [h])
  simp only [mkV,this,decide_false]
 have e0:=of_decide_eq_true hf.symm
 clear hf
 simp only [dy.mk.injEq,bh.mk.injEq,bS.mk.injEq,az.mk.injEq]at e0
 obtain⟨rfl,rfl⟩:=e0
 cbv
 (first|refine bv hg (bu (⟨a2,a3⟩:dy) (⟨b2,b3⟩:dy)) rfl (fun R1 hh=> ?_)|refine bd hg (bu (⟨a2,a3⟩:dy) (⟨b2,b3⟩:dy)) rfl (fun R1 hh=> ?_))
 cases R1
 case false=>
  cbv
  refine fw hF rfl ⟨?_,rfl⟩
  have hd:=of_decide_eq_false hh.symm
  have:¬(⟨⟨a0,a1⟩,⟨a2,a3⟩,⟨a4,a5⟩,⟨a6,a7⟩,⟨a8,a9⟩,⟨ha,hb⟩⟩:bh)=⟨⟨a0,a1⟩,⟨b2,b3⟩,⟨b4,b5⟩,⟨b6,b7⟩,⟨b8,b9⟩,⟨hc,he⟩⟩:=fun h=>hd (by simp only [bh.mk.injEq]at h;simp only [h])
  simp only [mkV,this,decide_false]
 have e1:=of_decide_eq_true hh.symm
 clear hh
 simp only [dy.mk.injEq,bh.mk.injEq,bS.mk.injEq,az.mk.injEq]at e1
 obtain⟨rfl,rfl⟩:=e1
 cbv
 (first|refine bv hg (bu (⟨a4,a5⟩:dy) (⟨b4,b5⟩:dy)) rfl (fun R2 hi=> ?_)|refine bd hg (bu (⟨a4,a5⟩:dy) (⟨b4,b5⟩:dy)) rfl (fun R2 hi=> ?_))
 cases R2
 case false=>
  cbv
  refine fw hF rfl ⟨?_,rfl⟩
  have hd:=of_decide_eq_false hi.symm
  have:¬(⟨⟨a0,a1⟩,⟨a2,a3⟩,⟨a4,a5⟩,⟨a6,a7⟩,⟨a8,a9⟩,⟨ha,hb⟩⟩:bh)=⟨⟨a0,a1⟩,⟨a2,a3⟩,⟨b4,b5⟩,⟨b6,b7⟩,⟨b8,b9⟩,⟨hc,he⟩⟩:=fun h=>hd (by simp only [bh.mk.injEq]at h;simp only [h])
  simp only [mkV,this,decide_false]
 have e2:=of_decide_eq_true hi.symm
 clear hi
 simp only [dy.mk.injEq,bh.mk.injEq,bS.mk.injEq,az.mk.injEq]at e2
 obtain⟨rfl,rfl⟩:=e2
 cbv
 (first|refine bv hg (bu (⟨a6,a7⟩:dy) (⟨b6,b7⟩:dy)) rfl (fun R3 hj=> ?_)|refine bd hg (bu (⟨a6,a7⟩:dy) (⟨b6,b7⟩:dy)) rfl (fun R3 hj=> ?_))
 cases R3
 case false=>
  cbv
  refine fw hF rfl ⟨?_,rfl⟩
  have hd:=of_decide_eq_false hj.symm
  have:¬(⟨⟨a0,a1⟩,⟨a2,a3⟩,⟨a4,a5⟩,⟨a6,a7⟩,⟨a8,a9⟩,⟨ha,hb⟩⟩:bh)=⟨⟨a0,a1⟩,⟨a2,a3⟩,⟨a4,a5⟩,⟨b6,b7⟩,⟨b8,b9⟩,⟨hc,he⟩⟩:=fun h=>hd (by simp only [bh.mk.injEq]at h;simp only [h])
  simp only [mkV,this,decide_false]
 have e3:=of_decide_eq_true hj.symm
 clear hj
 simp only [dy.mk.injEq,bh.mk.injEq,bS.mk.injEq,az.mk.injEq]at e3
 obtain⟨rfl,rfl⟩:=e3
 cbv
 (first|refine bv hg (bu (⟨a8,a9⟩:dy) (⟨b8,b9⟩:dy)) rfl (fun R4 hk=> ?_)|refine bd hg (bu (⟨a8,a9⟩:dy) (⟨b8,b9⟩:dy)) rfl (fun R4 hk=> ?_))
 cases R4
 case false=>
  cbv
  refine fw hF rfl ⟨?_,rfl⟩
  have hd:=of_decide_eq_false hk.symm
  have:¬(⟨⟨a0,a1⟩,⟨a2,a3⟩,⟨a4,a5⟩,⟨a6,a7⟩,⟨a8,a9⟩,⟨ha,hb⟩⟩:bh)=⟨⟨a0,a1⟩,⟨a2,a3⟩,⟨a4,a5⟩,⟨a6,a7⟩,⟨b8,b9⟩,⟨hc,he⟩⟩:=fun h=>hd (by simp only [bh.mk.injEq]at h;simp only [h])
  simp only [mkV,this,decide_false]
 have e4:=of_decide_eq_true hk.symm
 clear hk
 simp only [dy.mk.injEq,bh.mk.injEq,bS.mk.injEq,az.mk.injEq]at e4
 obtain⟨rfl,rfl⟩:=e4
 cbv
 (first|refine bv hg (bu (⟨ha,hb⟩:dy) (⟨hc,he⟩:dy)) rfl (fun R5 hl=> ?_)|refine bd hg (bu (⟨ha,hb⟩:dy) (⟨hc,he⟩:dy)) rfl (fun R5 hl=> ?_))
 cases R5
 case false=>
  cbv
  refine fw hF rfl ⟨?_,rfl⟩
  have hd:=of_decide_eq_false hl.symm
  have:¬(⟨⟨a0,a1⟩,⟨a2,a3⟩,⟨a4,a5⟩,⟨a6,a7⟩,⟨a8,a9⟩,⟨ha,hb⟩⟩:bh)=⟨⟨a0,a1⟩,⟨a2,a3⟩,⟨a4,a5⟩,⟨a6,a7⟩,⟨a8,a9⟩,⟨hc,he⟩⟩:=fun h=>hd (by simp only [bh.mk.injEq]at h;simp only [h])
  simp only [mkV,this,decide_false]
 have e5:=of_decide_eq_true hl.symm
 clear hl
 simp only [dy.mk.injEq,bh.mk.injEq,bS.mk.injEq,az.mk.injEq]at e5
 obtain⟨rfl,rfl⟩:=e5
 cbv
 exact fw hF rfl ⟨by simp [mkV],rfl⟩
theorem gF(x:bS):PC0 212 [.agg (lc (bS.c x))] (.t (.agg (lc (bS.c x)))):=by
 obtain⟨a0,a1,a2,a3⟩:=x
 refine ad (aM f212) ay func212 fun g F hg hF=> ?_
 cbv
 exact fw hF rfl ⟨rfl,rfl⟩
theorem mG(x y:bS):PC0 230 [.agg (lc (bS.c x)),.agg (lc (bS.c y))] (.t (abl (decide (x=y)))):=by
 obtain⟨a0,a1,a2,a3⟩:=x
 obtain⟨b0,b1,b2,b3⟩:=y
 refine ad (aM f230) ay func230 fun g F hg hF=> ?_
 cbv
 cases e0:g .q .neq a0 b0
 case true=>
  rw [bj hg,bne_iff_ne]at e0
  cbv
  exact fw hF rfl ⟨by simp [mkV,e0],rfl⟩
 rw [bj hg,zqq]at e0
 subst e0
 cbv
 cases e1:g .q .neq a1 b1
 case true=>
  rw [bj hg,bne_iff_ne]at e1
  cbv
  exact fw hF rfl ⟨by simp [mkV,e1],rfl⟩
 rw [bj hg,zqq]at e1
 subst e1
 cbv
 cases e2:g .q .neq a2 b2
 case true=>
  rw [bj hg,bne_iff_ne]at e2
  cbv
  exact fw hF rfl ⟨by simp [mkV,e2],rfl⟩
 rw [bj hg,zqq]at e2
 subst e2
 cbv
 cases e3:g .q .neq a3 b3
 case true=>
  rw [bj hg,bne_iff_ne]at e3
  cbv
  exact fw hF rfl ⟨by simp [mkV,e3],rfl⟩
 rw [bj hg,zqq]at e3
 subst e3
 cbv
 exact fw hF rfl ⟨by simp [mkV],rfl⟩
theorem jl(x:ao):PC0 145 [.agg (lc (ao.c x))] (.t (.agg (lc (ao.c x)))):=by
 obtain⟨a0,a1,a2,a3,a4,a5,a6,a7,a8,a9,hW,⟨ha,hb⟩,⟨hc,hd⟩,⟨he,hf⟩,⟨hh,hi⟩,⟨hj,hk⟩,⟨hl,hm⟩,⟨hn,ho⟩,hX,⟨⟨hp,hq⟩,⟨hr,hs⟩,⟨ht,hu⟩,⟨hv,hw⟩,⟨hx,hy⟩,⟨hz,hA⟩⟩,⟨⟨hB,hC⟩,⟨hD,hE⟩,⟨hG,hH⟩,⟨hI,hJ⟩,⟨hK,hL⟩,⟨hM,hN⟩⟩,⟨hO,hP,hQ,hR⟩,⟨hS,hT,hU,hV⟩,hY,hZ⟩:=x
 refine ad (aM f145) ay func145 fun g F hg hF=> ?_
 cbv
 (first|refine fU hg (aR (⟨ha,hb⟩:dy)) rfl rfl ?_|refine dT hg (aR (⟨ha,hb⟩:dy)) rfl rfl ?_)
 cbv
 (first|refine fU hg (aR (⟨hc,hd⟩:dy)) rfl rfl ?_|refine dT hg (aR (⟨hc,hd⟩:dy)) rfl rfl ?_)
 cbv
 (first|refine fU hg (aR (⟨he,hf⟩:dy)) rfl rfl ?_|refine dT hg (aR (⟨he,hf⟩:dy)) rfl rfl ?_)
 cbv
 (first|refine fU hg (aR (⟨hh,hi⟩:dy)) rfl rfl ?_|refine dT hg (aR (⟨hh,hi⟩:dy)) rfl rfl ?_)
 cbv
 (first|refine fU hg (aR (⟨hj,hk⟩:dy)) rfl rfl ?_|refine dT hg (aR (⟨hj,hk⟩:dy)) rfl rfl ?_)
 cbv
 (first|refine fU hg (aR (⟨hl,hm⟩:dy)) rfl rfl ?_|refine dT hg (aR (⟨hl,hm⟩:dy)) rfl rfl ?_)
 cbv
 (first|refine fU hg (aR (⟨hn,ho⟩:dy)) rfl rfl ?_|refine dT hg (aR (⟨hn,ho⟩:dy)) rfl rfl ?_)
 cbv
 (first|refine fU hg (gD (⟨⟨hp,hq⟩,⟨hr,hs⟩,⟨ht,hu⟩,⟨hv,hw⟩,⟨hx,hy⟩,⟨hz,hA⟩⟩:bh)) rfl rfl ?_|refine dT hg (gD (⟨⟨hp,hq⟩,⟨hr,hs⟩,⟨ht,hu⟩,⟨hv,hw⟩,⟨hx,hy⟩,⟨hz,hA⟩⟩:bh)) rfl rfl ?_)
 cbv
 (first|refine fU hg (gD (⟨⟨hB,hC⟩,⟨hD,hE⟩,⟨hG,hH⟩,⟨hI,hJ⟩,⟨hK,hL⟩,⟨hM,hN⟩⟩:bh)) rfl rfl ?_|refine dT hg (gD (⟨⟨hB,hC⟩,⟨hD,hE⟩,⟨hG,hH⟩,⟨hI,hJ⟩,⟨hK,hL⟩,⟨hM,hN⟩⟩:bh)) rfl rfl ?_)
 cbv
 (first|refine fU hg (gF (⟨hO,hP,hQ,hR⟩:bS)) rfl rfl ?_|refine dT hg (gF (⟨hO,hP,hQ,hR⟩:bS)) rfl rfl ?_)
 cbv
 (first|refine fU hg (gF (⟨hS,hT,hU,hV⟩:bS)) rfl rfl ?_|refine dT hg (gF (⟨hS,hT,hU,hV⟩:bS)) rfl rfl ?_)
 cbv
 exact fw hF rfl ⟨rfl,rfl⟩
theorem s8(x y:ao):PC0 171 [.agg (lc (ao.c x)),.agg (lc (ao.c y))] (.t (abl (decide (x=y)))):=by
 refine ad (aM f171) ay func171 fun g F hg hF=> ?_
 cbv
 iterate 25
  first
   |(
    generalize e:g .q .neq _ _=r
    cases r
    rotate_left
    ·rw [bj hg,bne_iff_ne]at e
     cbv
     exact fw hF rfl ⟨by simp [mkV,show¬x=y from fun h=>e (by rw [h])],rfl⟩
    rw [bj hg,zqq]at e)
   |(
    generalize e:g .qb .neq _ _=r
    cases r
    rotate_left
    ·rw [fS hg,bne_iff_ne]at e
     cbv
     exact fw hF rfl ⟨by simp [mkV,show¬x=y from fun h=>e (by rw [h])],rfl⟩
    rw [fS hg,zqq]at e)
   |(
    first|refine bv hg (bu _ _) rfl (fun R e=> ?_)|refine bd hg (bu _ _) rfl (fun R e=> ?_)|refine bv hg (mE _ _) rfl (fun R e=> ?_)|refine bd hg (mE _ _) rfl (fun R e=> ?_)|refine bv hg (mG _ _) rfl (fun R e=> ?_)|refine bd hg (mG _ _) rfl (fun R e=> ?_)
    cases R
    ·replace e:=of_decide_eq_false e.symm
     cbv
     exact fw hF rfl ⟨by simp [mkV,show¬x=y from fun h=>e (by rw [h])],rfl⟩
    replace e:=of_decide_eq_true e.symm)
  cbv
 obtain rfl:x=y:=by
  cases x
  cases y
  simp_all
 exact fw hF rfl ⟨by simp [mkV],rfl⟩
theorem vh(x:aK):PC0 263 [.agg (lc (aK.c x))] (.t (.agg (lc (aK.c x)))):=by
 obtain⟨a0,a1,a2⟩:=x
 refine ad (aM f263) ay func263 fun g F hg hF=> ?_
 cbv
 exact fw hF rfl ⟨rfl,rfl⟩
theorem vq(x y:aK):PC0 279 [.agg (lc (aK.c x)),.agg (lc (aK.c y))] (.t (abl (decide (x=y)))):=by
 obtain⟨a0,a1,a2⟩:=x
 obtain⟨b0,b1,b2⟩:=y
 refine ad (aM f279) ay func279 fun g F hg hF=> ?_
 cbv
 cases e0:g .q .neq a0 b0
 case true=>
  rw [bj hg,bne_iff_ne]at e0
  cbv
  exact fw hF rfl ⟨by simp [mkV,e0],rfl⟩
 rw [bj hg,zqq]at e0
 subst e0
 cbv
 cases e1:g .q .neq a1 b1
 case true=>
  rw [bj hg,bne_iff_ne]at e1
  cbv
  exact fw hF rfl ⟨by simp [mkV,e1],rfl⟩
 rw [bj hg,zqq]at e1
 subst e1
 cbv
 cases e2:g .q .neq a2 b2
 case true=>
  rw [bj hg,bne_iff_ne]at e2
  cbv
  exact fw hF rfl ⟨by simp [mkV,e2],rfl⟩
 rw [bj hg,zqq]at e2
 subst e2
 cbv
 exact fw hF rfl ⟨by simp [mkV],rfl⟩
theorem mC(x:az):PC0 10 [.agg (lc (az.c x))] (.t (.agg (lc (az.c x)))):=by
 obtain⟨a0,a1⟩:=x
 refine ad (aM f10) ay func10 fun g F hg hF=> ?_
 cbv
 exact fw hF rfl ⟨rfl,rfl⟩
theorem tc(x y:aD):PC0 101 [.agg (lc (aD.c x)),.agg (lc (aD.c y))] (.t (abl (decide (x=y)))):=by
 obtain⟨a0,a1,a2,a3,a4⟩:=x
 obtain⟨b0,b1,b2,b3,b4⟩:=y
 refine ad (aM f101) ay func101 fun g F hg hF=> ?_
 cbv
 cases e0:g .q .neq a0 b0
 case true=>
  rw [bj hg,bne_iff_ne]at e0
  cbv
  exact fw hF rfl ⟨by simp [mkV,e0],rfl⟩
 rw [bj hg,zqq]at e0
 subst e0
 cbv
 cases e1:g .q .neq a1 b1
 case true=>
  rw [bj hg,bne_iff_ne]at e1
  cbv
  exact fw hF rfl ⟨by simp [mkV,e1],rfl⟩
 rw [bj hg,zqq]at e1
 subst e1
 cbv
 cases e2:g .q .neq a2 b2
 case true=>
  rw [bj hg,bne_iff_ne]at e2
  cbv
  exact fw hF rfl ⟨by simp [mkV,e2],rfl⟩
 rw [bj hg,zqq]at e2
 subst e2
 cbv
 cases e3:g .q .neq a3 b3
 case true=>
  rw [bj hg,bne_iff_ne]at e3
  cbv
  exact fw hF rfl ⟨by simp [mkV,e3],rfl⟩
 rw [bj hg,zqq]at e3
 subst e3
 cbv
 cases e4:g .q .neq a4 b4
 case true=>
  rw [bj hg,bne_iff_ne]at e4
  cbv
  exact fw hF rfl ⟨by simp [mkV,e4],rfl⟩
 rw [bj hg,zqq]at e4
 subst e4
 cbv
 exact fw hF rfl ⟨by simp [mkV],rfl⟩
theorem sY(V:LLA)(L:Int)(hV:V.length<=9223372036854775807)(h0:0<=L)(h1:L<=1048576):PC0 193 [.c (.view V),ai L] (.i (szR (aN V) L)):=by
 obtain⟨M,hM⟩:=nmE (aN V)
 have ha:0<=M:=by rw [hM,ah];omega
 have hb:M<=9223372036854775807:=by rw [hM,ah];omega
 rw [<-hM]
 refine ad (aM f193) ay func193 fun g F hg hF=> ?_
 cbv
 have e1:g .w .sub .i64 L (g .ln V)=L-M:=by rw [dp hg,bz hg,<-hM,ak _ (by omega)]
 obtain⟨D,hD⟩:=nmE (L-M)
 rw [<-hD]at e1
 rw [e1]
 cases e:g .q .lss D 0
 ·rw [bg hg,zqo]at e
  cbv
  exact aV hF (by unfold szR;rw [<-hD,if_neg e])
 ·rw [bg hg,zqp]at e
  cbv
  exact aV hF (by unfold szR;rw [<-hD,if_pos e])
theorem mD(xs:List aK)(hl:xs.length<=1048576):da prog 213 [.c (.view (vw aK.c xs))] fun res ha=>∃ab,res= .o 0/\ha=[ab]/\(ab.es.all fun x=>x.all dt)=true/\ab=⟨193,3,vw aK.c xs⟩:=by
 obtain⟨V,hV⟩:=nmE (vw aK.c xs)
 have he:=lmV hV
 rw [<-hV]
 refine ad (aM f213) ay func213 fun g F hg hF=> ?_
 cbv
 refine Fz hg (by decide) (by rw [he];exact hl) ?_
 cbv
 have hd:qC 3 V (List.replicate (g .ln V).toNat [.J 0,.J 0,.J 0]) 0:=qC.start (k:=3) (z:=[.J 0,.J 0,.J 0]) rfl rfl (bz hg V)
 refine bO hg ay (by kernel_rfl) (fun s:Int×LLA=>[(0,.v V),(3,.o 0),(4,.i s.1)]) (fun s=>[.rw ⟨193,3,s.2⟩]) (fun s=>qC 3 V s.2 s.1) (fun s=>V.length-s.1.toNat)
  (0,g .rp (g .ln V) [.J 0,.J 0,.J 0]) [some 0] ?_ (wkS [0] (by decide) ⟨⟨_,rfl,rfl,?_⟩,trivial⟩ zr3) (fun s B hs hB=> ?_)
 ·simp only [yo hg];exact hd
 ·simp only [yo hg];exact hd.pl
 ·obtain⟨z,es⟩:=s
  simp only at hs
  have h0:=hs.z0
  have h1:=hs.z1
  cbv
  cases hc:g .q .lss z (g .ln V)
  ·cbv
   rw [bg hg,bz hg,zqo]at hc
   obtain rfl:=hs.done hc
   exact Ju _ hF rfl hs.pl ⟨_,rfl,rfl,hs.pl,by rw [hV]⟩
  ·cbv
   rw [bg hg,bz hg,zqp]at hc
   have hf:=ah V
   obtain⟨x,hx⟩:=pk (xs:=xs) h0 (by omega)
   have hy:V[z.toNat]? =some (lc (aK.c x)):=by rw [hV];exact ba hx
   obtain⟨a0,a1,a2⟩:=x
   refine goX hg _ h0 hy rfl ?_
   cbv
   refine ae hg (vh ⟨a0,a1,a2⟩) ?_
   cbv
   refine goY hg h0 (by have:=hs.len;have:=ah V;have:aN es=(es.length:Int):=rfl;show z<aN es;omega) (fun j hj hh=> ?_)
   cbv
   refine goN hg (hs.mem hh) ?_
   cbv
   have hf:=ah V
   have h2:g .w .add .i64 z 1=z+1:=by rw [aJ hg,ak _ (by omega)]
   rw [h2,jr hg]
   have hb:=hs.step hc hj hy rfl rfl
   exact gX hB (z+1,_) [some 0] (wkS [0] (by decide) ⟨⟨_,rfl,rfl,hb.pl⟩,trivial⟩ zr3) hb (by show V.length-(z+1).toNat<V.length-z.toNat;omega)
theorem s9(xs ys:List aK)(hl:xs.length<=1048576):PC0 231 [.c (.view (vw aK.c xs)),.c (.view (vw aK.c ys))] (.t (abl (decide (xs=ys)))):=by
 obtain⟨V,hV⟩:=nmE (vw aK.c xs)
 obtain⟨W,hW⟩:=nmE (vw aK.c ys)
 have hb:=lmV hV
 have hd:=lmV hW
 rw [<-hV,<-hW]
 refine ad (aM f231) ay func231 fun g F hg hF=> ?_
 cbv
 cases e0:g .q .neq (g .ln V) (g .ln W)
 case true=>
  rw [bj hg,bne_iff_ne,bz hg,bz hg]at e0
  cbv
  refine fw hF rfl ⟨?_,rfl⟩
  have:¬xs=ys:=fun h=>e0 (by rw [ah,ah,hb,hd,h])
  simp [mkV,this]
 rw [bj hg,zqq,bz hg,bz hg]at e0
 have hm:xs.length=ys.length:=by have:=ah V;have:=ah W;omega
 cbv
 refine bO hg ay (by kernel_rfl) (fun z:Int=>[(0,.v V),(1,.v W),(5,.i z)]) (fun _=>[]) (fun z=>0<=z/\z<=aN V/\∀i:Nat,i<z.toNat->xs[i]? =ys[i]?) (fun z=>xs.length-z.toNat)
  0 [] ⟨by omega,by have:=ah V;omega,fun i hi=>by simp at hi⟩ (wk0 zr3) (fun z B hs hB=> ?_)
 obtain⟨h0,h1,h2⟩:=hs
 cbv
 cases hc:g .q .lss z (g .ln V)
 ·cbv
  rw [bg hg,bz hg,zqo]at hc
  refine fw hF rfl ⟨?_,rfl⟩
  have:xs=ys:=by
   have ha:=ah V
   refine List.ext_getElem? fun i=> ?_
   by_cases hi:i<xs.length
   ·exact h2 i (by omega)
   ·rw [zqz (by omega),zqz (by omega)]
  simp [mkV,this]
 ·cbv
  rw [bg hg,bz hg,zqp]at hc
  have ha:=ah V
  obtain⟨x,hx⟩:=pk (xs:=xs) h0 (by omega)
  obtain⟨y,hy⟩:=pk (xs:=ys) h0 (by omega)
  have hh:V[z.toNat]? =some (lc (aK.c x)):=by rw [hV];exact ba hx
  have hk:W[z.toNat]? =some (lc (aK.c y)):=by rw [hW];exact ba hy
  have hf:¬x=y->¬xs=ys:=fun h he=>h (by subst he;rw [hx]at hy;exact Option.some.inj hy)
  obtain⟨a0,a1,a2⟩:=x
  obtain⟨b0,b1,b2⟩:=y
  refine goX hg _ h0 hh rfl ?_
  cbv
  refine goX hg _ h0 hk rfl ?_
  cbv
  refine aa hg (vq ⟨a0,a1,a2⟩ ⟨b0,b1,b2⟩) ?_
  cbv
  obtain⟨D,hD⟩:∃D:Bool,D=decide ((⟨a0,a1,a2⟩:aK)=⟨b0,b1,b2⟩):=⟨_,rfl⟩
  rw [<-hD]
  cases D
  ·cbv
   refine fw hF rfl ⟨?_,rfl⟩
   simp [mkV,hf (by simpa using hD.symm)]
  ·cbv
   have hj:(⟨a0,a1,a2⟩:aK)=⟨b0,b1,b2⟩:=by simpa using hD.symm
   have ha:=ah V
   have h3:g .w .add .i64 z 1=z+1:=by rw [aJ hg,ak _ (by omega)]
   rw [h3]
   refine gX hB (z+1) [] (wk0 zr3) ⟨by omega,by omega,fun i hi=> ?_⟩ (by omega)
   by_cases hi2:i<z.toNat
   ·exact h2 i hi2
   ·rw [show i=z.toNat by omega,hx,hy,hj]
theorem rL(xs ys:List aD)(hl:xs.length<=1048576):PC0 46 [.c (.view (vw aD.c xs)),.c (.view (vw aD.c ys))] (.t (abl (decide (xs=ys)))):=by
 obtain⟨V,hV⟩:=nmE (vw aD.c xs)
 obtain⟨W,hW⟩:=nmE (vw aD.c ys)
 have hb:=lmV hV
 have hd:=lmV hW
 rw [<-hV,<-hW]
 refine ad (aM f46) ay func46 fun g F hg hF=> ?_
 cbv
 cases e0:g .q .neq (g .ln V) (g .ln W)
 case true=>
  rw [bj hg,bne_iff_ne,bz hg,bz hg]at e0
  cbv
  refine fw hF rfl ⟨?_,rfl⟩
  have:¬xs=ys:=fun h=>e0 (by rw [ah,ah,hb,hd,h])
  simp [mkV,this]
 rw [bj hg,zqq,bz hg,bz hg]at e0
 have hm:xs.length=ys.length:=by have:=ah V;have:=ah W;omega
 cbv
 refine bO hg ay (by kernel_rfl) (fun z:Int=>[(0,.v V),(1,.v W),(5,.i z)]) (fun _=>[]) (fun z=>0<=z/\z<=aN V/\∀i:Nat,i<z.toNat->xs[i]? =ys[i]?) (fun z=>xs.length-z.toNat)
  0 [] ⟨by omega,by have:=ah V;omega,fun i hi=>by simp at hi⟩ (wk0 zr3) (fun z B hs hB=> ?_)
 obtain⟨h0,h1,h2⟩:=hs
 cbv
 cases hc:g .q .lss z (g .ln V)
 ·cbv
  rw [bg hg,bz hg,zqo]at hc
  refine fw hF rfl ⟨?_,rfl⟩
  have:xs=ys:=by
   have ha:=ah V
   refine List.ext_getElem? fun i=> ?_
   by_cases hi:i<xs.length
   ·exact h2 i (by omega)
   ·rw [zqz (by omega),zqz (by omega)]
  simp [mkV,this]
 ·cbv
  rw [bg hg,bz hg,zqp]at hc
  have ha:=ah V
  obtain⟨x,hx⟩:=pk (xs:=xs) h0 (by omega)
  obtain⟨y,hy⟩:=pk (xs:=ys) h0 (by omega)
  have hh:V[z.toNat]? =some (lc (aD.c x)):=by rw [hV];exact ba hx
  have hk:W[z.toNat]? =some (lc (aD.c y)):=by rw [hW];exact ba hy
  have hf:¬x=y->¬xs=ys:=fun h he=>h (by subst he;rw [hx]at hy;exact Option.some.inj hy)
  obtain⟨a0,a1,a2,a3,a4⟩:=x
  obtain⟨b0,b1,b2,b3,b4⟩:=y
  refine goX hg _ h0 hh rfl ?_
  cbv
  refine goX hg _ h0 hk rfl ?_
  cbv
  refine aa hg (tc ⟨a0,a1,a2,a3,a4⟩ ⟨b0,b1,b2,b3,b4⟩) ?_
  cbv
  obtain⟨D,hD⟩:∃D:Bool,D=decide ((⟨a0,a1,a2,a3,a4⟩:aD)=⟨b0,b1,b2,b3,b4⟩):=⟨_,rfl⟩
  rw [<-hD]
  cases D
  ·cbv
   refine fw hF rfl ⟨?_,rfl⟩
   simp [mkV,hf (by simpa using hD.symm)]
  ·cbv
   have hj:(⟨a0,a1,a2,a3,a4⟩:aD)=⟨b0,b1,b2,b3,b4⟩:=by simpa using hD.symm
   have ha:=ah V
   have h3:g .w .add .i64 z 1=z+1:=by rw [aJ hg,ak _ (by omega)]
   rw [h3]
   refine gX hB (z+1) [] (wk0 zr3) ⟨by omega,by omega,fun i hi=> ?_⟩ (by omega)
   by_cases hi2:i<z.toNat
   ·exact h2 i hi2
   ·rw [show i=z.toNat by omega,hx,hy,hj]
theorem vo(V:LLA)(L:Int)(hV:V.length<=9223372036854775807)(h0:0<=L)(h1:L<=1048576):PC0 117 [.c (.view V),ai L] (.i (szR (aN V) L)):=by
 obtain⟨M,hM⟩:=nmE (aN V)
 have ha:0<=M:=by rw [hM,ah];omega
 have hb:M<=9223372036854775807:=by rw [hM,ah];omega
 rw [<-hM]
 refine ad (aM f117) ay func117 fun g F hg hF=> ?_
 cbv
 have e1:g .w .sub .i64 L (g .ln V)=L-M:=by rw [dp hg,bz hg,<-hM,ak _ (by omega)]
 obtain⟨D,hD⟩:=nmE (L-M)
 rw [<-hD]at e1
 rw [e1]
 cases e:g .q .lss D 0
 ·rw [bg hg,zqo]at e
  cbv
  exact aV hF (by unfold szR;rw [<-hD,if_neg e])
 ·rw [bg hg,zqp]at e
  cbv
  exact aV hF (by unfold szR;rw [<-hD,if_pos e])
theorem nP(xs:List Int)(hl:xs.length<=1048576):da prog 144 [.c (.view (vw aj xs))] fun res ha=>∃ab,res= .o 0/\ha=[ab]/\(ab.es.all fun x=>x.all dt)=true/\ab=⟨3,1,vw aj xs⟩:=by
 obtain⟨V,hV⟩:=nmE (vw aj xs)
 have he:=lmV hV
 rw [<-hV]
 refine ad (aM f144) ay func144 fun g F hg hF=> ?_
 cbv
 refine Fz hg (by decide) (by rw [he];exact hl) ?_
 cbv
 have hd:qC 1 V (List.replicate (g .ln V).toNat [.J 0]) 0:=qC.start (k:=1) (z:=[.J 0]) rfl rfl (bz hg V)
 refine bO hg ay (by kernel_rfl) (fun s:Int×LLA=>[(0,.v V),(3,.o 0),(4,.i s.1)]) (fun s=>[.rw ⟨3,1,s.2⟩]) (fun s=>qC 1 V s.2 s.1) (fun s=>V.length-s.1.toNat)
  (0,g .rp (g .ln V) [.J 0]) [some 0] ?_ (wkS [0] (by decide) ⟨⟨_,rfl,rfl,?_⟩,trivial⟩ zr3) (fun s B hs hB=> ?_)
 ·simp only [yo hg];exact hd
 ·simp only [yo hg];exact hd.pl
 ·obtain⟨z,es⟩:=s
  simp only at hs
  have h0:=hs.z0
  have h1:=hs.z1
  cbv
  cases hc:g .q .lss z (g .ln V)
  ·cbv
   rw [bg hg,bz hg,zqo]at hc
   obtain rfl:=hs.done hc
   exact Ju _ hF rfl hs.pl ⟨_,rfl,rfl,hs.pl,by rw [hV]⟩
  ·cbv
   rw [bg hg,bz hg,zqp]at hc
   have hf:=ah V
   obtain⟨x,hx⟩:=pk (xs:=xs) h0 (by omega)
   have hy:V[z.toNat]? =some (lc (aj x)):=by rw [hV];exact ba hx
   refine goX hg _ h0 hy rfl ?_
   cbv
   refine goY hg h0 (by have:=hs.len;have:=ah V;have:aN es=(es.length:Int):=rfl;show z<aN es;omega) (fun j hj hh=> ?_)
   cbv
   refine goN hg (hs.mem hh) ?_
   cbv
   have hf:=ah V
   have h2:g .w .add .i64 z 1=z+1:=by rw [aJ hg,ak _ (by omega)]
   rw [h2,jr hg]
   have hb:=hs.step hc hj hy rfl rfl
   exact gX hB (z+1,_) [some 0] (wkS [0] (by decide) ⟨⟨_,rfl,rfl,hb.pl⟩,trivial⟩ zr3) hb (by show V.length-(z+1).toNat<V.length-z.toNat;omega)
theorem vt(xs ys:List Int)(hl:xs.length<=1048576):PC0 12 [.c (.view (vw aj xs)),.c (.view (vw aj ys))] (.t (abl (decide (xs=ys)))):=by
 obtain⟨V,hV⟩:=nmE (vw aj xs)
 obtain⟨W,hW⟩:=nmE (vw aj ys)
 have hb:=lmV hV
 have hd:=lmV hW
 rw [<-hV,<-hW]
 refine ad (aM f12) ay func12 fun g F hg hF=> ?_
 cbv
 cases e0:g .q .neq (g .ln V) (g .ln W)
 case true=>
  rw [bj hg,bne_iff_ne,bz hg,bz hg]at e0
  cbv
  refine fw hF rfl ⟨?_,rfl⟩
  have:¬xs=ys:=fun h=>e0 (by rw [ah,ah,hb,hd,h])
  simp [mkV,this]
 rw [bj hg,zqq,bz hg,bz hg]at e0
 have hm:xs.length=ys.length:=by have:=ah V;have:=ah W;omega
 cbv
 refine bO hg ay (by kernel_rfl) (fun z:Int=>[(0,.v V),(1,.v W),(5,.i z)]) (fun _=>[]) (fun z=>0<=z/\z<=aN V/\∀i:Nat,i<z.toNat->xs[i]? =ys[i]?) (fun z=>xs.length-z.toNat)
  0 [] ⟨by omega,by have:=ah V;omega,fun i hi=>by simp at hi⟩ (wk0 zr3) (fun z B hs hB=> ?_)
 obtain⟨h0,h1,h2⟩:=hs
 cbv
 cases hc:g .q .lss z (g .ln V)
 ·cbv
  rw [bg hg,bz hg,zqo]at hc
  refine fw hF rfl ⟨?_,rfl⟩
  have:xs=ys:=by
   have ha:=ah V
   refine List.ext_getElem? fun i=> ?_
   by_cases hi:i<xs.length
   ·exact h2 i (by omega)
   ·rw [zqz (by omega),zqz (by omega)]
  simp [mkV,this]
 ·cbv
  rw [bg hg,bz hg,zqp]at hc
  have ha:=ah V
  obtain⟨x,hx⟩:=pk (xs:=xs) h0 (by omega)
  obtain⟨y,hy⟩:=pk (xs:=ys) h0 (by omega)
  have hh:V[z.toNat]? =some (lc (aj x)):=by rw [hV];exact ba hx
  have hk:W[z.toNat]? =some (lc (aj y)):=by rw [hW];exact ba hy
  have hf:¬x=y->¬xs=ys:=fun h he=>h (by subst he;rw [hx]at hy;exact Option.some.inj hy)
  refine goX hg _ h0 hh rfl ?_
  cbv
  refine goX hg _ h0 hk rfl ?_
  cbv
  cases hD:g .q .neq x y
  ·cbv
   have hj:x=y:=by rw [bj hg,zqq]at hD;exact hD
   have ha:=ah V
   have h3:g .w .add .i64 z 1=z+1:=by rw [aJ hg,ak _ (by omega)]
   rw [h3]
   refine gX hB (z+1) [] (wk0 zr3) ⟨by omega,by omega,fun i hi=> ?_⟩ (by omega)
   by_cases hi2:i<z.toNat
   ·exact h2 i hi2
   ·rw [show i=z.toNat by omega,hx,hy,hj]
  ·cbv
   refine fw hF rfl ⟨?_,rfl⟩
   simp [mkV,hf (by rw [bj hg,bne_iff_ne]at hD;exact hD)]
def il(n l m:Int):Int:=if(if m<0 then n else if m<n then m else n)<l then l else if m<0 then n else if m<n then m else n
def xT(f:α->Int)(xs:List α)(n:Nat):Int:=((xs.take n).map f).sum
theorem jz(f:α->Int)(xs:List α):xT f xs 0=0:=by simp [xT]
theorem jA(f:α->Int){n:Nat}{x:α}(h:xs[n]? =some x):xT f xs (n+1)=xT f xs n+f x:=by
 simp [xT,List.take_add_one,h]
theorem lU(f:α->Int){n:Nat}(h:xs.length<=n):xT f xs n=(xs.map f).sum:=by
 rw [xT,List.take_of_length_le h]
theorem m8(a b:Int):wrap64 (wrap64 a+b)=wrap64 (a+b):=by unfold wrap64;omega
theorem tG(a b:Int):wrap64 (a+wrap64 b)=wrap64 (a+b):=by unfold wrap64;omega
theorem Dg{c:α->Array Value}(hk:∀x,(c x).size=k):∀y∈vw c xs,y.length=k:=by
 intro y hy
 simp only [vw,List.mem_map]at hy
 obtain⟨x,_,rfl⟩:=hy
 rw [H6];exact hk x
theorem kmV{c:α->Array Value}(h:V=vw c xs)(hk:∀x,(c x).size=k):∀y∈V,y.length=k:=by rw [h];exact Dg hk
theorem H7(a:Array Value):(lc a).all dat=true:=by simp [lc,dat]
theorem tH{c:α->Array Value}:∀y∈vw c xs,y.all dat=true:=by
 intro y hy
 simp only [vw,List.mem_map]at hy
 obtain⟨x,_,rfl⟩:=hy
 exact H7 _
theorem dmV{c:α->Array Value}(h:V=vw c xs):∀y∈V,y.all dat=true:=by rw [h];exact tH
def hyp(x:af):Int:=il x.base x.least x.most
theorem jK(n l m:Int):PC0 190 [ai n,ai l,ai m] (.i (il n l m)):=by
 refine ad (aM f190) ay func190 fun g F hg hF=> ?_
 cbv
 cases e1:g .q .geq m 0
 ·rw [iO hg,zqo]at e1
  cbv
  cases e3:g .q .lss n l
  ·rw [bg hg,zqo]at e3
   cbv
   exact aV hF (by unfold il;omega)
  ·rw [bg hg,zqp]at e3
   cbv
   exact aV hF (by unfold il;omega)
 ·rw [iO hg,zqp]at e1
  cbv
  cases e2:g .q .gtr n m
  ·rw [cj hg,zqo]at e2
   cbv
   cases e3:g .q .lss n l
   ·rw [bg hg,zqo]at e3
    cbv
    exact aV hF (by unfold il;omega)
   ·rw [bg hg,zqp]at e3
    cbv
    exact aV hF (by unfold il;omega)
  ·rw [cj hg,zqp]at e2
   cbv
   cases e3:g .q .lss m l
   ·rw [bg hg,zqo]at e3
    cbv
    exact aV hF (by unfold il;omega)
   ·rw [bg hg,zqp]at e3
    cbv
    exact aV hF (by unfold il;omega)
theorem jX(n l m:Int):PC0 192 [ai n,ai l,ai m] (.i (il n l m)):=by
 refine ad (aM f192) ay func192 fun g F hg hF=> ?_
 cbv
 cases e1:g .q .geq m 0
 ·rw [iO hg,zqo]at e1
  cbv
  exact aV hF (by rw [Fy hg];unfold il;omega)
 ·rw [iO hg,zqp]at e1
  cbv
  exact aV hF (by rw [Fy hg,I7 hg];unfold il;omega)
theorem iU(x:af):PC0 259 [.agg (lc (af.c x))] (.i (hyp x)):=by
 obtain⟨a0,a1,a2,a3,a4,a5,a6,a7,a8⟩:=x
 obtain⟨R,hR⟩:=nmE (il a0 a1 a2)
 have hc:=jK a0 a1 a2
 rw [<-hR]at hc
 refine ad (aM f259) ay func259 fun g F hg hF=> ?_
 cbv
 refine ae hg hc ?_
 cbv
 exact aV hF (by rw [hR];rfl)
theorem i8(x:af):PC0 222 [.agg (lc (af.c x))] (.i (hyp x)):=by
 obtain⟨a0,a1,a2,a3,a4,a5,a6,a7,a8⟩:=x
 obtain⟨R,hR⟩:=nmE (il a0 a1 a2)
 have hc:=jX a0 a1 a2
 rw [<-hR]at hc
 refine ad (aM f222) ay func222 fun g F hg hF=> ?_
 cbv
 refine ae hg hc ?_
 cbv
 exact aV hF (by rw [hR];rfl)
end Go.Proofs.YtkicjdeddpihaaaGreat
