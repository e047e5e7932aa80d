/- Lines of items: lengths within bounds, sums over a line. -/
import Derived.Test.YtkicjdeddpihaaaGreatS1at
set_option linter.unusedVariables false
set_option linter.unusedSimpArgs false
set_option maxHeartbeats 8000000
namespace Go.Proofs.YtkicjdeddpihaaaGreat
open Go.ChangeShapes Go.WideShapes Go.ChangeAt Go.RowKit Am Go.Proofs.Tryz
set_option maxRecDepth 100000
abbrev ai(n:Int):AT:= .c (.J n)
abbrev abl(b:Bool):AT:= .c (.B b)
theorem Ik(a:Array Value):(lc a).length=a.size:=by simp [lc]
theorem Ec(a:Array Value):(lc a).all dr=true:=by simp [lc,dr]
variable {α:Type}
theorem aG(c:α->Array Value)(xs:List α):aC (vw c xs)=true:=by
 simp only [aC,vw,List.all_map,zqf]
 intro x _
 exact Ec _
variable {xs:List α}{V:LLA}
theorem pmV{c:α->Array Value}(h:V=vw c xs):aC V=true:=by rw [h];exact aG _ _
theorem HQ{es:List α}{j i:Nat}{x:α}(hj:j<es.length):(es.set j x)[i]? =if i=j then some x else es[i]? :=by
 rw [List.getElem?_set]
 by_cases h:j=i
 ·subst h;simp [hj]
 ·rw [if_neg h,if_neg (fun h'=>h h'.symm)]
structure qM(k:Nat)(V es:LLA)(z:Int):Prop where
 z0:0<=z
 z1:z<=aM V
 len:es.length=V.length
 ks:∀e∈es,e.length=k
 pl:aC es=true
 eq:∀i:Nat,i<z.toNat->es[i]? =V[i]?
variable {k:Nat}
theorem qM.start{z:List AC}(hk:z.length=k)(hp:z.all dr=true){n:Int}(hn:n=aM V):qM k V (List.replicate n.toNat z) 0:=
 ⟨by omega,by have:=ah V;omega,by have:=ah V;simp;omega,fun e he=>by rw [(List.mem_replicate.1 he).2];exact hk,by simp [aC,hp],fun i hi=>by simp at hi⟩
variable {z:Int}
theorem qM.step{V es:LLA}{j:Nat}{y:List AC}(h:qM k V es z)(hz:z<aM V)(hj:j=z.toNat)(hy:V[z.toNat]? =some y)(hk:y.length=k)(hp:y.all dr=true):qM k V (es.set j y) (z+1):=by
 have:=h.z0
 have:=h.len
 have:=ah V
 refine⟨by omega,by omega,by simpa using h.len,fun e he=> ?_,?_,fun i hi=> ?_⟩
 ·rcases List.mem_or_eq_of_mem_set he with h1|rfl
  ·exact h.ks e h1
  ·exact hk
 ·rw [aC,zqf]
  intro e he
  rcases List.mem_or_eq_of_mem_set he with h1|rfl
  ·exact List.all_eq_true.1 h.pl e h1
  ·exact hp
 ·rw [HQ (by omega)]
  by_cases hij:i=j
  ·rw [if_pos hij,hij,hj,hy]
  ·rw [if_neg hij];exact h.eq i (by omega)
theorem qM.done{V es:LLA}(h:qM k V es z)(hz:¬z<aM V):es=V:=by
 have:=ah V
 have:=h.z1
 have:=h.len
 refine List.ext_getElem? fun i=> ?_
 by_cases hi:i<V.length
 ·exact h.eq i (by omega)
 ·rw [zqz (by omega),zqz (by omega)]
theorem qM.mem{V es:LLA}(h:qM k V es z){j:Nat}(hj:j<es.length):∃e,es[j]? =some e/\e.length=k:=⟨es[j],zqc hj,h.ks _ (List.getElem_mem hj)⟩
def szR(n left:Int):Int:=if left-n<0 then-1 else left-n
theorem aq(n:Int)(h: -9223372036854775808<=n/\n<=9223372036854775807):wrap64 n=n:=IntWalk.wrap64_in n h
theorem aQ(x:dx):PC0 210 [.agg (lc (dx.c x))] (.t (.agg (lc (dx.c x)))):=by
 obtain⟨a0,a1⟩:=x
 refine ae (aK f210) ay func210 fun g F hg hF=> ?_
 cbv
 exact fi hF rfl ⟨rfl,rfl⟩
theorem bv(x y:dx):PC0 228 [.agg (lc (dx.c x)),.agg (lc (dx.c y))] (.t (abl (decide (x=y)))):=by
 obtain⟨a0,a1⟩:=x
 obtain⟨b0,b1⟩:=y
 refine ae (aK f228) ay func228 fun g F hg hF=> ?_
 cbv
 cases e0:g .q .neq a0 b0
 case true=>
  rw [bh hg,bne_iff_ne]at e0
  cbv
  exact fi hF rfl ⟨by simp [mkV,e0],rfl⟩
 rw [bh hg,zqq]at e0
 subst e0
 cbv
 cases e1:g .q .neq a1 b1
 case true=>
  rw [bh hg,bne_iff_ne]at e1
  cbv
  exact fi hF rfl ⟨by simp [mkV,e1],rfl⟩
 rw [bh hg,zqq]at e1
 subst e1
 cbv
 exact fi hF rfl ⟨by simp [mkV],rfl⟩
theorem gH(x:bi):PC0 211 [.agg (lc (bi.c x))] (.t (.agg (lc (bi.c x)))):=by
 obtain⟨⟨a0,a1⟩,⟨a2,a3⟩,⟨a4,a5⟩,⟨a6,a7⟩,⟨a8,a9⟩,⟨ha,hb⟩⟩:=x
 refine ae (aK f211) ay func211 fun g F hg hF=> ?_
 cbv
 (first|refine fW hg (aQ (⟨a0,a1⟩:dx)) rfl rfl ?_|refine dT hg (aQ (⟨a0,a1⟩:dx)) rfl rfl ?_)
 cbv
 (first|refine fW hg (aQ (⟨a2,a3⟩:dx)) rfl rfl ?_|refine dT hg (aQ (⟨a2,a3⟩:dx)) rfl rfl ?_)
 cbv
 (first|refine fW hg (aQ (⟨a4,a5⟩:dx)) rfl rfl ?_|refine dT hg (aQ (⟨a4,a5⟩:dx)) rfl rfl ?_)
 cbv
 (first|refine fW hg (aQ (⟨a6,a7⟩:dx)) rfl rfl ?_|refine dT hg (aQ (⟨a6,a7⟩:dx)) rfl rfl ?_)
 cbv
 (first|refine fW hg (aQ (⟨a8,a9⟩:dx)) rfl rfl ?_|refine dT hg (aQ (⟨a8,a9⟩:dx)) rfl rfl ?_)
 cbv
 (first|refine fW hg (aQ (⟨ha,hb⟩:dx)) rfl rfl ?_|refine dT hg (aQ (⟨ha,hb⟩:dx)) rfl rfl ?_)
 cbv
 exact fi hF rfl ⟨rfl,rfl⟩
theorem mK(x y:bi):PC0 229 [.agg (lc (bi.c x)),.agg (lc (bi.c y))] (.t (abl (decide (x=y)))):=by
 obtain⟨⟨a0,a1⟩,⟨a2,a3⟩,⟨a4,a5⟩,⟨a6,a7⟩,⟨a8,a9⟩,⟨ha,hb⟩⟩:=x
 obtain⟨⟨b0,b1⟩,⟨b2,b3⟩,⟨b4,b5⟩,⟨b6,b7⟩,⟨b8,b9⟩,⟨hc,he⟩⟩:=y
 refine ae (aK f229) ay func229 fun g F hg hF=> ?_
 cbv
 (first|refine bz hg (bv (⟨a0,a1⟩:dx) (⟨b0,b1⟩:dx)) rfl (fun R0 hf=> ?_)|refine bd hg (bv (⟨a0,a1⟩:dx) (⟨b0,b1⟩:dx)) rfl (fun R0 hf=> ?_))
 cases R0
 case false=>
  cbv
  refine fi hF rfl ⟨?_,rfl⟩
  have hd:=of_decide_eq_false hf.symm
  have:¬(⟨⟨a0,a1⟩,⟨a2,a3⟩,⟨a4,a5⟩,⟨a6,a7⟩,⟨a8,a9⟩,⟨ha,hb⟩⟩:bi)=⟨⟨b0,b1⟩,⟨b2,b3⟩,⟨b4,b5⟩,⟨b6,b7⟩,⟨b8,b9⟩,⟨hc,he⟩⟩:=fun h=>hd (by simp only [bi.mk.injEq]at h;simp only [h])
  simp only [mkV,this,decide_false]
 have e0:=of_decide_eq_true hf.symm
 clear hf
 simp only [dx.mk.injEq,bi.mk.injEq,bU.mk.injEq,az.mk.injEq]at e0
 obtain⟨rfl,rfl⟩:=e0
 cbv
 (first|refine bz hg (bv (⟨a2,a3⟩:dx) (⟨b2,b3⟩:dx)) rfl (fun R1 hh=> ?_)|refine bd hg (bv (⟨a2,a3⟩:dx) (⟨b2,b3⟩:dx)) rfl (fun R1 hh=> ?_))
 cases R1
 case false=>
  cbv
  refine fi hF rfl ⟨?_,rfl⟩
  have hd:=of_decide_eq_false hh.symm
  have:¬(⟨⟨a0,a1⟩,⟨a2,a3⟩,⟨a4,a5⟩,⟨a6,a7⟩,⟨a8,a9⟩,⟨ha,hb⟩⟩:bi)=⟨⟨a0,a1⟩,⟨b2,b3⟩,⟨b4,b5⟩,⟨b6,b7⟩,⟨b8,b9⟩,⟨hc,he⟩⟩:=fun h=>hd (by simp only [bi.mk.injEq]at h;simp only [h])
  simp only [mkV,this,decide_false]
 have e1:=of_decide_eq_true hh.symm
 clear hh
 simp only [dx.mk.injEq,bi.mk.injEq,bU.mk.injEq,az.mk.injEq]at e1
 obtain⟨rfl,rfl⟩:=e1
 cbv
 (first|refine bz hg (bv (⟨a4,a5⟩:dx) (⟨b4,b5⟩:dx)) rfl (fun R2 hi=> ?_)|refine bd hg (bv (⟨a4,a5⟩:dx) (⟨b4,b5⟩:dx)) rfl (fun R2 hi=> ?_))
 cases R2
 case false=>
  cbv
  refine fi hF rfl ⟨?_,rfl⟩
  have hd:=of_decide_eq_false hi.symm
  have:¬(⟨⟨a0,a1⟩,⟨a2,a3⟩,⟨a4,a5⟩,⟨a6,a7⟩,⟨a8,a9⟩,⟨ha,hb⟩⟩:bi)=⟨⟨a0,a1⟩,⟨a2,a3⟩,⟨b4,b5⟩,⟨b6,b7⟩,⟨b8,b9⟩,⟨hc,he⟩⟩:=fun h=>hd (by simp only [bi.mk.injEq]at h;simp only [h])
  simp only [mkV,this,decide_false]
 have e2:=of_decide_eq_true hi.symm
 clear hi
 simp only [dx.mk.injEq,bi.mk.injEq,bU.mk.injEq,az.mk.injEq]at e2
 obtain⟨rfl,rfl⟩:=e2
 cbv
 (first|refine bz hg (bv (⟨a6,a7⟩:dx) (⟨b6,b7⟩:dx)) rfl (fun R3 hj=> ?_)|refine bd hg (bv (⟨a6,a7⟩:dx) (⟨b6,b7⟩:dx)) rfl (fun R3 hj=> ?_))
 cases R3
 case false=>
  cbv
  refine fi hF rfl ⟨?_,rfl⟩
  have hd:=of_decide_eq_false hj.symm
  have:¬(⟨⟨a0,a1⟩,⟨a2,a3⟩,⟨a4,a5⟩,⟨a6,a7⟩,⟨a8,a9⟩,⟨ha,hb⟩⟩:bi)=⟨⟨a0,a1⟩,⟨a2,a3⟩,⟨a4,a5⟩,⟨b6,b7⟩,⟨b8,b9⟩,⟨hc,he⟩⟩:=fun h=>hd (by simp only [bi.mk.injEq]at h;simp only [h])
  simp only [mkV,this,decide_false]
 have e3:=of_decide_eq_true hj.symm
 clear hj
 simp only [dx.mk.injEq,bi.mk.injEq,bU.mk.injEq,az.mk.injEq]at e3
 obtain⟨rfl,rfl⟩:=e3
 cbv
 (first|refine bz hg (bv (⟨a8,a9⟩:dx) (⟨b8,b9⟩:dx)) rfl (fun R4 hk=> ?_)|refine bd hg (bv (⟨a8,a9⟩:dx) (⟨b8,b9⟩:dx)) rfl (fun R4 hk=> ?_))
 cases R4
 case false=>
  cbv
  refine fi hF rfl ⟨?_,rfl⟩
  have hd:=of_decide_eq_false hk.symm
  have:¬(⟨⟨a0,a1⟩,⟨a2,a3⟩,⟨a4,a5⟩,⟨a6,a7⟩,⟨a8,a9⟩,⟨ha,hb⟩⟩:bi)=⟨⟨a0,a1⟩,⟨a2,a3⟩,⟨a4,a5⟩,⟨a6,a7⟩,⟨b8,b9⟩,⟨hc,he⟩⟩:=fun h=>hd (by simp only [bi.mk.injEq]at h;simp only [h])
  simp only [mkV,this,decide_false]
 have e4:=of_decide_eq_true hk.symm
 clear hk
 simp only [dx.mk.injEq,bi.mk.injEq,bU.mk.injEq,az.mk.injEq]at e4
 obtain⟨rfl,rfl⟩:=e4
 cbv
 (first|refine bz hg (bv (⟨ha,hb⟩:dx) (⟨hc,he⟩:dx)) rfl (fun R5 hl=> ?_)|refine bd hg (bv (⟨ha,hb⟩:dx) (⟨hc,he⟩:dx)) rfl (fun R5 hl=> ?_))
 cases R5
 case false=>
  cbv
  refine fi hF rfl ⟨?_,rfl⟩
  have hd:=of_decide_eq_false hl.symm
  have:¬(⟨⟨a0,a1⟩,⟨a2,a3⟩,⟨a4,a5⟩,⟨a6,a7⟩,⟨a8,a9⟩,⟨ha,hb⟩⟩:bi)=⟨⟨a0,a1⟩,⟨a2,a3⟩,⟨a4,a5⟩,⟨a6,a7⟩,⟨a8,a9⟩,⟨hc,he⟩⟩:=fun h=>hd (by simp only [bi.mk.injEq]at h;simp only [h])
  simp only [mkV,this,decide_false]
 have e5:=of_decide_eq_true hl.symm
 clear hl
 simp only [dx.mk.injEq,bi.mk.injEq,bU.mk.injEq,az.mk.injEq]at e5
 obtain⟨rfl,rfl⟩:=e5
 cbv
 exact fi hF rfl ⟨by simp [mkV],rfl⟩
theorem gI(x:bU):PC0 212 [.agg (lc (bU.c x))] (.t (.agg (lc (bU.c x)))):=by
 obtain⟨a0,a1,a2,a3⟩:=x
 refine ae (aK f212) ay func212 fun g F hg hF=> ?_
 cbv
 exact fi hF rfl ⟨rfl,rfl⟩
theorem mL(x y:bU):PC0 230 [.agg (lc (bU.c x)),.agg (lc (bU.c y))] (.t (abl (decide (x=y)))):=by
 obtain⟨a0,a1,a2,a3⟩:=x
 obtain⟨b0,b1,b2,b3⟩:=y
 refine ae (aK f230) ay func230 fun g F hg hF=> ?_
 cbv
 cases e0:g .q .neq a0 b0
 case true=>
  rw [bh hg,bne_iff_ne]at e0
  cbv
  exact fi hF rfl ⟨by simp [mkV,e0],rfl⟩
 rw [bh hg,zqq]at e0
 subst e0
 cbv
 cases e1:g .q .neq a1 b1
 case true=>
  rw [bh hg,bne_iff_ne]at e1
  cbv
  exact fi hF rfl ⟨by simp [mkV,e1],rfl⟩
 rw [bh hg,zqq]at e1
 subst e1
 cbv
 cases e2:g .q .neq a2 b2
 case true=>
  rw [bh hg,bne_iff_ne]at e2
  cbv
  exact fi hF rfl ⟨by simp [mkV,e2],rfl⟩
 rw [bh hg,zqq]at e2
 subst e2
 cbv
 cases e3:g .q .neq a3 b3
 case true=>
  rw [bh hg,bne_iff_ne]at e3
  cbv
  exact fi hF rfl ⟨by simp [mkV,e3],rfl⟩
 rw [bh hg,zqq]at e3
 subst e3
 cbv
 exact fi hF rfl ⟨by simp [mkV],rfl⟩
theorem jo(x:ak):PC0 145 [.agg (lc (ak.c x))] (.t (.agg (lc (ak.c x)))):=by
 obtain⟨a0,a1,a2,a3,a4,a5,a6,a7,a8,a9,hW,⟨ha,hb⟩,⟨hc,hd⟩,⟨he,hf⟩,⟨hh,hi⟩,⟨hj,hk⟩,⟨hl,hm⟩,⟨hn,ho⟩,hX,⟨⟨hp,hq⟩,⟨hr,hs⟩,⟨ht,hu⟩,⟨hv,hw⟩,⟨hx,hy⟩,⟨hz,hA⟩⟩,⟨⟨hB,hC⟩,⟨hD,hE⟩,⟨hG,hH⟩,⟨hI,hJ⟩,⟨hK,hL⟩,⟨hM,hN⟩⟩,⟨hO,hP,hQ,hR⟩,⟨hS,hT,hU,hV⟩,hY,hZ⟩:=x
 refine ae (aK f145) ay func145 fun g F hg hF=> ?_
 cbv
 (first|refine fW hg (aQ (⟨ha,hb⟩:dx)) rfl rfl ?_|refine dT hg (aQ (⟨ha,hb⟩:dx)) rfl rfl ?_)
 cbv
 (first|refine fW hg (aQ (⟨hc,hd⟩:dx)) rfl rfl ?_|refine dT hg (aQ (⟨hc,hd⟩:dx)) rfl rfl ?_)
 cbv
 (first|refine fW hg (aQ (⟨he,hf⟩:dx)) rfl rfl ?_|refine dT hg (aQ (⟨he,hf⟩:dx)) rfl rfl ?_)
 cbv
 (first|refine fW hg (aQ (⟨hh,hi⟩:dx)) rfl rfl ?_|refine dT hg (aQ (⟨hh,hi⟩:dx)) rfl rfl ?_)
 cbv
 (first|refine fW hg (aQ (⟨hj,hk⟩:dx)) rfl rfl ?_|refine dT hg (aQ (⟨hj,hk⟩:dx)) rfl rfl ?_)
 cbv
 (first|refine fW hg (aQ (⟨hl,hm⟩:dx)) rfl rfl ?_|refine dT hg (aQ (⟨hl,hm⟩:dx)) rfl rfl ?_)
 cbv
 (first|refine fW hg (aQ (⟨hn,ho⟩:dx)) rfl rfl ?_|refine dT hg (aQ (⟨hn,ho⟩:dx)) rfl rfl ?_)
 cbv
 (first|refine fW hg (gH (⟨⟨hp,hq⟩,⟨hr,hs⟩,⟨ht,hu⟩,⟨hv,hw⟩,⟨hx,hy⟩,⟨hz,hA⟩⟩:bi)) rfl rfl ?_|refine dT hg (gH (⟨⟨hp,hq⟩,⟨hr,hs⟩,⟨ht,hu⟩,⟨hv,hw⟩,⟨hx,hy⟩,⟨hz,hA⟩⟩:bi)) rfl rfl ?_)
 cbv
 (first|refine fW hg (gH (⟨⟨hB,hC⟩,⟨hD,hE⟩,⟨hG,hH⟩,⟨hI,hJ⟩,⟨hK,hL⟩,⟨hM,hN⟩⟩:bi)) rfl rfl ?_|refine dT hg (gH (⟨⟨hB,hC⟩,⟨hD,hE⟩,⟨hG,hH⟩,⟨hI,hJ⟩,⟨hK,hL⟩,⟨hM,hN⟩⟩:bi)) rfl rfl ?_)
 cbv
 (first|refine fW hg (gI (⟨hO,hP,hQ,hR⟩:bU)) rfl rfl ?_|refine dT hg (gI (⟨hO,hP,hQ,hR⟩:bU)) rfl rfl ?_)
 cbv
 (first|refine fW hg (gI (⟨hS,hT,hU,hV⟩:bU)) rfl rfl ?_|refine dT hg (gI (⟨hS,hT,hU,hV⟩:bU)) rfl rfl ?_)
 cbv
 exact fi hF rfl ⟨rfl,rfl⟩
theorem tj(x y:ak):PC0 171 [.agg (lc (ak.c x)),.agg (lc (ak.c y))] (.t (abl (decide (x=y)))):=by
 refine ae (aK f171) ay func171 fun g F hg hF=> ?_
 cbv
 iterate 25
  first
   |(
    generalize e:g .q .neq _ _=r
    cases r
    rotate_left
    ·rw [bh hg,bne_iff_ne]at e
     cbv
     exact fi hF rfl ⟨by simp [mkV,show¬x=y from fun h=>e (by rw [h])],rfl⟩
    rw [bh hg,zqq]at e)
   |(
    generalize e:g .qb .neq _ _=r
    cases r
    rotate_left
    ·rw [eY hg,bne_iff_ne]at e
     cbv
     exact fi hF rfl ⟨by simp [mkV,show¬x=y from fun h=>e (by rw [h])],rfl⟩
    rw [eY hg,zqq]at e)
   |(
    first|refine bz hg (bv _ _) rfl (fun R e=> ?_)|refine bd hg (bv _ _) rfl (fun R e=> ?_)|refine bz hg (mK _ _) rfl (fun R e=> ?_)|refine bd hg (mK _ _) rfl (fun R e=> ?_)|refine bz hg (mL _ _) rfl (fun R e=> ?_)|refine bd hg (mL _ _) rfl (fun R e=> ?_)
    cases R
    ·replace e:=of_decide_eq_false e.symm
     cbv
     exact fi hF rfl ⟨by simp [mkV,show¬x=y from fun h=>e (by rw [h])],rfl⟩
    replace e:=of_decide_eq_true e.symm)
  cbv
 obtain rfl:x=y:=by
  cases x
  cases y
  simp_all
 exact fi hF rfl ⟨by simp [mkV],rfl⟩
theorem vq(x:aI):PC0 263 [.agg (lc (aI.c x))] (.t (.agg (lc (aI.c x)))):=by
 obtain⟨a0,a1,a2⟩:=x
 refine ae (aK f263) ay func263 fun g F hg hF=> ?_
 cbv
 exact fi hF rfl ⟨rfl,rfl⟩
theorem vA(x y:aI):PC0 279 [.agg (lc (aI.c x)),.agg (lc (aI.c y))] (.t (abl (decide (x=y)))):=by
 obtain⟨a0,a1,a2⟩:=x
 obtain⟨b0,b1,b2⟩:=y
 refine ae (aK f279) ay func279 fun g F hg hF=> ?_
 cbv
 cases e0:g .q .neq a0 b0
 case true=>
  rw [bh hg,bne_iff_ne]at e0
  cbv
  exact fi hF rfl ⟨by simp [mkV,e0],rfl⟩
 rw [bh hg,zqq]at e0
 subst e0
 cbv
 cases e1:g .q .neq a1 b1
 case true=>
  rw [bh hg,bne_iff_ne]at e1
  cbv
  exact fi hF rfl ⟨by simp [mkV,e1],rfl⟩
 rw [bh hg,zqq]at e1
 subst e1
 cbv
 cases e2:g .q .neq a2 b2
 case true=>
  rw [bh hg,bne_iff_ne]at e2
  cbv
  exact fi hF rfl ⟨by simp [mkV,e2],rfl⟩
 rw [bh hg,zqq]at e2
 subst e2
 cbv
 exact fi hF rfl ⟨by simp [mkV],rfl⟩
theorem mI(x:az):PC0 10 [.agg (lc (az.c x))] (.t (.agg (lc (az.c x)))):=by
 obtain⟨a0,a1⟩:=x
 refine ae (aK f10) ay func10 fun g F hg hF=> ?_
 cbv
 exact fi hF rfl ⟨rfl,rfl⟩
theorem vD(x y:af):PC0 52 [.agg (lc (af.c x)),.agg (lc (af.c y))] (.t (abl (decide (x=y)))):=by
 obtain⟨a0,a1,a2,a3,a4,a5,a6,a7,a8⟩:=x
 obtain⟨b0,b1,b2,b3,b4,b5,b6,b7,b8⟩:=y
 refine ae (aK f52) ay func52 fun g F hg hF=> ?_
 cbv
 cases e0:g .q .neq a0 b0
 case true=>
  rw [bh hg,bne_iff_ne]at e0
  cbv
  exact fi hF rfl ⟨by simp [mkV,e0],rfl⟩
 rw [bh hg,zqq]at e0
 subst e0
 cbv
 cases e1:g .q .neq a1 b1
 case true=>
  rw [bh hg,bne_iff_ne]at e1
  cbv
  exact fi hF rfl ⟨by simp [mkV,e1],rfl⟩
 rw [bh hg,zqq]at e1
 subst e1
 cbv
 cases e2:g .q .neq a2 b2
 case true=>
  rw [bh hg,bne_iff_ne]at e2
  cbv
  exact fi hF rfl ⟨by simp [mkV,e2],rfl⟩
 rw [bh hg,zqq]at e2
 subst e2
 cbv
 cases e3:g .q .neq a3 b3
 case true=>
  rw [bh hg,bne_iff_ne]at e3
  cbv
  exact fi hF rfl ⟨by simp [mkV,e3],rfl⟩
 rw [bh hg,zqq]at e3
 subst e3
 cbv
 cases e4:g .q .neq a4 b4
 case true=>
  rw [bh hg,bne_iff_ne]at e4
  cbv
  exact fi hF rfl ⟨by simp [mkV,e4],rfl⟩
 rw [bh hg,zqq]at e4
 subst e4
 cbv
 cases e5:g .q .neq a5 b5
 case true=>
  rw [bh hg,bne_iff_ne]at e5
  cbv
  exact fi hF rfl ⟨by simp [mkV,e5],rfl⟩
 rw [bh hg,zqq]at e5
 subst e5
 cbv
 cases e6:g .q .neq a6 b6
 case true=>
  rw [bh hg,bne_iff_ne]at e6
  cbv
  exact fi hF rfl ⟨by simp [mkV,e6],rfl⟩
 rw [bh hg,zqq]at e6
 subst e6
 cbv
 cases e7:g .qb .neq a7 b7
 case true=>
  rw [eY hg,bne_iff_ne]at e7
  cbv
  exact fi hF rfl ⟨by simp [mkV,e7],rfl⟩
 rw [eY hg,zqq]at e7
 subst e7
 cbv
 cases e8:g .qb .neq a8 b8
 case true=>
  rw [eY hg,bne_iff_ne]at e8
  cbv
  exact fi hF rfl ⟨by simp [mkV,e8],rfl⟩
 rw [eY hg,zqq]at e8
 subst e8
 cbv
 exact fi hF rfl ⟨by simp [mkV],rfl⟩
theorem td(V:LLA)(L:Int)(hV:V.length<=9223372036854775807)(h0:0<=L)(h1:L<=1048576):PC0 193 [.c (.view V),ai L] (.i (szR (aM V) L)):=by
 obtain⟨M,hM⟩:=nmE (aM V)
 have ha:0<=M:=by rw [hM,ah];omega
 have hb:M<=9223372036854775807:=by rw [hM,ah];omega
 rw [<-hM]
 refine ae (aK f193) ay func193 fun g F hg hF=> ?_
 cbv
 have e1:g .w .sub .i64 L (g .ln V)=L-M:=by rw [dm hg,bA hg,<-hM,aq _ (by omega)]
 obtain⟨D,hD⟩:=nmE (L-M)
 rw [<-hD]at e1
 rw [e1]
 cases e:g .q .lss D 0
 ·rw [bg hg,zqo]at e
  cbv
  exact aU hF (by unfold szR;rw [<-hD,if_neg e])
 ·rw [bg hg,zqp]at e
  cbv
  exact aU hF (by unfold szR;rw [<-hD,if_pos e])
theorem mJ(xs:List aI)(hl:xs.length<=1048576):da prog 213 [.c (.view (vw aI.c xs))] fun res ha=>∃ab,res= .o 0/\ha=[ab]/\(ab.es.all fun x=>x.all dr)=true/\ab=⟨193,3,vw aI.c xs⟩:=by
 obtain⟨V,hV⟩:=nmE (vw aI.c xs)
 have he:=lmV hV
 rw [<-hV]
 refine ae (aK f213) ay func213 fun g F hg hF=> ?_
 cbv
 refine FO hg (by decide) (by rw [he];exact hl) ?_
 cbv
 have hd:qM 3 V (List.replicate (g .ln V).toNat [.J 0,.J 0,.J 0]) 0:=qM.start (k:=3) (z:=[.J 0,.J 0,.J 0]) rfl rfl (bA hg V)
 refine bO hg ay (by kernel_rfl) (fun s:Int×LLA=>[(0,.v V),(3,.o 0),(4,.i s.1)]) (fun s=>[.rw ⟨193,3,s.2⟩]) (fun s=>qM 3 V s.2 s.1) (fun s=>V.length-s.1.toNat)
  (0,g .rp (g .ln V) [.J 0,.J 0,.J 0]) [some 0] ?_ (wkS [0] (by decide) ⟨⟨_,rfl,rfl,?_⟩,trivial⟩ zr3) (fun s B hs hB=> ?_)
 ·simp only [yA hg];exact hd
 ·simp only [yA hg];exact hd.pl
 ·obtain⟨z,es⟩:=s
  simp only at hs
  have h0:=hs.z0
  have h1:=hs.z1
  cbv
  cases hc:g .q .lss z (g .ln V)
  ·cbv
   rw [bg hg,bA hg,zqo]at hc
   obtain rfl:=hs.done hc
   exact JH _ hF rfl hs.pl ⟨_,rfl,rfl,hs.pl,by rw [hV]⟩
  ·cbv
   rw [bg hg,bA hg,zqp]at hc
   have hf:=ah V
   obtain⟨x,hx⟩:=pJ (xs:=xs) h0 (by omega)
   have hy:V[z.toNat]? =some (lc (aI.c x)):=by rw [hV];exact ba hx
   obtain⟨a0,a1,a2⟩:=x
   refine goX hg _ h0 hy rfl ?_
   cbv
   refine ad hg (vq ⟨a0,a1,a2⟩) ?_
   cbv
   refine goY hg h0 (by have:=hs.len;have:=ah V;have:aM es=(es.length:Int):=rfl;show z<aM es;omega) (fun j hj hh=> ?_)
   cbv
   refine goN hg (hs.mem hh) ?_
   cbv
   have hf:=ah V
   have h2:g .w .add .i64 z 1=z+1:=by rw [aJ hg,aq _ (by omega)]
   rw [h2,iQ hg]
   have hb:=hs.step hc hj hy rfl rfl
   exact hP hB (z+1,_) [some 0] (wkS [0] (by decide) ⟨⟨_,rfl,rfl,hb.pl⟩,trivial⟩ zr3) hb (by show V.length-(z+1).toNat<V.length-z.toNat;omega)
theorem tr(xs ys:List aI)(hl:xs.length<=1048576):PC0 231 [.c (.view (vw aI.c xs)),.c (.view (vw aI.c ys))] (.t (abl (decide (xs=ys)))):=by
 obtain⟨V,hV⟩:=nmE (vw aI.c xs)
 obtain⟨W,hW⟩:=nmE (vw aI.c ys)
 have hb:=lmV hV
 have hd:=lmV hW
 rw [<-hV,<-hW]
 refine ae (aK f231) ay func231 fun g F hg hF=> ?_
 cbv
 cases e0:g .q .neq (g .ln V) (g .ln W)
 case true=>
  rw [bh hg,bne_iff_ne,bA hg,bA hg]at e0
  cbv
  refine fi hF rfl ⟨?_,rfl⟩
  have:¬xs=ys:=fun h=>e0 (by rw [ah,ah,hb,hd,h])
  simp [mkV,this]
 rw [bh hg,zqq,bA hg,bA hg]at e0
 have hm:xs.length=ys.length:=by have:=ah V;have:=ah W;omega
 cbv
 refine bO hg ay (by kernel_rfl) (fun z:Int=>[(0,.v V),(1,.v W),(5,.i z)]) (fun _=>[]) (fun z=>0<=z/\z<=aM V/\∀i:Nat,i<z.toNat->xs[i]? =ys[i]?) (fun z=>xs.length-z.toNat)
  0 [] ⟨by omega,by have:=ah V;omega,fun i hi=>by simp at hi⟩ (wk0 zr3) (fun z B hs hB=> ?_)
 obtain⟨h0,h1,h2⟩:=hs
 cbv
 cases hc:g .q .lss z (g .ln V)
 ·cbv
  rw [bg hg,bA hg,zqo]at hc
  refine fi hF rfl ⟨?_,rfl⟩
  have:xs=ys:=by
   have ha:=ah V
   refine List.ext_getElem? fun i=> ?_
   by_cases hi:i<xs.length
   ·exact h2 i (by omega)
   ·rw [zqz (by omega),zqz (by omega)]
  simp [mkV,this]
 ·cbv
  rw [bg hg,bA hg,zqp]at hc
  have ha:=ah V
  obtain⟨x,hx⟩:=pJ (xs:=xs) h0 (by omega)
  obtain⟨y,hy⟩:=pJ (xs:=ys) h0 (by omega)
  have hh:V[z.toNat]? =some (lc (aI.c x)):=by rw [hV];exact ba hx
  have hk:W[z.toNat]? =some (lc (aI.c y)):=by rw [hW];exact ba hy
  have hf:¬x=y->¬xs=ys:=fun h he=>h (by subst he;rw [hx]at hy;exact Option.some.inj hy)
  obtain⟨a0,a1,a2⟩:=x
  obtain⟨b0,b1,b2⟩:=y
  refine goX hg _ h0 hh rfl ?_
  cbv
  refine goX hg _ h0 hk rfl ?_
  cbv
  refine aa hg (vA ⟨a0,a1,a2⟩ ⟨b0,b1,b2⟩) ?_
  cbv
  obtain⟨D,hD⟩:∃D:Bool,D=decide ((⟨a0,a1,a2⟩:aI)=⟨b0,b1,b2⟩):=⟨_,rfl⟩
  rw [<-hD]
  cases D
  ·cbv
   refine fi hF rfl ⟨?_,rfl⟩
   simp [mkV,hf (by simpa using hD.symm)]
  ·cbv
   have hj:(⟨a0,a1,a2⟩:aI)=⟨b0,b1,b2⟩:=by simpa using hD.symm
   have ha:=ah V
   have h3:g .w .add .i64 z 1=z+1:=by rw [aJ hg,aq _ (by omega)]
   rw [h3]
   refine hP hB (z+1) [] (wk0 zr3) ⟨by omega,by omega,fun i hi=> ?_⟩ (by omega)
   by_cases hi2:i<z.toNat
   ·exact h2 i hi2
   ·rw [show i=z.toNat by omega,hx,hy,hj]
theorem tu(xs ys:List af)(hl:xs.length<=1048576):PC0 29 [.c (.view (vw af.c xs)),.c (.view (vw af.c ys))] (.t (abl (decide (xs=ys)))):=by
 obtain⟨V,hV⟩:=nmE (vw af.c xs)
 obtain⟨W,hW⟩:=nmE (vw af.c ys)
 have hb:=lmV hV
 have hd:=lmV hW
 rw [<-hV,<-hW]
 refine ae (aK f29) ay func29 fun g F hg hF=> ?_
 cbv
 cases e0:g .q .neq (g .ln V) (g .ln W)
 case true=>
  rw [bh hg,bne_iff_ne,bA hg,bA hg]at e0
  cbv
  refine fi hF rfl ⟨?_,rfl⟩
  have:¬xs=ys:=fun h=>e0 (by rw [ah,ah,hb,hd,h])
  simp [mkV,this]
 rw [bh hg,zqq,bA hg,bA hg]at e0
 have hm:xs.length=ys.length:=by have:=ah V;have:=ah W;omega
 cbv
 refine bO hg ay (by kernel_rfl) (fun z:Int=>[(0,.v V),(1,.v W),(5,.i z)]) (fun _=>[]) (fun z=>0<=z/\z<=aM V/\∀i:Nat,i<z.toNat->xs[i]? =ys[i]?) (fun z=>xs.length-z.toNat)
  0 [] ⟨by omega,by have:=ah V;omega,fun i hi=>by simp at hi⟩ (wk0 zr3) (fun z B hs hB=> ?_)
 obtain⟨h0,h1,h2⟩:=hs
 cbv
 cases hc:g .q .lss z (g .ln V)
 ·cbv
  rw [bg hg,bA hg,zqo]at hc
  refine fi hF rfl ⟨?_,rfl⟩
  have:xs=ys:=by
   have ha:=ah V
   refine List.ext_getElem? fun i=> ?_
   by_cases hi:i<xs.length
   ·exact h2 i (by omega)
   ·rw [zqz (by omega),zqz (by omega)]
  simp [mkV,this]
 ·cbv
  rw [bg hg,bA hg,zqp]at hc
  have ha:=ah V
  obtain⟨x,hx⟩:=pJ (xs:=xs) h0 (by omega)
  obtain⟨y,hy⟩:=pJ (xs:=ys) h0 (by omega)
  have hh:V[z.toNat]? =some (lc (af.c x)):=by rw [hV];exact ba hx
  have hk:W[z.toNat]? =some (lc (af.c y)):=by rw [hW];exact ba hy
  have hf:¬x=y->¬xs=ys:=fun h he=>h (by subst he;rw [hx]at hy;exact Option.some.inj hy)
  obtain⟨a0,a1,a2,a3,a4,a5,a6,a7,a8⟩:=x
  obtain⟨b0,b1,b2,b3,b4,b5,b6,b7,b8⟩:=y
  refine goX hg _ h0 hh rfl ?_
  cbv
  refine goX hg _ h0 hk rfl ?_
  cbv
  refine aa hg (vD ⟨a0,a1,a2,a3,a4,a5,a6,a7,a8⟩ ⟨b0,b1,b2,b3,b4,b5,b6,b7,b8⟩) ?_
  cbv
  obtain⟨D,hD⟩:∃D:Bool,D=decide ((⟨a0,a1,a2,a3,a4,a5,a6,a7,a8⟩:af)=⟨b0,b1,b2,b3,b4,b5,b6,b7,b8⟩):=⟨_,rfl⟩
  rw [<-hD]
  cases D
  ·cbv
   refine fi hF rfl ⟨?_,rfl⟩
   simp [mkV,hf (by simpa using hD.symm)]
  ·cbv
   have hj:(⟨a0,a1,a2,a3,a4,a5,a6,a7,a8⟩:af)=⟨b0,b1,b2,b3,b4,b5,b6,b7,b8⟩:=by simpa using hD.symm
   have ha:=ah V
   have h3:g .w .add .i64 z 1=z+1:=by rw [aJ hg,aq _ (by omega)]
   rw [h3]
   refine hP hB (z+1) [] (wk0 zr3) ⟨by omega,by omega,fun i hi=> ?_⟩ (by omega)
   by_cases hi2:i<z.toNat
   ·exact h2 i hi2
   ·rw [show i=z.toNat by omega,hx,hy,hj]
theorem vy(V:LLA)(L:Int)(hV:V.length<=9223372036854775807)(h0:0<=L)(h1:L<=1048576):PC0 117 [.c (.view V),ai L] (.i (szR (aM V) L)):=by
 obtain⟨M,hM⟩:=nmE (aM V)
 have ha:0<=M:=by rw [hM,ah];omega
 have hb:M<=9223372036854775807:=by rw [hM,ah];omega
 rw [<-hM]
 refine ae (aK f117) ay func117 fun g F hg hF=> ?_
 cbv
 have e1:g .w .sub .i64 L (g .ln V)=L-M:=by rw [dm hg,bA hg,<-hM,aq _ (by omega)]
 obtain⟨D,hD⟩:=nmE (L-M)
 rw [<-hD]at e1
 rw [e1]
 cases e:g .q .lss D 0
 ·rw [bg hg,zqo]at e
  cbv
  exact aU hF (by unfold szR;rw [<-hD,if_neg e])
 ·rw [bg hg,zqp]at e
  cbv
  exact aU hF (by unfold szR;rw [<-hD,if_pos e])
theorem nX(xs:List Int)(hl:xs.length<=1048576):da prog 144 [.c (.view (vw aj xs))] fun res ha=>∃ab,res= .o 0/\ha=[ab]/\(ab.es.all fun x=>x.all dr)=true/\ab=⟨3,1,vw aj xs⟩:=by
 obtain⟨V,hV⟩:=nmE (vw aj xs)
 have he:=lmV hV
 rw [<-hV]
 refine ae (aK f144) ay func144 fun g F hg hF=> ?_
 cbv
 refine FO hg (by decide) (by rw [he];exact hl) ?_
 cbv
 have hd:qM 1 V (List.replicate (g .ln V).toNat [.J 0]) 0:=qM.start (k:=1) (z:=[.J 0]) rfl rfl (bA hg V)
 refine bO hg ay (by kernel_rfl) (fun s:Int×LLA=>[(0,.v V),(3,.o 0),(4,.i s.1)]) (fun s=>[.rw ⟨3,1,s.2⟩]) (fun s=>qM 1 V s.2 s.1) (fun s=>V.length-s.1.toNat)
  (0,g .rp (g .ln V) [.J 0]) [some 0] ?_ (wkS [0] (by decide) ⟨⟨_,rfl,rfl,?_⟩,trivial⟩ zr3) (fun s B hs hB=> ?_)
 ·simp only [yA hg];exact hd
 ·simp only [yA hg];exact hd.pl
 ·obtain⟨z,es⟩:=s
  simp only at hs
  have h0:=hs.z0
  have h1:=hs.z1
  cbv
  cases hc:g .q .lss z (g .ln V)
  ·cbv
   rw [bg hg,bA hg,zqo]at hc
   obtain rfl:=hs.done hc
   exact JH _ hF rfl hs.pl ⟨_,rfl,rfl,hs.pl,by rw [hV]⟩
  ·cbv
   rw [bg hg,bA hg,zqp]at hc
   have hf:=ah V
   obtain⟨x,hx⟩:=pJ (xs:=xs) h0 (by omega)
   have hy:V[z.toNat]? =some (lc (aj x)):=by rw [hV];exact ba hx
   refine goX hg _ h0 hy rfl ?_
   cbv
   refine goY hg h0 (by have:=hs.len;have:=ah V;have:aM es=(es.length:Int):=rfl;show z<aM es;omega) (fun j hj hh=> ?_)
   cbv
   refine goN hg (hs.mem hh) ?_
   cbv
   have hf:=ah V
   have h2:g .w .add .i64 z 1=z+1:=by rw [aJ hg,aq _ (by omega)]
   rw [h2,iQ hg]
   have hb:=hs.step hc hj hy rfl rfl
   exact hP hB (z+1,_) [some 0] (wkS [0] (by decide) ⟨⟨_,rfl,rfl,hb.pl⟩,trivial⟩ zr3) hb (by show V.length-(z+1).toNat<V.length-z.toNat;omega)
theorem vE(xs ys:List Int)(hl:xs.length<=1048576):PC0 12 [.c (.view (vw aj xs)),.c (.view (vw aj ys))] (.t (abl (decide (xs=ys)))):=by
 obtain⟨V,hV⟩:=nmE (vw aj xs)
 obtain⟨W,hW⟩:=nmE (vw aj ys)
 have hb:=lmV hV
 have hd:=lmV hW
 rw [<-hV,<-hW]
 refine ae (aK f12) ay func12 fun g F hg hF=> ?_
 cbv
 cases e0:g .q .neq (g .ln V) (g .ln W)
 case true=>
  rw [bh hg,bne_iff_ne,bA hg,bA hg]at e0
  cbv
  refine fi hF rfl ⟨?_,rfl⟩
  have:¬xs=ys:=fun h=>e0 (by rw [ah,ah,hb,hd,h])
  simp [mkV,this]
 rw [bh hg,zqq,bA hg,bA hg]at e0
 have hm:xs.length=ys.length:=by have:=ah V;have:=ah W;omega
 cbv
 refine bO hg ay (by kernel_rfl) (fun z:Int=>[(0,.v V),(1,.v W),(5,.i z)]) (fun _=>[]) (fun z=>0<=z/\z<=aM V/\∀i:Nat,i<z.toNat->xs[i]? =ys[i]?) (fun z=>xs.length-z.toNat)
  0 [] ⟨by omega,by have:=ah V;omega,fun i hi=>by simp at hi⟩ (wk0 zr3) (fun z B hs hB=> ?_)
 obtain⟨h0,h1,h2⟩:=hs
 cbv
 cases hc:g .q .lss z (g .ln V)
 ·cbv
  rw [bg hg,bA hg,zqo]at hc
  refine fi hF rfl ⟨?_,rfl⟩
  have:xs=ys:=by
   have ha:=ah V
   refine List.ext_getElem? fun i=> ?_
   by_cases hi:i<xs.length
   ·exact h2 i (by omega)
   ·rw [zqz (by omega),zqz (by omega)]
  simp [mkV,this]
 ·cbv
  rw [bg hg,bA hg,zqp]at hc
  have ha:=ah V
  obtain⟨x,hx⟩:=pJ (xs:=xs) h0 (by omega)
  obtain⟨y,hy⟩:=pJ (xs:=ys) h0 (by omega)
  have hh:V[z.toNat]? =some (lc (aj x)):=by rw [hV];exact ba hx
  have hk:W[z.toNat]? =some (lc (aj y)):=by rw [hW];exact ba hy
  have hf:¬x=y->¬xs=ys:=fun h he=>h (by subst he;rw [hx]at hy;exact Option.some.inj hy)
  refine goX hg _ h0 hh rfl ?_
  cbv
  refine goX hg _ h0 hk rfl ?_
  cbv
  cases hD:g .q .neq x y
  ·cbv
   have hj:x=y:=by rw [bh hg,zqq]at hD;exact hD
   have ha:=ah V
   have h3:g .w .add .i64 z 1=z+1:=by rw [aJ hg,aq _ (by omega)]
   rw [h3]
   refine hP hB (z+1) [] (wk0 zr3) ⟨by omega,by omega,fun i hi=> ?_⟩ (by omega)
   by_cases hi2:i<z.toNat
   ·exact h2 i hi2
   ·rw [show i=z.toNat by omega,hx,hy,hj]
  ·cbv
   refine fi hF rfl ⟨?_,rfl⟩
   simp [mkV,hf (by rw [bh hg,bne_iff_ne]at hD;exact hD)]
def iq(n l m:Int):Int:=if(if m<0 then n else if m<n then m else n)<l then l else if m<0 then n else if m<n then m else n
def ye(f:α->Int)(xs:List α)(n:Nat):Int:=((xs.take n).map f).sum
theorem jB(f:α->Int)(xs:List α):ye f xs 0=0:=by simp [ye]
theorem jC(f:α->Int){n:Nat}{x:α}(h:xs[n]? =some x):ye f xs (n+1)=ye f xs n+f x:=by
 simp [ye,List.take_add_one,h]
theorem lX(f:α->Int){n:Nat}(h:xs.length<=n):ye f xs n=(xs.map f).sum:=by
 rw [ye,List.take_of_length_le h]
theorem nk(a b:Int):wrap64 (wrap64 a+b)=wrap64 (a+b):=by unfold wrap64;omega
theorem tQ(a b:Int):wrap64 (a+wrap64 b)=wrap64 (a+b):=by unfold wrap64;omega
theorem Ds{c:α->Array Value}(hk:∀x,(c x).size=k):∀y∈vw c xs,y.length=k:=by
 intro y hy
 simp only [vw,List.mem_map]at hy
 obtain⟨x,_,rfl⟩:=hy
 rw [Ik];exact hk x
theorem kmV{c:α->Array Value}(h:V=vw c xs)(hk:∀x,(c x).size=k):∀y∈V,y.length=k:=by rw [h];exact Ds hk
theorem Il(a:Array Value):(lc a).all dat=true:=by simp [lc,dat]
theorem tR{c:α->Array Value}:∀y∈vw c xs,y.all dat=true:=by
 intro y hy
 simp only [vw,List.mem_map]at hy
 obtain⟨x,_,rfl⟩:=hy
 exact Il _
theorem dmV{c:α->Array Value}(h:V=vw c xs):∀y∈V,y.all dat=true:=by rw [h];exact tR
def hyp(x:af):Int:=iq x.base x.least x.most
theorem jM(n l m:Int):PC0 190 [ai n,ai l,ai m] (.i (iq n l m)):=by
 refine ae (aK f190) ay func190 fun g F hg hF=> ?_
 cbv
 cases e1:g .q .geq m 0
 ·rw [iR hg,zqo]at e1
  cbv
  cases e3:g .q .lss n l
  ·rw [bg hg,zqo]at e3
   cbv
   exact aU hF (by unfold iq;omega)
  ·rw [bg hg,zqp]at e3
   cbv
   exact aU hF (by unfold iq;omega)
 ·rw [iR hg,zqp]at e1
  cbv
  cases e2:g .q .gtr n m
  ·rw [cj hg,zqo]at e2
   cbv
   cases e3:g .q .lss n l
   ·rw [bg hg,zqo]at e3
    cbv
    exact aU hF (by unfold iq;omega)
   ·rw [bg hg,zqp]at e3
    cbv
    exact aU hF (by unfold iq;omega)
  ·rw [cj hg,zqp]at e2
   cbv
   cases e3:g .q .lss m l
   ·rw [bg hg,zqo]at e3
    cbv
    exact aU hF (by unfold iq;omega)
   ·rw [bg hg,zqp]at e3
    cbv
    exact aU hF (by unfold iq;omega)
theorem jY(n l m:Int):PC0 192 [ai n,ai l,ai m] (.i (iq n l m)):=by
 refine ae (aK f192) ay func192 fun g F hg hF=> ?_
 cbv
 cases e1:g .q .geq m 0
 ·rw [iR hg,zqo]at e1
  cbv
  exact aU hF (by rw [FN hg];unfold iq;omega)
 ·rw [iR hg,zqp]at e1
  cbv
  exact aU hF (by rw [FN hg,Ji hg];unfold iq;omega)
theorem i7(x:af):PC0 259 [.agg (lc (af.c x))] (.i (hyp x)):=by
 obtain⟨a0,a1,a2,a3,a4,a5,a6,a7,a8⟩:=x
 obtain⟨R,hR⟩:=nmE (iq a0 a1 a2)
 have hc:=jM a0 a1 a2
 rw [<-hR]at hc
 refine ae (aK f259) ay func259 fun g F hg hF=> ?_
 cbv
 refine ad hg hc ?_
 cbv
 exact aU hF (by rw [hR];rfl)
theorem jc(x:af):PC0 222 [.agg (lc (af.c x))] (.i (hyp x)):=by
 obtain⟨a0,a1,a2,a3,a4,a5,a6,a7,a8⟩:=x
 obtain⟨R,hR⟩:=nmE (iq a0 a1 a2)
 have hc:=jY a0 a1 a2
 rw [<-hR]at hc
 refine ae (aK f222) ay func222 fun g F hg hF=> ?_
 cbv
 refine ad hg hc ?_
 cbv
 exact aU hF (by rw [hR];rfl)
end Go.Proofs.YtkicjdeddpihaaaGreat
