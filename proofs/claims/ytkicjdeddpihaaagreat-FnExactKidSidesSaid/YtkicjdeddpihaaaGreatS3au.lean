/- Lines of items: lengths within bounds, sums over a line. -/
import Derived.Test.YtkicjdeddpihaaaGreatS3at
set_option linter.unusedVariables false
set_option linter.unusedSimpArgs false
set_option maxHeartbeats 8000000
namespace Go.Proofs.YtkicjdeddpihaaaGreat
open Go.ChangeShapes Go.WideShapes Go.ChangeAt Go.RowKit Am Go.Proofs.Tryz
set_option maxRecDepth 100000
abbrev ai(n:Int):AT:= .c (.J n)
abbrev abl(b:Bool):AT:= .c (.B b)
theorem Ii(a:Array Value):(lc a).length=a.size:=by simp [lc]
theorem Ed(a:Array Value):(lc a).all du=true:=by simp [lc,du]
variable {α:Type}
theorem aG(c:α->Array Value)(xs:List α):aB (vw c xs)=true:=by
 simp only [aB,vw,List.all_map,zqf]
 intro x _
 exact Ed _
variable {xs:List α}{V:LLA}
theorem pmV{c:α->Array Value}(h:V=vw c xs):aB V=true:=by rw [h];exact aG _ _
theorem HM{es:List α}{j i:Nat}{x:α}(hj:j<es.length):(es.set j x)[i]? =if i=j then some x else es[i]? :=by
 rw [List.getElem?_set]
 by_cases h:j=i
 ·subst h;simp [hj]
 ·rw [if_neg h,if_neg (fun h'=>h h'.symm)]
structure qT(k:Nat)(V es:LLA)(z:Int):Prop where
 z0:0<=z
 z1:z<=aM V
 len:es.length=V.length
 ks:∀e∈es,e.length=k
 pl:aB es=true
 eq:∀i:Nat,i<z.toNat->es[i]? =V[i]?
variable {k:Nat}
theorem qT.start{z:List AC}(hk:z.length=k)(hp:z.all du=true){n:Int}(hn:n=aM V):qT k V (List.replicate n.toNat z) 0:=
 ⟨by omega,by have:=aj V;omega,by have:=aj V;simp;omega,fun e he=>by rw [(List.mem_replicate.1 he).2];exact hk,by simp [aB,hp],fun i hi=>by simp at hi⟩
variable {z:Int}
theorem qT.step{V es:LLA}{j:Nat}{y:List AC}(h:qT k V es z)(hz:z<aM V)(hj:j=z.toNat)(hy:V[z.toNat]? =some y)(hk:y.length=k)(hp:y.all du=true):qT k V (es.set j y) (z+1):=by
 have:=h.z0
 have:=h.len
 have:=aj V
 refine⟨by omega,by omega,by simpa using h.len,fun e he=> ?_,?_,fun i hi=> ?_⟩
 ·rcases List.mem_or_eq_of_mem_set he with h1|rfl
  ·exact h.ks e h1
  ·exact hk
 ·rw [aB,zqf]
  intro e he
  rcases List.mem_or_eq_of_mem_set he with h1|rfl
  ·exact List.all_eq_true.1 h.pl e h1
  ·exact hp
 ·rw [HM (by omega)]
  by_cases hij:i=j
  ·rw [if_pos hij,hij,hj,hy]
  ·rw [if_neg hij];exact h.eq i (by omega)
theorem qT.done{V es:LLA}(h:qT k V es z)(hz:¬z<aM V):es=V:=by
 have:=aj V
 have:=h.z1
 have:=h.len
 refine List.ext_getElem? fun i=> ?_
 by_cases hi:i<V.length
 ·exact h.eq i (by omega)
 ·rw [zqz (by omega),zqz (by omega)]
theorem qT.mem{V es:LLA}(h:qT k V es z){j:Nat}(hj:j<es.length):∃e,es[j]? =some e/\e.length=k:=⟨es[j],zqc hj,h.ks _ (List.getElem_mem hj)⟩
def szR(n left:Int):Int:=if left-n<0 then-1 else left-n
theorem aq(n:Int)(h: -9223372036854775808<=n/\n<=9223372036854775807):wrap64 n=n:=IntWalk.wrap64_in n h
theorem aQ(x:dy):PC0 210 [.agg (lc (dy.c x))] (.t (.agg (lc (dy.c x)))):=by
 obtain⟨a0,a1⟩:=x
 refine ae (aK f210) ay func210 fun g F hg hF=> ?_
 cbv
 exact fy hF rfl ⟨rfl,rfl⟩
theorem bv(x y:dy):PC0 228 [.agg (lc (dy.c x)),.agg (lc (dy.c y))] (.t (abl (decide (x=y)))):=by
 obtain⟨a0,a1⟩:=x
 obtain⟨b0,b1⟩:=y
 refine ae (aK f228) ay func228 fun g F hg hF=> ?_
 cbv
 cases e0:g .q .neq a0 b0
 case true=>
  rw [bj hg,bne_iff_ne]at e0
  cbv
  exact fy hF rfl ⟨by simp [mkV,e0],rfl⟩
 rw [bj hg,zqq]at e0
 subst e0
 cbv
 cases e1:g .q .neq a1 b1
 case true=>
  rw [bj hg,bne_iff_ne]at e1
  cbv
  exact fy hF rfl ⟨by simp [mkV,e1],rfl⟩
 rw [bj hg,zqq]at e1
 subst e1
 cbv
 exact fy hF rfl ⟨by simp [mkV],rfl⟩
theorem gI(x:bh):PC0 211 [.agg (lc (bh.c x))] (.t (.agg (lc (bh.c x)))):=by
 obtain⟨⟨a0,a1⟩,⟨a2,a3⟩,⟨a4,a5⟩,⟨a6,a7⟩,⟨a8,a9⟩,⟨ha,hb⟩⟩:=x
 refine ae (aK f211) ay func211 fun g F hg hF=> ?_
 cbv
 (first|refine fX hg (aQ (⟨a0,a1⟩:dy)) rfl rfl ?_|refine ea hg (aQ (⟨a0,a1⟩:dy)) rfl rfl ?_)
 cbv
 (first|refine fX hg (aQ (⟨a2,a3⟩:dy)) rfl rfl ?_|refine ea hg (aQ (⟨a2,a3⟩:dy)) rfl rfl ?_)
 cbv
 (first|refine fX hg (aQ (⟨a4,a5⟩:dy)) rfl rfl ?_|refine ea hg (aQ (⟨a4,a5⟩:dy)) rfl rfl ?_)
 cbv
 (first|refine fX hg (aQ (⟨a6,a7⟩:dy)) rfl rfl ?_|refine ea hg (aQ (⟨a6,a7⟩:dy)) rfl rfl ?_)
 cbv
 (first|refine fX hg (aQ (⟨a8,a9⟩:dy)) rfl rfl ?_|refine ea hg (aQ (⟨a8,a9⟩:dy)) rfl rfl ?_)
 cbv
 (first|refine fX hg (aQ (⟨ha,hb⟩:dy)) rfl rfl ?_|refine ea hg (aQ (⟨ha,hb⟩:dy)) rfl rfl ?_)
 cbv
 exact fy hF rfl ⟨rfl,rfl⟩
theorem mQ(x y:bh):PC0 229 [.agg (lc (bh.c x)),.agg (lc (bh.c y))] (.t (abl (decide (x=y)))):=by
 obtain⟨⟨a0,a1⟩,⟨a2,a3⟩,⟨a4,a5⟩,⟨a6,a7⟩,⟨a8,a9⟩,⟨ha,hb⟩⟩:=x
 obtain⟨⟨b0,b1⟩,⟨b2,b3⟩,⟨b4,b5⟩,⟨b6,b7⟩,⟨b8,b9⟩,⟨hc,he⟩⟩:=y
 refine ae (aK f229) ay func229 fun g F hg hF=> ?_
 cbv
 (first|refine bz hg (bv (⟨a0,a1⟩:dy) (⟨b0,b1⟩:dy)) rfl (fun R0 hf=> ?_)|refine bd hg (bv (⟨a0,a1⟩:dy) (⟨b0,b1⟩:dy)) rfl (fun R0 hf=> ?_))
 cases R0
 case false=>
  cbv
  refine fy hF rfl ⟨?_,rfl⟩
  have hd:=of_decide_eq_false hf.symm
  have:¬(⟨⟨a0,a1⟩,⟨a2,a3⟩,⟨a4,a5⟩,⟨a6,a7⟩,⟨a8,a9⟩,⟨ha,hb⟩⟩:bh)=⟨⟨b0,b1⟩,⟨b2,b3⟩,⟨b4,b5⟩,⟨b6,b7⟩,⟨b8,b9⟩,⟨hc,he⟩⟩:=fun h=>hd (by simp only [bh.mk.injEq]at h;simp only [h])
  simp only [mkV,this,decide_false]
 have e0:=of_decide_eq_true hf.symm
 clear hf
 simp only [dy.mk.injEq,bh.mk.injEq,bV.mk.injEq,az.mk.injEq]at e0
 obtain⟨rfl,rfl⟩:=e0
 cbv
 (first|refine bz hg (bv (⟨a2,a3⟩:dy) (⟨b2,b3⟩:dy)) rfl (fun R1 hh=> ?_)|refine bd hg (bv (⟨a2,a3⟩:dy) (⟨b2,b3⟩:dy)) rfl (fun R1 hh=> ?_))
 cases R1
 case false=>
  cbv
  refine fy hF rfl ⟨?_,rfl⟩
  have hd:=of_decide_eq_false hh.symm
  have:¬(⟨⟨a0,a1⟩,⟨a2,a3⟩,⟨a4,a5⟩,⟨a6,a7⟩,⟨a8,a9⟩,⟨ha,hb⟩⟩:bh)=⟨⟨a0,a1⟩,⟨b2,b3⟩,⟨b4,b5⟩,⟨b6,b7⟩,⟨b8,b9⟩,⟨hc,he⟩⟩:=fun h=>hd (by simp only [bh.mk.injEq]at h;simp only [h])
  simp only [mkV,this,decide_false]
 have e1:=of_decide_eq_true hh.symm
 clear hh
 simp only [dy.mk.injEq,bh.mk.injEq,bV.mk.injEq,az.mk.injEq]at e1
 obtain⟨rfl,rfl⟩:=e1
 cbv
 (first|refine bz hg (bv (⟨a4,a5⟩:dy) (⟨b4,b5⟩:dy)) rfl (fun R2 hi=> ?_)|refine bd hg (bv (⟨a4,a5⟩:dy) (⟨b4,b5⟩:dy)) rfl (fun R2 hi=> ?_))
 cases R2
 case false=>
  cbv
  refine fy hF rfl ⟨?_,rfl⟩
  have hd:=of_decide_eq_false hi.symm
  have:¬(⟨⟨a0,a1⟩,⟨a2,a3⟩,⟨a4,a5⟩,⟨a6,a7⟩,⟨a8,a9⟩,⟨ha,hb⟩⟩:bh)=⟨⟨a0,a1⟩,⟨a2,a3⟩,⟨b4,b5⟩,⟨b6,b7⟩,⟨b8,b9⟩,⟨hc,he⟩⟩:=fun h=>hd (by simp only [bh.mk.injEq]at h;simp only [h])
  simp only [mkV,this,decide_false]
 have e2:=of_decide_eq_true hi.symm
 clear hi
 simp only [dy.mk.injEq,bh.mk.injEq,bV.mk.injEq,az.mk.injEq]at e2
 obtain⟨rfl,rfl⟩:=e2
 cbv
 (first|refine bz hg (bv (⟨a6,a7⟩:dy) (⟨b6,b7⟩:dy)) rfl (fun R3 hj=> ?_)|refine bd hg (bv (⟨a6,a7⟩:dy) (⟨b6,b7⟩:dy)) rfl (fun R3 hj=> ?_))
 cases R3
 case false=>
  cbv
  refine fy hF rfl ⟨?_,rfl⟩
  have hd:=of_decide_eq_false hj.symm
  have:¬(⟨⟨a0,a1⟩,⟨a2,a3⟩,⟨a4,a5⟩,⟨a6,a7⟩,⟨a8,a9⟩,⟨ha,hb⟩⟩:bh)=⟨⟨a0,a1⟩,⟨a2,a3⟩,⟨a4,a5⟩,⟨b6,b7⟩,⟨b8,b9⟩,⟨hc,he⟩⟩:=fun h=>hd (by simp only [bh.mk.injEq]at h;simp only [h])
  simp only [mkV,this,decide_false]
 have e3:=of_decide_eq_true hj.symm
 clear hj
 simp only [dy.mk.injEq,bh.mk.injEq,bV.mk.injEq,az.mk.injEq]at e3
 obtain⟨rfl,rfl⟩:=e3
 cbv
 (first|refine bz hg (bv (⟨a8,a9⟩:dy) (⟨b8,b9⟩:dy)) rfl (fun R4 hk=> ?_)|refine bd hg (bv (⟨a8,a9⟩:dy) (⟨b8,b9⟩:dy)) rfl (fun R4 hk=> ?_))
 cases R4
 case false=>
  cbv
  refine fy hF rfl ⟨?_,rfl⟩
  have hd:=of_decide_eq_false hk.symm
  have:¬(⟨⟨a0,a1⟩,⟨a2,a3⟩,⟨a4,a5⟩,⟨a6,a7⟩,⟨a8,a9⟩,⟨ha,hb⟩⟩:bh)=⟨⟨a0,a1⟩,⟨a2,a3⟩,⟨a4,a5⟩,⟨a6,a7⟩,⟨b8,b9⟩,⟨hc,he⟩⟩:=fun h=>hd (by simp only [bh.mk.injEq]at h;simp only [h])
  simp only [mkV,this,decide_false]
 have e4:=of_decide_eq_true hk.symm
 clear hk
 simp only [dy.mk.injEq,bh.mk.injEq,bV.mk.injEq,az.mk.injEq]at e4
 obtain⟨rfl,rfl⟩:=e4
 cbv
 (first|refine bz hg (bv (⟨ha,hb⟩:dy) (⟨hc,he⟩:dy)) rfl (fun R5 hl=> ?_)|refine bd hg (bv (⟨ha,hb⟩:dy) (⟨hc,he⟩:dy)) rfl (fun R5 hl=> ?_))
 cases R5
 case false=>
  cbv
  refine fy hF rfl ⟨?_,rfl⟩
  have hd:=of_decide_eq_false hl.symm
  have:¬(⟨⟨a0,a1⟩,⟨a2,a3⟩,⟨a4,a5⟩,⟨a6,a7⟩,⟨a8,a9⟩,⟨ha,hb⟩⟩:bh)=⟨⟨a0,a1⟩,⟨a2,a3⟩,⟨a4,a5⟩,⟨a6,a7⟩,⟨a8,a9⟩,⟨hc,he⟩⟩:=fun h=>hd (by simp only [bh.mk.injEq]at h;simp only [h])
  simp only [mkV,this,decide_false]
 have e5:=of_decide_eq_true hl.symm
 clear hl
 simp only [dy.mk.injEq,bh.mk.injEq,bV.mk.injEq,az.mk.injEq]at e5
 obtain⟨rfl,rfl⟩:=e5
 cbv
 exact fy hF rfl ⟨by simp [mkV],rfl⟩
theorem gJ(x:bV):PC0 212 [.agg (lc (bV.c x))] (.t (.agg (lc (bV.c x)))):=by
 obtain⟨a0,a1,a2,a3⟩:=x
 refine ae (aK f212) ay func212 fun g F hg hF=> ?_
 cbv
 exact fy hF rfl ⟨rfl,rfl⟩
theorem mR(x y:bV):PC0 230 [.agg (lc (bV.c x)),.agg (lc (bV.c y))] (.t (abl (decide (x=y)))):=by
 obtain⟨a0,a1,a2,a3⟩:=x
 obtain⟨b0,b1,b2,b3⟩:=y
 refine ae (aK f230) ay func230 fun g F hg hF=> ?_
 cbv
 cases e0:g .q .neq a0 b0
 case true=>
  rw [bj hg,bne_iff_ne]at e0
  cbv
  exact fy hF rfl ⟨by simp [mkV,e0],rfl⟩
 rw [bj hg,zqq]at e0
 subst e0
 cbv
 cases e1:g .q .neq a1 b1
 case true=>
  rw [bj hg,bne_iff_ne]at e1
  cbv
  exact fy hF rfl ⟨by simp [mkV,e1],rfl⟩
 rw [bj hg,zqq]at e1
 subst e1
 cbv
 cases e2:g .q .neq a2 b2
 case true=>
  rw [bj hg,bne_iff_ne]at e2
  cbv
  exact fy hF rfl ⟨by simp [mkV,e2],rfl⟩
 rw [bj hg,zqq]at e2
 subst e2
 cbv
 cases e3:g .q .neq a3 b3
 case true=>
  rw [bj hg,bne_iff_ne]at e3
  cbv
  exact fy hF rfl ⟨by simp [mkV,e3],rfl⟩
 rw [bj hg,zqq]at e3
 subst e3
 cbv
 exact fy hF rfl ⟨by simp [mkV],rfl⟩
theorem ju(x:ak):PC0 145 [.agg (lc (ak.c x))] (.t (.agg (lc (ak.c x)))):=by
 obtain⟨a0,a1,a2,a3,a4,a5,a6,a7,a8,a9,hW,⟨ha,hb⟩,⟨hc,hd⟩,⟨he,hf⟩,⟨hh,hi⟩,⟨hj,hk⟩,⟨hl,hm⟩,⟨hn,ho⟩,hX,⟨⟨hp,hq⟩,⟨hr,hs⟩,⟨ht,hu⟩,⟨hv,hw⟩,⟨hx,hy⟩,⟨hz,hA⟩⟩,⟨⟨hB,hC⟩,⟨hD,hE⟩,⟨hG,hH⟩,⟨hI,hJ⟩,⟨hK,hL⟩,⟨hM,hN⟩⟩,⟨hO,hP,hQ,hR⟩,⟨hS,hT,hU,hV⟩,hY,hZ⟩:=x
 refine ae (aK f145) ay func145 fun g F hg hF=> ?_
 cbv
 (first|refine fX hg (aQ (⟨ha,hb⟩:dy)) rfl rfl ?_|refine ea hg (aQ (⟨ha,hb⟩:dy)) rfl rfl ?_)
 cbv
 (first|refine fX hg (aQ (⟨hc,hd⟩:dy)) rfl rfl ?_|refine ea hg (aQ (⟨hc,hd⟩:dy)) rfl rfl ?_)
 cbv
 (first|refine fX hg (aQ (⟨he,hf⟩:dy)) rfl rfl ?_|refine ea hg (aQ (⟨he,hf⟩:dy)) rfl rfl ?_)
 cbv
 (first|refine fX hg (aQ (⟨hh,hi⟩:dy)) rfl rfl ?_|refine ea hg (aQ (⟨hh,hi⟩:dy)) rfl rfl ?_)
 cbv
 (first|refine fX hg (aQ (⟨hj,hk⟩:dy)) rfl rfl ?_|refine ea hg (aQ (⟨hj,hk⟩:dy)) rfl rfl ?_)
 cbv
 (first|refine fX hg (aQ (⟨hl,hm⟩:dy)) rfl rfl ?_|refine ea hg (aQ (⟨hl,hm⟩:dy)) rfl rfl ?_)
 cbv
 (first|refine fX hg (aQ (⟨hn,ho⟩:dy)) rfl rfl ?_|refine ea hg (aQ (⟨hn,ho⟩:dy)) rfl rfl ?_)
 cbv
 (first|refine fX hg (gI (⟨⟨hp,hq⟩,⟨hr,hs⟩,⟨ht,hu⟩,⟨hv,hw⟩,⟨hx,hy⟩,⟨hz,hA⟩⟩:bh)) rfl rfl ?_|refine ea hg (gI (⟨⟨hp,hq⟩,⟨hr,hs⟩,⟨ht,hu⟩,⟨hv,hw⟩,⟨hx,hy⟩,⟨hz,hA⟩⟩:bh)) rfl rfl ?_)
 cbv
 (first|refine fX hg (gI (⟨⟨hB,hC⟩,⟨hD,hE⟩,⟨hG,hH⟩,⟨hI,hJ⟩,⟨hK,hL⟩,⟨hM,hN⟩⟩:bh)) rfl rfl ?_|refine ea hg (gI (⟨⟨hB,hC⟩,⟨hD,hE⟩,⟨hG,hH⟩,⟨hI,hJ⟩,⟨hK,hL⟩,⟨hM,hN⟩⟩:bh)) rfl rfl ?_)
 cbv
 (first|refine fX hg (gJ (⟨hO,hP,hQ,hR⟩:bV)) rfl rfl ?_|refine ea hg (gJ (⟨hO,hP,hQ,hR⟩:bV)) rfl rfl ?_)
 cbv
 (first|refine fX hg (gJ (⟨hS,hT,hU,hV⟩:bV)) rfl rfl ?_|refine ea hg (gJ (⟨hS,hT,hU,hV⟩:bV)) rfl rfl ?_)
 cbv
 exact fy hF rfl ⟨rfl,rfl⟩
theorem tC(x y:ak):PC0 171 [.agg (lc (ak.c x)),.agg (lc (ak.c y))] (.t (abl (decide (x=y)))):=by
 refine ae (aK f171) ay func171 fun g F hg hF=> ?_
 cbv
 iterate 25
  first
   |(
    generalize e:g .q .neq _ _=r
    cases r
    rotate_left
    ·rw [bj hg,bne_iff_ne]at e
     cbv
     exact fy hF rfl ⟨by simp [mkV,show¬x=y from fun h=>e (by rw [h])],rfl⟩
    rw [bj hg,zqq]at e)
   |(
    generalize e:g .qb .neq _ _=r
    cases r
    rotate_left
    ·rw [eY hg,bne_iff_ne]at e
     cbv
     exact fy hF rfl ⟨by simp [mkV,show¬x=y from fun h=>e (by rw [h])],rfl⟩
    rw [eY hg,zqq]at e)
   |(
    first|refine bz hg (bv _ _) rfl (fun R e=> ?_)|refine bd hg (bv _ _) rfl (fun R e=> ?_)|refine bz hg (mQ _ _) rfl (fun R e=> ?_)|refine bd hg (mQ _ _) rfl (fun R e=> ?_)|refine bz hg (mR _ _) rfl (fun R e=> ?_)|refine bd hg (mR _ _) rfl (fun R e=> ?_)
    cases R
    ·replace e:=of_decide_eq_false e.symm
     cbv
     exact fy hF rfl ⟨by simp [mkV,show¬x=y from fun h=>e (by rw [h])],rfl⟩
    replace e:=of_decide_eq_true e.symm)
  cbv
 obtain rfl:x=y:=by
  cases x
  cases y
  simp_all
 exact fy hF rfl ⟨by simp [mkV],rfl⟩
theorem vy(x:aI):PC0 263 [.agg (lc (aI.c x))] (.t (.agg (lc (aI.c x)))):=by
 obtain⟨a0,a1,a2⟩:=x
 refine ae (aK f263) ay func263 fun g F hg hF=> ?_
 cbv
 exact fy hF rfl ⟨rfl,rfl⟩
theorem vJ(x y:aI):PC0 279 [.agg (lc (aI.c x)),.agg (lc (aI.c y))] (.t (abl (decide (x=y)))):=by
 obtain⟨a0,a1,a2⟩:=x
 obtain⟨b0,b1,b2⟩:=y
 refine ae (aK f279) ay func279 fun g F hg hF=> ?_
 cbv
 cases e0:g .q .neq a0 b0
 case true=>
  rw [bj hg,bne_iff_ne]at e0
  cbv
  exact fy hF rfl ⟨by simp [mkV,e0],rfl⟩
 rw [bj hg,zqq]at e0
 subst e0
 cbv
 cases e1:g .q .neq a1 b1
 case true=>
  rw [bj hg,bne_iff_ne]at e1
  cbv
  exact fy hF rfl ⟨by simp [mkV,e1],rfl⟩
 rw [bj hg,zqq]at e1
 subst e1
 cbv
 cases e2:g .q .neq a2 b2
 case true=>
  rw [bj hg,bne_iff_ne]at e2
  cbv
  exact fy hF rfl ⟨by simp [mkV,e2],rfl⟩
 rw [bj hg,zqq]at e2
 subst e2
 cbv
 exact fy hF rfl ⟨by simp [mkV],rfl⟩
theorem mO(x:az):PC0 10 [.agg (lc (az.c x))] (.t (.agg (lc (az.c x)))):=by
 obtain⟨a0,a1⟩:=x
 refine ae (aK f10) ay func10 fun g F hg hF=> ?_
 cbv
 exact fy hF rfl ⟨rfl,rfl⟩
theorem vH(x y:ar):PC0 51 [.agg (lc (ar.c x)),.agg (lc (ar.c y))] (.t (abl (decide (x=y)))):=by
 obtain⟨a0,a1,a2,a3,a4,a5,a6⟩:=x
 obtain⟨b0,b1,b2,b3,b4,b5,b6⟩:=y
 refine ae (aK f51) ay func51 fun g F hg hF=> ?_
 cbv
 cases e0:g .q .neq a0 b0
 case true=>
  rw [bj hg,bne_iff_ne]at e0
  cbv
  exact fy hF rfl ⟨by simp [mkV,e0],rfl⟩
 rw [bj hg,zqq]at e0
 subst e0
 cbv
 cases e1:g .q .neq a1 b1
 case true=>
  rw [bj hg,bne_iff_ne]at e1
  cbv
  exact fy hF rfl ⟨by simp [mkV,e1],rfl⟩
 rw [bj hg,zqq]at e1
 subst e1
 cbv
 cases e2:g .q .neq a2 b2
 case true=>
  rw [bj hg,bne_iff_ne]at e2
  cbv
  exact fy hF rfl ⟨by simp [mkV,e2],rfl⟩
 rw [bj hg,zqq]at e2
 subst e2
 cbv
 cases e3:g .qb .neq a3 b3
 case true=>
  rw [eY hg,bne_iff_ne]at e3
  cbv
  exact fy hF rfl ⟨by simp [mkV,e3],rfl⟩
 rw [eY hg,zqq]at e3
 subst e3
 cbv
 cases e4:g .qb .neq a4 b4
 case true=>
  rw [eY hg,bne_iff_ne]at e4
  cbv
  exact fy hF rfl ⟨by simp [mkV,e4],rfl⟩
 rw [eY hg,zqq]at e4
 subst e4
 cbv
 cases e5:g .q .neq a5 b5
 case true=>
  rw [bj hg,bne_iff_ne]at e5
  cbv
  exact fy hF rfl ⟨by simp [mkV,e5],rfl⟩
 rw [bj hg,zqq]at e5
 subst e5
 cbv
 cases e6:g .q .neq a6 b6
 case true=>
  rw [bj hg,bne_iff_ne]at e6
  cbv
  exact fy hF rfl ⟨by simp [mkV,e6],rfl⟩
 rw [bj hg,zqq]at e6
 subst e6
 cbv
 exact fy hF rfl ⟨by simp [mkV],rfl⟩
theorem tx(V:LLA)(L:Int)(hV:V.length<=9223372036854775807)(h0:0<=L)(h1:L<=1048576):PC0 193 [.c (.view V),ai L] (.i (szR (aM V) L)):=by
 obtain⟨M,hM⟩:=nmE (aM V)
 have ha:0<=M:=by rw [hM,aj];omega
 have hb:M<=9223372036854775807:=by rw [hM,aj];omega
 rw [<-hM]
 refine ae (aK f193) ay func193 fun g F hg hF=> ?_
 cbv
 have e1:g .w .sub .i64 L (g .ln V)=L-M:=by rw [dq hg,bA hg,<-hM,aq _ (by omega)]
 obtain⟨D,hD⟩:=nmE (L-M)
 rw [<-hD]at e1
 rw [e1]
 cases e:g .q .lss D 0
 ·rw [bg hg,zqo]at e
  cbv
  exact aU hF (by unfold szR;rw [<-hD,if_neg e])
 ·rw [bg hg,zqp]at e
  cbv
  exact aU hF (by unfold szR;rw [<-hD,if_pos e])
theorem mP(xs:List aI)(hl:xs.length<=1048576):cV prog 213 [.c (.view (vw aI.c xs))] fun res ha=>∃ab,res= .o 0/\ha=[ab]/\(ab.es.all fun x=>x.all du)=true/\ab=⟨193,3,vw aI.c xs⟩:=by
 obtain⟨V,hV⟩:=nmE (vw aI.c xs)
 have he:=lmV hV
 rw [<-hV]
 refine ae (aK f213) ay func213 fun g F hg hF=> ?_
 cbv
 refine FM hg (by decide) (by rw [he];exact hl) ?_
 cbv
 have hd:qT 3 V (List.replicate (g .ln V).toNat [.J 0,.J 0,.J 0]) 0:=qT.start (k:=3) (z:=[.J 0,.J 0,.J 0]) rfl rfl (bA hg V)
 refine bO hg ay (by kernel_rfl) (fun s:Int×LLA=>[(0,.v V),(3,.o 0),(4,.i s.1)]) (fun s=>[.rw ⟨193,3,s.2⟩]) (fun s=>qT 3 V s.2 s.1) (fun s=>V.length-s.1.toNat)
  (0,g .rp (g .ln V) [.J 0,.J 0,.J 0]) [some 0] ?_ (wkS [0] (by decide) ⟨⟨_,rfl,rfl,?_⟩,trivial⟩ zr3) (fun s B hs hB=> ?_)
 ·simp only [yE hg];exact hd
 ·simp only [yE hg];exact hd.pl
 ·obtain⟨z,es⟩:=s
  simp only at hs
  have h0:=hs.z0
  have h1:=hs.z1
  cbv
  cases hc:g .q .lss z (g .ln V)
  ·cbv
   rw [bg hg,bA hg,zqo]at hc
   obtain rfl:=hs.done hc
   exact JJ _ hF rfl hs.pl ⟨_,rfl,rfl,hs.pl,by rw [hV]⟩
  ·cbv
   rw [bg hg,bA hg,zqp]at hc
   have hf:=aj V
   obtain⟨x,hx⟩:=qc (xs:=xs) h0 (by omega)
   have hy:V[z.toNat]? =some (lc (aI.c x)):=by rw [hV];exact ba hx
   obtain⟨a0,a1,a2⟩:=x
   refine goX hg _ h0 hy rfl ?_
   cbv
   refine ad hg (vy ⟨a0,a1,a2⟩) ?_
   cbv
   refine goY hg h0 (by have:=hs.len;have:=aj V;have:aM es=(es.length:Int):=rfl;show z<aM es;omega) (fun j hj hh=> ?_)
   cbv
   refine goN hg (hs.mem hh) ?_
   cbv
   have hf:=aj V
   have h2:g .w .add .i64 z 1=z+1:=by rw [aJ hg,aq _ (by omega)]
   rw [h2,i7 hg]
   have hb:=hs.step hc hj hy rfl rfl
   exact ib hB (z+1,_) [some 0] (wkS [0] (by decide) ⟨⟨_,rfl,rfl,hb.pl⟩,trivial⟩ zr3) hb (by show V.length-(z+1).toNat<V.length-z.toNat;omega)
theorem tE(xs ys:List aI)(hl:xs.length<=1048576):PC0 231 [.c (.view (vw aI.c xs)),.c (.view (vw aI.c ys))] (.t (abl (decide (xs=ys)))):=by
 obtain⟨V,hV⟩:=nmE (vw aI.c xs)
 obtain⟨W,hW⟩:=nmE (vw aI.c ys)
 have hb:=lmV hV
 have hd:=lmV hW
 rw [<-hV,<-hW]
 refine ae (aK f231) ay func231 fun g F hg hF=> ?_
 cbv
 cases e0:g .q .neq (g .ln V) (g .ln W)
 case true=>
  rw [bj hg,bne_iff_ne,bA hg,bA hg]at e0
  cbv
  refine fy hF rfl ⟨?_,rfl⟩
  have:¬xs=ys:=fun h=>e0 (by rw [aj,aj,hb,hd,h])
  simp [mkV,this]
 rw [bj hg,zqq,bA hg,bA hg]at e0
 have hm:xs.length=ys.length:=by have:=aj V;have:=aj W;omega
 cbv
 refine bO hg ay (by kernel_rfl) (fun z:Int=>[(0,.v V),(1,.v W),(5,.i z)]) (fun _=>[]) (fun z=>0<=z/\z<=aM V/\∀i:Nat,i<z.toNat->xs[i]? =ys[i]?) (fun z=>xs.length-z.toNat)
  0 [] ⟨by omega,by have:=aj V;omega,fun i hi=>by simp at hi⟩ (wk0 zr3) (fun z B hs hB=> ?_)
 obtain⟨h0,h1,h2⟩:=hs
 cbv
 cases hc:g .q .lss z (g .ln V)
 ·cbv
  rw [bg hg,bA hg,zqo]at hc
  refine fy hF rfl ⟨?_,rfl⟩
  have:xs=ys:=by
   have ha:=aj V
   refine List.ext_getElem? fun i=> ?_
   by_cases hi:i<xs.length
   ·exact h2 i (by omega)
   ·rw [zqz (by omega),zqz (by omega)]
  simp [mkV,this]
 ·cbv
  rw [bg hg,bA hg,zqp]at hc
  have ha:=aj V
  obtain⟨x,hx⟩:=qc (xs:=xs) h0 (by omega)
  obtain⟨y,hy⟩:=qc (xs:=ys) h0 (by omega)
  have hh:V[z.toNat]? =some (lc (aI.c x)):=by rw [hV];exact ba hx
  have hk:W[z.toNat]? =some (lc (aI.c y)):=by rw [hW];exact ba hy
  have hf:¬x=y->¬xs=ys:=fun h he=>h (by subst he;rw [hx]at hy;exact Option.some.inj hy)
  obtain⟨a0,a1,a2⟩:=x
  obtain⟨b0,b1,b2⟩:=y
  refine goX hg _ h0 hh rfl ?_
  cbv
  refine goX hg _ h0 hk rfl ?_
  cbv
  refine aa hg (vJ ⟨a0,a1,a2⟩ ⟨b0,b1,b2⟩) ?_
  cbv
  obtain⟨D,hD⟩:∃D:Bool,D=decide ((⟨a0,a1,a2⟩:aI)=⟨b0,b1,b2⟩):=⟨_,rfl⟩
  rw [<-hD]
  cases D
  ·cbv
   refine fy hF rfl ⟨?_,rfl⟩
   simp [mkV,hf (by simpa using hD.symm)]
  ·cbv
   have hj:(⟨a0,a1,a2⟩:aI)=⟨b0,b1,b2⟩:=by simpa using hD.symm
   have ha:=aj V
   have h3:g .w .add .i64 z 1=z+1:=by rw [aJ hg,aq _ (by omega)]
   rw [h3]
   refine ib hB (z+1) [] (wk0 zr3) ⟨by omega,by omega,fun i hi=> ?_⟩ (by omega)
   by_cases hi2:i<z.toNat
   ·exact h2 i hi2
   ·rw [show i=z.toNat by omega,hx,hy,hj]
theorem tD(xs ys:List ar)(hl:xs.length<=1048576):PC0 24 [.c (.view (vw ar.c xs)),.c (.view (vw ar.c ys))] (.t (abl (decide (xs=ys)))):=by
 obtain⟨V,hV⟩:=nmE (vw ar.c xs)
 obtain⟨W,hW⟩:=nmE (vw ar.c ys)
 have hb:=lmV hV
 have hd:=lmV hW
 rw [<-hV,<-hW]
 refine ae (aK f24) ay func24 fun g F hg hF=> ?_
 cbv
 cases e0:g .q .neq (g .ln V) (g .ln W)
 case true=>
  rw [bj hg,bne_iff_ne,bA hg,bA hg]at e0
  cbv
  refine fy hF rfl ⟨?_,rfl⟩
  have:¬xs=ys:=fun h=>e0 (by rw [aj,aj,hb,hd,h])
  simp [mkV,this]
 rw [bj hg,zqq,bA hg,bA hg]at e0
 have hm:xs.length=ys.length:=by have:=aj V;have:=aj W;omega
 cbv
 refine bO hg ay (by kernel_rfl) (fun z:Int=>[(0,.v V),(1,.v W),(5,.i z)]) (fun _=>[]) (fun z=>0<=z/\z<=aM V/\∀i:Nat,i<z.toNat->xs[i]? =ys[i]?) (fun z=>xs.length-z.toNat)
  0 [] ⟨by omega,by have:=aj V;omega,fun i hi=>by simp at hi⟩ (wk0 zr3) (fun z B hs hB=> ?_)
 obtain⟨h0,h1,h2⟩:=hs
 cbv
 cases hc:g .q .lss z (g .ln V)
 ·cbv
  rw [bg hg,bA hg,zqo]at hc
  refine fy hF rfl ⟨?_,rfl⟩
  have:xs=ys:=by
   have ha:=aj V
   refine List.ext_getElem? fun i=> ?_
   by_cases hi:i<xs.length
   ·exact h2 i (by omega)
   ·rw [zqz (by omega),zqz (by omega)]
  simp [mkV,this]
 ·cbv
  rw [bg hg,bA hg,zqp]at hc
  have ha:=aj V
  obtain⟨x,hx⟩:=qc (xs:=xs) h0 (by omega)
  obtain⟨y,hy⟩:=qc (xs:=ys) h0 (by omega)
  have hh:V[z.toNat]? =some (lc (ar.c x)):=by rw [hV];exact ba hx
  have hk:W[z.toNat]? =some (lc (ar.c y)):=by rw [hW];exact ba hy
  have hf:¬x=y->¬xs=ys:=fun h he=>h (by subst he;rw [hx]at hy;exact Option.some.inj hy)
  obtain⟨a0,a1,a2,a3,a4,a5,a6⟩:=x
  obtain⟨b0,b1,b2,b3,b4,b5,b6⟩:=y
  refine goX hg _ h0 hh rfl ?_
  cbv
  refine goX hg _ h0 hk rfl ?_
  cbv
  refine aa hg (vH ⟨a0,a1,a2,a3,a4,a5,a6⟩ ⟨b0,b1,b2,b3,b4,b5,b6⟩) ?_
  cbv
  obtain⟨D,hD⟩:∃D:Bool,D=decide ((⟨a0,a1,a2,a3,a4,a5,a6⟩:ar)=⟨b0,b1,b2,b3,b4,b5,b6⟩):=⟨_,rfl⟩
  rw [<-hD]
  cases D
  ·cbv
   refine fy hF rfl ⟨?_,rfl⟩
   simp [mkV,hf (by simpa using hD.symm)]
  ·cbv
   have hj:(⟨a0,a1,a2,a3,a4,a5,a6⟩:ar)=⟨b0,b1,b2,b3,b4,b5,b6⟩:=by simpa using hD.symm
   have ha:=aj V
   have h3:g .w .add .i64 z 1=z+1:=by rw [aJ hg,aq _ (by omega)]
   rw [h3]
   refine ib hB (z+1) [] (wk0 zr3) ⟨by omega,by omega,fun i hi=> ?_⟩ (by omega)
   by_cases hi2:i<z.toNat
   ·exact h2 i hi2
   ·rw [show i=z.toNat by omega,hx,hy,hj]
theorem vE(V:LLA)(L:Int)(hV:V.length<=9223372036854775807)(h0:0<=L)(h1:L<=1048576):PC0 117 [.c (.view V),ai L] (.i (szR (aM V) L)):=by
 obtain⟨M,hM⟩:=nmE (aM V)
 have ha:0<=M:=by rw [hM,aj];omega
 have hb:M<=9223372036854775807:=by rw [hM,aj];omega
 rw [<-hM]
 refine ae (aK f117) ay func117 fun g F hg hF=> ?_
 cbv
 have e1:g .w .sub .i64 L (g .ln V)=L-M:=by rw [dq hg,bA hg,<-hM,aq _ (by omega)]
 obtain⟨D,hD⟩:=nmE (L-M)
 rw [<-hD]at e1
 rw [e1]
 cases e:g .q .lss D 0
 ·rw [bg hg,zqo]at e
  cbv
  exact aU hF (by unfold szR;rw [<-hD,if_neg e])
 ·rw [bg hg,zqp]at e
  cbv
  exact aU hF (by unfold szR;rw [<-hD,if_pos e])
theorem og(xs:List Int)(hl:xs.length<=1048576):cV prog 144 [.c (.view (vw ah xs))] fun res ha=>∃ab,res= .o 0/\ha=[ab]/\(ab.es.all fun x=>x.all du)=true/\ab=⟨3,1,vw ah xs⟩:=by
 obtain⟨V,hV⟩:=nmE (vw ah xs)
 have he:=lmV hV
 rw [<-hV]
 refine ae (aK f144) ay func144 fun g F hg hF=> ?_
 cbv
 refine FM hg (by decide) (by rw [he];exact hl) ?_
 cbv
 have hd:qT 1 V (List.replicate (g .ln V).toNat [.J 0]) 0:=qT.start (k:=1) (z:=[.J 0]) rfl rfl (bA hg V)
 refine bO hg ay (by kernel_rfl) (fun s:Int×LLA=>[(0,.v V),(3,.o 0),(4,.i s.1)]) (fun s=>[.rw ⟨3,1,s.2⟩]) (fun s=>qT 1 V s.2 s.1) (fun s=>V.length-s.1.toNat)
  (0,g .rp (g .ln V) [.J 0]) [some 0] ?_ (wkS [0] (by decide) ⟨⟨_,rfl,rfl,?_⟩,trivial⟩ zr3) (fun s B hs hB=> ?_)
 ·simp only [yE hg];exact hd
 ·simp only [yE hg];exact hd.pl
 ·obtain⟨z,es⟩:=s
  simp only at hs
  have h0:=hs.z0
  have h1:=hs.z1
  cbv
  cases hc:g .q .lss z (g .ln V)
  ·cbv
   rw [bg hg,bA hg,zqo]at hc
   obtain rfl:=hs.done hc
   exact JJ _ hF rfl hs.pl ⟨_,rfl,rfl,hs.pl,by rw [hV]⟩
  ·cbv
   rw [bg hg,bA hg,zqp]at hc
   have hf:=aj V
   obtain⟨x,hx⟩:=qc (xs:=xs) h0 (by omega)
   have hy:V[z.toNat]? =some (lc (ah x)):=by rw [hV];exact ba hx
   refine goX hg _ h0 hy rfl ?_
   cbv
   refine goY hg h0 (by have:=hs.len;have:=aj V;have:aM es=(es.length:Int):=rfl;show z<aM es;omega) (fun j hj hh=> ?_)
   cbv
   refine goN hg (hs.mem hh) ?_
   cbv
   have hf:=aj V
   have h2:g .w .add .i64 z 1=z+1:=by rw [aJ hg,aq _ (by omega)]
   rw [h2,i7 hg]
   have hb:=hs.step hc hj hy rfl rfl
   exact ib hB (z+1,_) [some 0] (wkS [0] (by decide) ⟨⟨_,rfl,rfl,hb.pl⟩,trivial⟩ zr3) hb (by show V.length-(z+1).toNat<V.length-z.toNat;omega)
theorem vM(xs ys:List Int)(hl:xs.length<=1048576):PC0 12 [.c (.view (vw ah xs)),.c (.view (vw ah ys))] (.t (abl (decide (xs=ys)))):=by
 obtain⟨V,hV⟩:=nmE (vw ah xs)
 obtain⟨W,hW⟩:=nmE (vw ah ys)
 have hb:=lmV hV
 have hd:=lmV hW
 rw [<-hV,<-hW]
 refine ae (aK f12) ay func12 fun g F hg hF=> ?_
 cbv
 cases e0:g .q .neq (g .ln V) (g .ln W)
 case true=>
  rw [bj hg,bne_iff_ne,bA hg,bA hg]at e0
  cbv
  refine fy hF rfl ⟨?_,rfl⟩
  have:¬xs=ys:=fun h=>e0 (by rw [aj,aj,hb,hd,h])
  simp [mkV,this]
 rw [bj hg,zqq,bA hg,bA hg]at e0
 have hm:xs.length=ys.length:=by have:=aj V;have:=aj W;omega
 cbv
 refine bO hg ay (by kernel_rfl) (fun z:Int=>[(0,.v V),(1,.v W),(5,.i z)]) (fun _=>[]) (fun z=>0<=z/\z<=aM V/\∀i:Nat,i<z.toNat->xs[i]? =ys[i]?) (fun z=>xs.length-z.toNat)
  0 [] ⟨by omega,by have:=aj V;omega,fun i hi=>by simp at hi⟩ (wk0 zr3) (fun z B hs hB=> ?_)
 obtain⟨h0,h1,h2⟩:=hs
 cbv
 cases hc:g .q .lss z (g .ln V)
 ·cbv
  rw [bg hg,bA hg,zqo]at hc
  refine fy hF rfl ⟨?_,rfl⟩
  have:xs=ys:=by
   have ha:=aj V
   refine List.ext_getElem? fun i=> ?_
   by_cases hi:i<xs.length
   ·exact h2 i (by omega)
   ·rw [zqz (by omega),zqz (by omega)]
  simp [mkV,this]
 ·cbv
  rw [bg hg,bA hg,zqp]at hc
  have ha:=aj V
  obtain⟨x,hx⟩:=qc (xs:=xs) h0 (by omega)
  obtain⟨y,hy⟩:=qc (xs:=ys) h0 (by omega)
  have hh:V[z.toNat]? =some (lc (ah x)):=by rw [hV];exact ba hx
  have hk:W[z.toNat]? =some (lc (ah y)):=by rw [hW];exact ba hy
  have hf:¬x=y->¬xs=ys:=fun h he=>h (by subst he;rw [hx]at hy;exact Option.some.inj hy)
  refine goX hg _ h0 hh rfl ?_
  cbv
  refine goX hg _ h0 hk rfl ?_
  cbv
  cases hD:g .q .neq x y
  ·cbv
   have hj:x=y:=by rw [bj hg,zqq]at hD;exact hD
   have ha:=aj V
   have h3:g .w .add .i64 z 1=z+1:=by rw [aJ hg,aq _ (by omega)]
   rw [h3]
   refine ib hB (z+1) [] (wk0 zr3) ⟨by omega,by omega,fun i hi=> ?_⟩ (by omega)
   by_cases hi2:i<z.toNat
   ·exact h2 i hi2
   ·rw [show i=z.toNat by omega,hx,hy,hj]
  ·cbv
   refine fy hF rfl ⟨?_,rfl⟩
   simp [mkV,hf (by rw [bj hg,bne_iff_ne]at hD;exact hD)]
def iu(n l m:Int):Int:=if(if m<0 then n else if m<n then m else n)<l then l else if m<0 then n else if m<n then m else n
def yk(f:α->Int)(xs:List α)(n:Nat):Int:=((xs.take n).map f).sum
theorem jE(f:α->Int)(xs:List α):yk f xs 0=0:=by simp [yk]
theorem jF(f:α->Int){n:Nat}{x:α}(h:xs[n]? =some x):yk f xs (n+1)=yk f xs n+f x:=by
 simp [yk,List.take_add_one,h]
theorem mf(f:α->Int){n:Nat}(h:xs.length<=n):yk f xs n=(xs.map f).sum:=by
 rw [yk,List.take_of_length_le h]
theorem nt(a b:Int):wrap64 (wrap64 a+b)=wrap64 (a+b):=by unfold wrap64;omega
theorem tZ(a b:Int):wrap64 (a+wrap64 b)=wrap64 (a+b):=by unfold wrap64;omega
theorem Br{c:α->Array Value}(hk:∀x,(c x).size=k):∀y∈vw c xs,y.length=k:=by
 intro y hy
 simp only [vw,List.mem_map]at hy
 obtain⟨x,_,rfl⟩:=hy
 rw [Ii];exact hk x
theorem kmV{c:α->Array Value}(h:V=vw c xs)(hk:∀x,(c x).size=k):∀y∈V,y.length=k:=by rw [h];exact Br hk
theorem Ij(a:Array Value):(lc a).all dat=true:=by simp [lc,dat]
theorem pt{c:α->Array Value}:∀y∈vw c xs,y.all dat=true:=by
 intro y hy
 simp only [vw,List.mem_map]at hy
 obtain⟨x,_,rfl⟩:=hy
 exact Ij _
theorem dmV{c:α->Array Value}(h:V=vw c xs):∀y∈V,y.all dat=true:=by rw [h];exact pt
def hyp(x:ag):Int:=iu x.base x.least x.most
theorem jO(n l m:Int):PC0 190 [ai n,ai l,ai m] (.i (iu n l m)):=by
 refine ae (aK f190) ay func190 fun g F hg hF=> ?_
 cbv
 cases e1:g .q .geq m 0
 ·rw [iU hg,zqo]at e1
  cbv
  cases e3:g .q .lss n l
  ·rw [bg hg,zqo]at e3
   cbv
   exact aU hF (by unfold iu;omega)
  ·rw [bg hg,zqp]at e3
   cbv
   exact aU hF (by unfold iu;omega)
 ·rw [iU hg,zqp]at e1
  cbv
  cases e2:g .q .gtr n m
  ·rw [da hg,zqo]at e2
   cbv
   cases e3:g .q .lss n l
   ·rw [bg hg,zqo]at e3
    cbv
    exact aU hF (by unfold iu;omega)
   ·rw [bg hg,zqp]at e3
    cbv
    exact aU hF (by unfold iu;omega)
  ·rw [da hg,zqp]at e2
   cbv
   cases e3:g .q .lss m l
   ·rw [bg hg,zqo]at e3
    cbv
    exact aU hF (by unfold iu;omega)
   ·rw [bg hg,zqp]at e3
    cbv
    exact aU hF (by unfold iu;omega)
theorem j7(n l m:Int):PC0 192 [ai n,ai l,ai m] (.i (iu n l m)):=by
 refine ae (aK f192) ay func192 fun g F hg hF=> ?_
 cbv
 cases e1:g .q .geq m 0
 ·rw [iU hg,zqo]at e1
  cbv
  exact aU hF (by rw [FL hg];unfold iu;omega)
 ·rw [iU hg,zqp]at e1
  cbv
  exact aU hF (by rw [FL hg,Jj hg];unfold iu;omega)
theorem jb(x:ag):PC0 259 [.agg (lc (ag.c x))] (.i (hyp x)):=by
 obtain⟨a0,a1,a2,a3,a4,a5,a6,a7,a8⟩:=x
 obtain⟨R,hR⟩:=nmE (iu a0 a1 a2)
 have hc:=jO a0 a1 a2
 rw [<-hR]at hc
 refine ae (aK f259) ay func259 fun g F hg hF=> ?_
 cbv
 refine ad hg hc ?_
 cbv
 exact aU hF (by rw [hR];rfl)
theorem jh(x:ag):PC0 222 [.agg (lc (ag.c x))] (.i (hyp x)):=by
 obtain⟨a0,a1,a2,a3,a4,a5,a6,a7,a8⟩:=x
 obtain⟨R,hR⟩:=nmE (iu a0 a1 a2)
 have hc:=j7 a0 a1 a2
 rw [<-hR]at hc
 refine ae (aK f222) ay func222 fun g F hg hF=> ?_
 cbv
 refine ad hg hc ?_
 cbv
 exact aU hF (by rw [hR];rfl)
end Go.Proofs.YtkicjdeddpihaaaGreat
