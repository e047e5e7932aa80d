/- Numbers, lengths, sides and bounds, as maps of data. -/
import Derived.Test.YtckchgoblpgpbaaGreatJ5ar
set_option linter.unusedVariables false
set_option linter.unusedSimpArgs false
set_option maxHeartbeats 8000000
namespace Go.Proofs.YtckchgoblpgpbaaGreat
open Go.ChangeShapes Go.WideShapes Go.ChangeAt Go.RowKit Am Go.Proofs.Tryz
set_option maxRecDepth 100000
abbrev ai(n:Int):AT:= .c (.J n)
abbrev abl(b:Bool):AT:= .c (.B b)
theorem FH(a:Array Value):(lc a).length=a.size:=by simp [lc]
theorem Ce(a:Array Value):(lc a).all dP=true:=by simp [lc,dP]
variable {α:Type}
theorem aF(c:α->Array Value)(xs:List α):aC (vw c xs)=true:=by
 simp only [aC,vw,List.all_map,zqf]
 intro x _
 exact Ce _
variable {xs:List α}{V:LLA}
theorem pmV{c:α->Array Value}(h:V=vw c xs):aC V=true:=by rw [h];exact aF _ _
theorem Fk{es:List α}{j i:Nat}{x:α}(hj:j<es.length):(es.set j x)[i]? =if i=j then some x else es[i]? :=by
 rw [List.getElem?_set]
 by_cases h:j=i
 ·subst h;simp [hj]
 ·rw [if_neg h,if_neg (fun h'=>h h'.symm)]
structure u9(k:Nat)(V es:LLA)(z:Int):Prop where
 z0:0<=z
 z1:z<=aX V
 len:es.length=V.length
 ks:∀e∈es,e.length=k
 pl:aC es=true
 eq:∀i:Nat,i<z.toNat->es[i]? =V[i]?
variable {k:Nat}
theorem u9.start{z:List AC}(hk:z.length=k)(hp:z.all dP=true){n:Int}(hn:n=aX V):u9 k V (List.replicate n.toNat z) 0:=
 ⟨by omega,by have:=az V;omega,by have:=az V;simp;omega,fun e he=>by rw [(List.mem_replicate.1 he).2];exact hk,by simp [aC,hp],fun i hi=>by simp at hi⟩
variable {z:Int}
theorem u9.step{V es:LLA}{j:Nat}{y:List AC}(h:u9 k V es z)(hz:z<aX V)(hj:j=z.toNat)(hy:V[z.toNat]? =some y)(hk:y.length=k)(hp:y.all dP=true):u9 k V (es.set j y) (z+1):=by
 have:=h.z0
 have:=h.len
 have:=az V
 refine⟨by omega,by omega,by simpa using h.len,fun e he=> ?_,?_,fun i hi=> ?_⟩
 ·rcases List.mem_or_eq_of_mem_set he with h1|rfl
  ·exact h.ks e h1
  ·exact hk
 ·rw [aC,zqf]
  intro e he
  rcases List.mem_or_eq_of_mem_set he with h1|rfl
  ·exact List.all_eq_true.1 h.pl e h1
  ·exact hp
 ·rw [Fk (by omega)]
  by_cases hij:i=j
  ·rw [if_pos hij,hij,hj,hy]
  ·rw [if_neg hij];exact h.eq i (by omega)
theorem u9.done{V es:LLA}(h:u9 k V es z)(hz:¬z<aX V):es=V:=by
 have:=az V
 have:=h.z1
 have:=h.len
 refine List.ext_getElem? fun i=> ?_
 by_cases hi:i<V.length
 ·exact h.eq i (by omega)
 ·rw [zqz (by omega),zqz (by omega)]
theorem u9.mem{V es:LLA}(h:u9 k V es z){j:Nat}(hj:j<es.length):∃e,es[j]? =some e/\e.length=k:=⟨es[j],zqc hj,h.ks _ (List.getElem_mem hj)⟩
def szR(n left:Int):Int:=if left-n<0 then-1 else left-n
theorem aw(n:Int)(h: -9223372036854775808<=n/\n<=9223372036854775807):wrap64 n=n:=IntWalk.wrap64_in n h
theorem aR(x:dm):PC0 160 [.agg (lc (dm.c x))] (.t (.agg (lc (dm.c x)))):=by
 obtain⟨a0,a1⟩:=x
 refine ae (aJ f160) ay func160 fun g F hg hF=> ?_
 cbv
 exact fg hF rfl ⟨rfl,rfl⟩
theorem bA(x y:dm):PC0 200 [.agg (lc (dm.c x)),.agg (lc (dm.c y))] (.t (abl (decide (x=y)))):=by
 obtain⟨a0,a1⟩:=x
 obtain⟨b0,b1⟩:=y
 refine ae (aJ f200) ay func200 fun g F hg hF=> ?_
 cbv
 cases e0:g .q .neq a0 b0
 case true=>
  rw [bn hg,bne_iff_ne]at e0
  cbv
  exact fg hF rfl ⟨by simp [mkV,e0],rfl⟩
 rw [bn hg,zqq]at e0
 subst e0
 cbv
 cases e1:g .q .neq a1 b1
 case true=>
  rw [bn hg,bne_iff_ne]at e1
  cbv
  exact fg hF rfl ⟨by simp [mkV,e1],rfl⟩
 rw [bn hg,zqq]at e1
 subst e1
 cbv
 exact fg hF rfl ⟨by simp [mkV],rfl⟩
theorem gx(x:bg):PC0 161 [.agg (lc (bg.c x))] (.t (.agg (lc (bg.c x)))):=by
 obtain⟨⟨a0,a1⟩,⟨a2,a3⟩,⟨a4,a5⟩,⟨a6,a7⟩,⟨a8,a9⟩,⟨ha,hb⟩⟩:=x
 refine ae (aJ f161) ay func161 fun g F hg hF=> ?_
 cbv
 (first|refine fQ hg (aR (⟨a0,a1⟩:dm)) rfl rfl ?_|refine dy hg (aR (⟨a0,a1⟩:dm)) rfl rfl ?_)
 cbv
 (first|refine fQ hg (aR (⟨a2,a3⟩:dm)) rfl rfl ?_|refine dy hg (aR (⟨a2,a3⟩:dm)) rfl rfl ?_)
 cbv
 (first|refine fQ hg (aR (⟨a4,a5⟩:dm)) rfl rfl ?_|refine dy hg (aR (⟨a4,a5⟩:dm)) rfl rfl ?_)
 cbv
 (first|refine fQ hg (aR (⟨a6,a7⟩:dm)) rfl rfl ?_|refine dy hg (aR (⟨a6,a7⟩:dm)) rfl rfl ?_)
 cbv
 (first|refine fQ hg (aR (⟨a8,a9⟩:dm)) rfl rfl ?_|refine dy hg (aR (⟨a8,a9⟩:dm)) rfl rfl ?_)
 cbv
 (first|refine fQ hg (aR (⟨ha,hb⟩:dm)) rfl rfl ?_|refine dy hg (aR (⟨ha,hb⟩:dm)) rfl rfl ?_)
 cbv
 exact fg hF rfl ⟨rfl,rfl⟩
theorem mr(x y:bg):PC0 201 [.agg (lc (bg.c x)),.agg (lc (bg.c y))] (.t (abl (decide (x=y)))):=by
 obtain⟨⟨a0,a1⟩,⟨a2,a3⟩,⟨a4,a5⟩,⟨a6,a7⟩,⟨a8,a9⟩,⟨ha,hb⟩⟩:=x
 obtain⟨⟨b0,b1⟩,⟨b2,b3⟩,⟨b4,b5⟩,⟨b6,b7⟩,⟨b8,b9⟩,⟨hc,he⟩⟩:=y
 refine ae (aJ f201) ay func201 fun g F hg hF=> ?_
 cbv
 (first|refine bz hg (bA (⟨a0,a1⟩:dm) (⟨b0,b1⟩:dm)) rfl (fun R0 hf=> ?_)|refine bd hg (bA (⟨a0,a1⟩:dm) (⟨b0,b1⟩:dm)) rfl (fun R0 hf=> ?_))
 cases R0
 case false=>
  cbv
  refine fg hF rfl ⟨?_,rfl⟩
  have hd:=of_decide_eq_false hf.symm
  have:¬(⟨⟨a0,a1⟩,⟨a2,a3⟩,⟨a4,a5⟩,⟨a6,a7⟩,⟨a8,a9⟩,⟨ha,hb⟩⟩:bg)=⟨⟨b0,b1⟩,⟨b2,b3⟩,⟨b4,b5⟩,⟨b6,b7⟩,⟨b8,b9⟩,⟨hc,he⟩⟩:=fun h=>hd (by simp only [bg.mk.injEq]at h;simp only [h])
  simp only [mkV,this,decide_false]
 have e0:=of_decide_eq_true hf.symm
 clear hf
 simp only [dm.mk.injEq,bg.mk.injEq,bS.mk.injEq,aI.mk.injEq]at e0
 obtain⟨rfl,rfl⟩:=e0
 cbv
 (first|refine bz hg (bA (⟨a2,a3⟩:dm) (⟨b2,b3⟩:dm)) rfl (fun R1 hh=> ?_)|refine bd hg (bA (⟨a2,a3⟩:dm) (⟨b2,b3⟩:dm)) rfl (fun R1 hh=> ?_))
 cases R1
 case false=>
  cbv
  refine fg hF rfl ⟨?_,rfl⟩
  have hd:=of_decide_eq_false hh.symm
  have:¬(⟨⟨a0,a1⟩,⟨a2,a3⟩,⟨a4,a5⟩,⟨a6,a7⟩,⟨a8,a9⟩,⟨ha,hb⟩⟩:bg)=⟨⟨a0,a1⟩,⟨b2,b3⟩,⟨b4,b5⟩,⟨b6,b7⟩,⟨b8,b9⟩,⟨hc,he⟩⟩:=fun h=>hd (by simp only [bg.mk.injEq]at h;simp only [h])
  simp only [mkV,this,decide_false]
 have e1:=of_decide_eq_true hh.symm
 clear hh
 simp only [dm.mk.injEq,bg.mk.injEq,bS.mk.injEq,aI.mk.injEq]at e1
 obtain⟨rfl,rfl⟩:=e1
 cbv
 (first|refine bz hg (bA (⟨a4,a5⟩:dm) (⟨b4,b5⟩:dm)) rfl (fun R2 hi=> ?_)|refine bd hg (bA (⟨a4,a5⟩:dm) (⟨b4,b5⟩:dm)) rfl (fun R2 hi=> ?_))
 cases R2
 case false=>
  cbv
  refine fg hF rfl ⟨?_,rfl⟩
  have hd:=of_decide_eq_false hi.symm
  have:¬(⟨⟨a0,a1⟩,⟨a2,a3⟩,⟨a4,a5⟩,⟨a6,a7⟩,⟨a8,a9⟩,⟨ha,hb⟩⟩:bg)=⟨⟨a0,a1⟩,⟨a2,a3⟩,⟨b4,b5⟩,⟨b6,b7⟩,⟨b8,b9⟩,⟨hc,he⟩⟩:=fun h=>hd (by simp only [bg.mk.injEq]at h;simp only [h])
  simp only [mkV,this,decide_false]
 have e2:=of_decide_eq_true hi.symm
 clear hi
 simp only [dm.mk.injEq,bg.mk.injEq,bS.mk.injEq,aI.mk.injEq]at e2
 obtain⟨rfl,rfl⟩:=e2
 cbv
 (first|refine bz hg (bA (⟨a6,a7⟩:dm) (⟨b6,b7⟩:dm)) rfl (fun R3 hj=> ?_)|refine bd hg (bA (⟨a6,a7⟩:dm) (⟨b6,b7⟩:dm)) rfl (fun R3 hj=> ?_))
 cases R3
 case false=>
  cbv
  refine fg hF rfl ⟨?_,rfl⟩
  have hd:=of_decide_eq_false hj.symm
  have:¬(⟨⟨a0,a1⟩,⟨a2,a3⟩,⟨a4,a5⟩,⟨a6,a7⟩,⟨a8,a9⟩,⟨ha,hb⟩⟩:bg)=⟨⟨a0,a1⟩,⟨a2,a3⟩,⟨a4,a5⟩,⟨b6,b7⟩,⟨b8,b9⟩,⟨hc,he⟩⟩:=fun h=>hd (by simp only [bg.mk.injEq]at h;simp only [h])
  simp only [mkV,this,decide_false]
 have e3:=of_decide_eq_true hj.symm
 clear hj
 simp only [dm.mk.injEq,bg.mk.injEq,bS.mk.injEq,aI.mk.injEq]at e3
 obtain⟨rfl,rfl⟩:=e3
 cbv
 (first|refine bz hg (bA (⟨a8,a9⟩:dm) (⟨b8,b9⟩:dm)) rfl (fun R4 hk=> ?_)|refine bd hg (bA (⟨a8,a9⟩:dm) (⟨b8,b9⟩:dm)) rfl (fun R4 hk=> ?_))
 cases R4
 case false=>
  cbv
  refine fg hF rfl ⟨?_,rfl⟩
  have hd:=of_decide_eq_false hk.symm
  have:¬(⟨⟨a0,a1⟩,⟨a2,a3⟩,⟨a4,a5⟩,⟨a6,a7⟩,⟨a8,a9⟩,⟨ha,hb⟩⟩:bg)=⟨⟨a0,a1⟩,⟨a2,a3⟩,⟨a4,a5⟩,⟨a6,a7⟩,⟨b8,b9⟩,⟨hc,he⟩⟩:=fun h=>hd (by simp only [bg.mk.injEq]at h;simp only [h])
  simp only [mkV,this,decide_false]
 have e4:=of_decide_eq_true hk.symm
 clear hk
 simp only [dm.mk.injEq,bg.mk.injEq,bS.mk.injEq,aI.mk.injEq]at e4
 obtain⟨rfl,rfl⟩:=e4
 cbv
 (first|refine bz hg (bA (⟨ha,hb⟩:dm) (⟨hc,he⟩:dm)) rfl (fun R5 hl=> ?_)|refine bd hg (bA (⟨ha,hb⟩:dm) (⟨hc,he⟩:dm)) rfl (fun R5 hl=> ?_))
 cases R5
 case false=>
  cbv
  refine fg hF rfl ⟨?_,rfl⟩
  have hd:=of_decide_eq_false hl.symm
  have:¬(⟨⟨a0,a1⟩,⟨a2,a3⟩,⟨a4,a5⟩,⟨a6,a7⟩,⟨a8,a9⟩,⟨ha,hb⟩⟩:bg)=⟨⟨a0,a1⟩,⟨a2,a3⟩,⟨a4,a5⟩,⟨a6,a7⟩,⟨a8,a9⟩,⟨hc,he⟩⟩:=fun h=>hd (by simp only [bg.mk.injEq]at h;simp only [h])
  simp only [mkV,this,decide_false]
 have e5:=of_decide_eq_true hl.symm
 clear hl
 simp only [dm.mk.injEq,bg.mk.injEq,bS.mk.injEq,aI.mk.injEq]at e5
 obtain⟨rfl,rfl⟩:=e5
 cbv
 exact fg hF rfl ⟨by simp [mkV],rfl⟩
theorem gy(x:bS):PC0 162 [.agg (lc (bS.c x))] (.t (.agg (lc (bS.c x)))):=by
 obtain⟨a0,a1,a2,a3⟩:=x
 refine ae (aJ f162) ay func162 fun g F hg hF=> ?_
 cbv
 exact fg hF rfl ⟨rfl,rfl⟩
theorem mt(x y:bS):PC0 202 [.agg (lc (bS.c x)),.agg (lc (bS.c y))] (.t (abl (decide (x=y)))):=by
 obtain⟨a0,a1,a2,a3⟩:=x
 obtain⟨b0,b1,b2,b3⟩:=y
 refine ae (aJ f202) ay func202 fun g F hg hF=> ?_
 cbv
 cases e0:g .q .neq a0 b0
 case true=>
  rw [bn hg,bne_iff_ne]at e0
  cbv
  exact fg hF rfl ⟨by simp [mkV,e0],rfl⟩
 rw [bn hg,zqq]at e0
 subst e0
 cbv
 cases e1:g .q .neq a1 b1
 case true=>
  rw [bn hg,bne_iff_ne]at e1
  cbv
  exact fg hF rfl ⟨by simp [mkV,e1],rfl⟩
 rw [bn hg,zqq]at e1
 subst e1
 cbv
 cases e2:g .q .neq a2 b2
 case true=>
  rw [bn hg,bne_iff_ne]at e2
  cbv
  exact fg hF rfl ⟨by simp [mkV,e2],rfl⟩
 rw [bn hg,zqq]at e2
 subst e2
 cbv
 cases e3:g .q .neq a3 b3
 case true=>
  rw [bn hg,bne_iff_ne]at e3
  cbv
  exact fg hF rfl ⟨by simp [mkV,e3],rfl⟩
 rw [bn hg,zqq]at e3
 subst e3
 cbv
 exact fg hF rfl ⟨by simp [mkV],rfl⟩
theorem mq(x:aj):PC0 118 [.agg (lc (aj.c x))] (.t (.agg (lc (aj.c x)))):=by
 obtain⟨a0,a1,a2,a3,a4,a5,a6,a7,a8,a9,hW,⟨ha,hb⟩,⟨hc,hd⟩,⟨he,hf⟩,⟨hh,hi⟩,⟨hj,hk⟩,⟨hl,hm⟩,⟨hn,ho⟩,hX,⟨⟨hp,hq⟩,⟨hr,hs⟩,⟨ht,hu⟩,⟨hv,hw⟩,⟨hx,hy⟩,⟨hz,hA⟩⟩,⟨⟨hB,hC⟩,⟨hD,hE⟩,⟨hG,hH⟩,⟨hI,hJ⟩,⟨hK,hL⟩,⟨hM,hN⟩⟩,⟨hO,hP,hQ,hR⟩,⟨hS,hT,hU,hV⟩,hY,hZ⟩:=x
 refine ae (aJ f118) ay func118 fun g F hg hF=> ?_
 cbv
 (first|refine fQ hg (aR (⟨ha,hb⟩:dm)) rfl rfl ?_|refine dy hg (aR (⟨ha,hb⟩:dm)) rfl rfl ?_)
 cbv
 (first|refine fQ hg (aR (⟨hc,hd⟩:dm)) rfl rfl ?_|refine dy hg (aR (⟨hc,hd⟩:dm)) rfl rfl ?_)
 cbv
 (first|refine fQ hg (aR (⟨he,hf⟩:dm)) rfl rfl ?_|refine dy hg (aR (⟨he,hf⟩:dm)) rfl rfl ?_)
 cbv
 (first|refine fQ hg (aR (⟨hh,hi⟩:dm)) rfl rfl ?_|refine dy hg (aR (⟨hh,hi⟩:dm)) rfl rfl ?_)
 cbv
 (first|refine fQ hg (aR (⟨hj,hk⟩:dm)) rfl rfl ?_|refine dy hg (aR (⟨hj,hk⟩:dm)) rfl rfl ?_)
 cbv
 (first|refine fQ hg (aR (⟨hl,hm⟩:dm)) rfl rfl ?_|refine dy hg (aR (⟨hl,hm⟩:dm)) rfl rfl ?_)
 cbv
 (first|refine fQ hg (aR (⟨hn,ho⟩:dm)) rfl rfl ?_|refine dy hg (aR (⟨hn,ho⟩:dm)) rfl rfl ?_)
 cbv
 (first|refine fQ hg (gx (⟨⟨hp,hq⟩,⟨hr,hs⟩,⟨ht,hu⟩,⟨hv,hw⟩,⟨hx,hy⟩,⟨hz,hA⟩⟩:bg)) rfl rfl ?_|refine dy hg (gx (⟨⟨hp,hq⟩,⟨hr,hs⟩,⟨ht,hu⟩,⟨hv,hw⟩,⟨hx,hy⟩,⟨hz,hA⟩⟩:bg)) rfl rfl ?_)
 cbv
 (first|refine fQ hg (gx (⟨⟨hB,hC⟩,⟨hD,hE⟩,⟨hG,hH⟩,⟨hI,hJ⟩,⟨hK,hL⟩,⟨hM,hN⟩⟩:bg)) rfl rfl ?_|refine dy hg (gx (⟨⟨hB,hC⟩,⟨hD,hE⟩,⟨hG,hH⟩,⟨hI,hJ⟩,⟨hK,hL⟩,⟨hM,hN⟩⟩:bg)) rfl rfl ?_)
 cbv
 (first|refine fQ hg (gy (⟨hO,hP,hQ,hR⟩:bS)) rfl rfl ?_|refine dy hg (gy (⟨hO,hP,hQ,hR⟩:bS)) rfl rfl ?_)
 cbv
 (first|refine fQ hg (gy (⟨hS,hT,hU,hV⟩:bS)) rfl rfl ?_|refine dy hg (gy (⟨hS,hT,hU,hV⟩:bS)) rfl rfl ?_)
 cbv
 exact fg hF rfl ⟨rfl,rfl⟩
theorem rY(x y:aj):PC0 136 [.agg (lc (aj.c x)),.agg (lc (aj.c y))] (.t (abl (decide (x=y)))):=by
 refine ae (aJ f136) ay func136 fun g F hg hF=> ?_
 cbv
 iterate 25
  first
   |(
    generalize e:g .q .neq _ _=r
    cases r
    rotate_left
    ·rw [bn hg,bne_iff_ne]at e
     cbv
     exact fg hF rfl ⟨by simp [mkV,show¬x=y from fun h=>e (by rw [h])],rfl⟩
    rw [bn hg,zqq]at e)
   |(
    generalize e:g .qb .neq _ _=r
    cases r
    rotate_left
    ·rw [fT hg,bne_iff_ne]at e
     cbv
     exact fg hF rfl ⟨by simp [mkV,show¬x=y from fun h=>e (by rw [h])],rfl⟩
    rw [fT hg,zqq]at e)
   |(
    first|refine bz hg (bA _ _) rfl (fun R e=> ?_)|refine bd hg (bA _ _) rfl (fun R e=> ?_)|refine bz hg (mr _ _) rfl (fun R e=> ?_)|refine bd hg (mr _ _) rfl (fun R e=> ?_)|refine bz hg (mt _ _) rfl (fun R e=> ?_)|refine bd hg (mt _ _) rfl (fun R e=> ?_)
    cases R
    ·replace e:=of_decide_eq_false e.symm
     cbv
     exact fg hF rfl ⟨by simp [mkV,show¬x=y from fun h=>e (by rw [h])],rfl⟩
    replace e:=of_decide_eq_true e.symm)
  cbv
 obtain rfl:x=y:=by
  cases x
  cases y
  simp_all
 exact fg hF rfl ⟨by simp [mkV],rfl⟩
theorem uf(x:aO):PC0 228 [.agg (lc (aO.c x))] (.t (.agg (lc (aO.c x)))):=by
 obtain⟨a0,a1,a2⟩:=x
 refine ae (aJ f228) ay func228 fun g F hg hF=> ?_
 cbv
 exact fg hF rfl ⟨rfl,rfl⟩
theorem um(x y:aO):PC0 254 [.agg (lc (aO.c x)),.agg (lc (aO.c y))] (.t (abl (decide (x=y)))):=by
 obtain⟨a0,a1,a2⟩:=x
 obtain⟨b0,b1,b2⟩:=y
 refine ae (aJ f254) ay func254 fun g F hg hF=> ?_
 cbv
 cases e0:g .q .neq a0 b0
 case true=>
  rw [bn hg,bne_iff_ne]at e0
  cbv
  exact fg hF rfl ⟨by simp [mkV,e0],rfl⟩
 rw [bn hg,zqq]at e0
 subst e0
 cbv
 cases e1:g .q .neq a1 b1
 case true=>
  rw [bn hg,bne_iff_ne]at e1
  cbv
  exact fg hF rfl ⟨by simp [mkV,e1],rfl⟩
 rw [bn hg,zqq]at e1
 subst e1
 cbv
 cases e2:g .q .neq a2 b2
 case true=>
  rw [bn hg,bne_iff_ne]at e2
  cbv
  exact fg hF rfl ⟨by simp [mkV,e2],rfl⟩
 rw [bn hg,zqq]at e2
 subst e2
 cbv
 exact fg hF rfl ⟨by simp [mkV],rfl⟩
theorem r7(x y:aM):PC0 19 [.agg (lc (aM.c x)),.agg (lc (aM.c y))] (.t (abl (decide (x=y)))):=by
 obtain⟨a0,a1,a2,a3,a4⟩:=x
 obtain⟨b0,b1,b2,b3,b4⟩:=y
 refine ae (aJ f19) ay func19 fun g F hg hF=> ?_
 cbv
 cases e0:g .q .neq a0 b0
 case true=>
  rw [bn hg,bne_iff_ne]at e0
  cbv
  exact fg hF rfl ⟨by simp [mkV,e0],rfl⟩
 rw [bn hg,zqq]at e0
 subst e0
 cbv
 cases e1:g .q .neq a1 b1
 case true=>
  rw [bn hg,bne_iff_ne]at e1
  cbv
  exact fg hF rfl ⟨by simp [mkV,e1],rfl⟩
 rw [bn hg,zqq]at e1
 subst e1
 cbv
 cases e2:g .q .neq a2 b2
 case true=>
  rw [bn hg,bne_iff_ne]at e2
  cbv
  exact fg hF rfl ⟨by simp [mkV,e2],rfl⟩
 rw [bn hg,zqq]at e2
 subst e2
 cbv
 cases e3:g .q .neq a3 b3
 case true=>
  rw [bn hg,bne_iff_ne]at e3
  cbv
  exact fg hF rfl ⟨by simp [mkV,e3],rfl⟩
 rw [bn hg,zqq]at e3
 subst e3
 cbv
 cases e4:g .q .neq a4 b4
 case true=>
  rw [bn hg,bne_iff_ne]at e4
  cbv
  exact fg hF rfl ⟨by simp [mkV,e4],rfl⟩
 rw [bn hg,zqq]at e4
 subst e4
 cbv
 exact fg hF rfl ⟨by simp [mkV],rfl⟩
theorem rU(V:LLA)(L:Int)(hV:V.length<=9223372036854775807)(h0:0<=L)(h1:L<=1048576):PC0 142 [.c (.view V),ai L] (.i (szR (aX V) L)):=by
 obtain⟨M,hM⟩:=nmE (aX V)
 have ha:0<=M:=by rw [hM,az];omega
 have hb:M<=9223372036854775807:=by rw [hM,az];omega
 rw [<-hM]
 refine ae (aJ f142) ay func142 fun g F hg hF=> ?_
 cbv
 have e1:g .w .sub .i64 L (g .ln V)=L-M:=by rw [bZ hg,bF hg,<-hM,aw _ (by omega)]
 obtain⟨D,hD⟩:=nmE (L-M)
 rw [<-hD]at e1
 rw [e1]
 cases e:g .q .lss D 0
 ·rw [bh hg,zqo]at e
  cbv
  exact aV hF (by unfold szR;rw [<-hD,if_neg e])
 ·rw [bh hg,zqp]at e
  cbv
  exact aV hF (by unfold szR;rw [<-hD,if_pos e])
theorem rR(xs:List aO)(hl:xs.length<=1048576):dc prog 163 [.c (.view (vw aO.c xs))] fun res ha=>∃ab,res= .o 0/\ha=[ab]/\(ab.es.all fun x=>x.all dP)=true/\ab=⟨147,3,vw aO.c xs⟩:=by
 obtain⟨V,hV⟩:=nmE (vw aO.c xs)
 have he:=lmV hV
 rw [<-hV]
 refine ae (aJ f163) ay func163 fun g F hg hF=> ?_
 cbv
 refine Ep hg (by decide) (by rw [he];exact hl) ?_
 cbv
 have hd:u9 3 V (List.replicate (g .ln V).toNat [.J 0,.J 0,.J 0]) 0:=u9.start (k:=3) (z:=[.J 0,.J 0,.J 0]) rfl rfl (bF hg V)
 refine bM hg ay (by kernel_rfl) (fun s:Int×LLA=>[(0,.v V),(3,.o 0),(4,.i s.1)]) (fun s=>[.rw ⟨147,3,s.2⟩]) (fun s=>u9 3 V s.2 s.1) (fun s=>V.length-s.1.toNat)
  (0,g .rp (g .ln V) [.J 0,.J 0,.J 0]) [some 0] ?_ (wkS [0] (by decide) ⟨⟨_,rfl,rfl,?_⟩,trivial⟩ zr3) (fun s B hs hB=> ?_)
 ·simp only [zf hg];exact hd
 ·simp only [zf hg];exact hd.pl
 ·obtain⟨z,es⟩:=s
  simp only at hs
  have h0:=hs.z0
  have h1:=hs.z1
  cbv
  cases hc:g .q .lss z (g .ln V)
  ·cbv
   rw [bh hg,bF hg,zqo]at hc
   obtain rfl:=hs.done hc
   exact Hb _ hF rfl hs.pl ⟨_,rfl,rfl,hs.pl,by rw [hV]⟩
  ·cbv
   rw [bh hg,bF hg,zqp]at hc
   have hf:=az V
   obtain⟨x,hx⟩:=oL (xs:=xs) h0 (by omega)
   have hy:V[z.toNat]? =some (lc (aO.c x)):=by rw [hV];exact bf hx
   obtain⟨a0,a1,a2⟩:=x
   refine goX hg _ h0 hy rfl ?_
   cbv
   refine ad hg (uf ⟨a0,a1,a2⟩) ?_
   cbv
   refine goY hg h0 (by have:=hs.len;have:=az V;have:aX es=(es.length:Int):=rfl;show z<aX es;omega) (fun j hj hh=> ?_)
   cbv
   refine goN hg (hs.mem hh) ?_
   cbv
   have hf:=az V
   have h2:g .w .add .i64 z 1=z+1:=by rw [aN hg,aw _ (by omega)]
   rw [h2,mP hg]
   have hb:=hs.step hc hj hy rfl rfl
   exact gg hB (z+1,_) [some 0] (wkS [0] (by decide) ⟨⟨_,rfl,rfl,hb.pl⟩,trivial⟩ zr3) hb (by show V.length-(z+1).toNat<V.length-z.toNat;omega)
theorem rZ(xs ys:List aO)(hl:xs.length<=1048576):PC0 203 [.c (.view (vw aO.c xs)),.c (.view (vw aO.c ys))] (.t (abl (decide (xs=ys)))):=by
 obtain⟨V,hV⟩:=nmE (vw aO.c xs)
 obtain⟨W,hW⟩:=nmE (vw aO.c ys)
 have hb:=lmV hV
 have hd:=lmV hW
 rw [<-hV,<-hW]
 refine ae (aJ f203) ay func203 fun g F hg hF=> ?_
 cbv
 cases e0:g .q .neq (g .ln V) (g .ln W)
 case true=>
  rw [bn hg,bne_iff_ne,bF hg,bF hg]at e0
  cbv
  refine fg hF rfl ⟨?_,rfl⟩
  have:¬xs=ys:=fun h=>e0 (by rw [az,az,hb,hd,h])
  simp [mkV,this]
 rw [bn hg,zqq,bF hg,bF hg]at e0
 have hm:xs.length=ys.length:=by have:=az V;have:=az W;omega
 cbv
 refine bM hg ay (by kernel_rfl) (fun z:Int=>[(0,.v V),(1,.v W),(5,.i z)]) (fun _=>[]) (fun z=>0<=z/\z<=aX V/\∀i:Nat,i<z.toNat->xs[i]? =ys[i]?) (fun z=>xs.length-z.toNat)
  0 [] ⟨by omega,by have:=az V;omega,fun i hi=>by simp at hi⟩ (wk0 zr3) (fun z B hs hB=> ?_)
 obtain⟨h0,h1,h2⟩:=hs
 cbv
 cases hc:g .q .lss z (g .ln V)
 ·cbv
  rw [bh hg,bF hg,zqo]at hc
  refine fg hF rfl ⟨?_,rfl⟩
  have:xs=ys:=by
   have ha:=az V
   refine List.ext_getElem? fun i=> ?_
   by_cases hi:i<xs.length
   ·exact h2 i (by omega)
   ·rw [zqz (by omega),zqz (by omega)]
  simp [mkV,this]
 ·cbv
  rw [bh hg,bF hg,zqp]at hc
  have ha:=az V
  obtain⟨x,hx⟩:=oL (xs:=xs) h0 (by omega)
  obtain⟨y,hy⟩:=oL (xs:=ys) h0 (by omega)
  have hh:V[z.toNat]? =some (lc (aO.c x)):=by rw [hV];exact bf hx
  have hk:W[z.toNat]? =some (lc (aO.c y)):=by rw [hW];exact bf hy
  have hf:¬x=y->¬xs=ys:=fun h he=>h (by subst he;rw [hx]at hy;exact Option.some.inj hy)
  obtain⟨a0,a1,a2⟩:=x
  obtain⟨b0,b1,b2⟩:=y
  refine goX hg _ h0 hh rfl ?_
  cbv
  refine goX hg _ h0 hk rfl ?_
  cbv
  refine aa hg (um ⟨a0,a1,a2⟩ ⟨b0,b1,b2⟩) ?_
  cbv
  obtain⟨D,hD⟩:∃D:Bool,D=decide ((⟨a0,a1,a2⟩:aO)=⟨b0,b1,b2⟩):=⟨_,rfl⟩
  rw [<-hD]
  cases D
  ·cbv
   refine fg hF rfl ⟨?_,rfl⟩
   simp [mkV,hf (by simpa using hD.symm)]
  ·cbv
   have hj:(⟨a0,a1,a2⟩:aO)=⟨b0,b1,b2⟩:=by simpa using hD.symm
   have ha:=az V
   have h3:g .w .add .i64 z 1=z+1:=by rw [aN hg,aw _ (by omega)]
   rw [h3]
   refine gg hB (z+1) [] (wk0 zr3) ⟨by omega,by omega,fun i hi=> ?_⟩ (by omega)
   by_cases hi2:i<z.toNat
   ·exact h2 i hi2
   ·rw [show i=z.toNat by omega,hx,hy,hj]
theorem uk(V:LLA)(L:Int)(hV:V.length<=9223372036854775807)(h0:0<=L)(h1:L<=1048576):PC0 101 [.c (.view V),ai L] (.i (szR (aX V) L)):=by
 obtain⟨M,hM⟩:=nmE (aX V)
 have ha:0<=M:=by rw [hM,az];omega
 have hb:M<=9223372036854775807:=by rw [hM,az];omega
 rw [<-hM]
 refine ae (aJ f101) ay func101 fun g F hg hF=> ?_
 cbv
 have e1:g .w .sub .i64 L (g .ln V)=L-M:=by rw [bZ hg,bF hg,<-hM,aw _ (by omega)]
 obtain⟨D,hD⟩:=nmE (L-M)
 rw [<-hD]at e1
 rw [e1]
 cases e:g .q .lss D 0
 ·rw [bh hg,zqo]at e
  cbv
  exact aV hF (by unfold szR;rw [<-hD,if_neg e])
 ·rw [bh hg,zqp]at e
  cbv
  exact aV hF (by unfold szR;rw [<-hD,if_pos e])
theorem uh(xs:List Int)(hl:xs.length<=1048576):dc prog 117 [.c (.view (vw ak xs))] fun res ha=>∃ab,res= .o 0/\ha=[ab]/\(ab.es.all fun x=>x.all dP)=true/\ab=⟨3,1,vw ak xs⟩:=by
 obtain⟨V,hV⟩:=nmE (vw ak xs)
 have he:=lmV hV
 rw [<-hV]
 refine ae (aJ f117) ay func117 fun g F hg hF=> ?_
 cbv
 refine Ep hg (by decide) (by rw [he];exact hl) ?_
 cbv
 have hd:u9 1 V (List.replicate (g .ln V).toNat [.J 0]) 0:=u9.start (k:=1) (z:=[.J 0]) rfl rfl (bF hg V)
 refine bM hg ay (by kernel_rfl) (fun s:Int×LLA=>[(0,.v V),(3,.o 0),(4,.i s.1)]) (fun s=>[.rw ⟨3,1,s.2⟩]) (fun s=>u9 1 V s.2 s.1) (fun s=>V.length-s.1.toNat)
  (0,g .rp (g .ln V) [.J 0]) [some 0] ?_ (wkS [0] (by decide) ⟨⟨_,rfl,rfl,?_⟩,trivial⟩ zr3) (fun s B hs hB=> ?_)
 ·simp only [zf hg];exact hd
 ·simp only [zf hg];exact hd.pl
 ·obtain⟨z,es⟩:=s
  simp only at hs
  have h0:=hs.z0
  have h1:=hs.z1
  cbv
  cases hc:g .q .lss z (g .ln V)
  ·cbv
   rw [bh hg,bF hg,zqo]at hc
   obtain rfl:=hs.done hc
   exact Hb _ hF rfl hs.pl ⟨_,rfl,rfl,hs.pl,by rw [hV]⟩
  ·cbv
   rw [bh hg,bF hg,zqp]at hc
   have hf:=az V
   obtain⟨x,hx⟩:=oL (xs:=xs) h0 (by omega)
   have hy:V[z.toNat]? =some (lc (ak x)):=by rw [hV];exact bf hx
   refine goX hg _ h0 hy rfl ?_
   cbv
   refine goY hg h0 (by have:=hs.len;have:=az V;have:aX es=(es.length:Int):=rfl;show z<aX es;omega) (fun j hj hh=> ?_)
   cbv
   refine goN hg (hs.mem hh) ?_
   cbv
   have hf:=az V
   have h2:g .w .add .i64 z 1=z+1:=by rw [aN hg,aw _ (by omega)]
   rw [h2,mP hg]
   have hb:=hs.step hc hj hy rfl rfl
   exact gg hB (z+1,_) [some 0] (wkS [0] (by decide) ⟨⟨_,rfl,rfl,hb.pl⟩,trivial⟩ zr3) hb (by show V.length-(z+1).toNat<V.length-z.toNat;omega)
theorem ur(xs ys:List Int)(hl:xs.length<=1048576):PC0 135 [.c (.view (vw ak xs)),.c (.view (vw ak ys))] (.t (abl (decide (xs=ys)))):=by
 obtain⟨V,hV⟩:=nmE (vw ak xs)
 obtain⟨W,hW⟩:=nmE (vw ak ys)
 have hb:=lmV hV
 have hd:=lmV hW
 rw [<-hV,<-hW]
 refine ae (aJ f135) ay func135 fun g F hg hF=> ?_
 cbv
 cases e0:g .q .neq (g .ln V) (g .ln W)
 case true=>
  rw [bn hg,bne_iff_ne,bF hg,bF hg]at e0
  cbv
  refine fg hF rfl ⟨?_,rfl⟩
  have:¬xs=ys:=fun h=>e0 (by rw [az,az,hb,hd,h])
  simp [mkV,this]
 rw [bn hg,zqq,bF hg,bF hg]at e0
 have hm:xs.length=ys.length:=by have:=az V;have:=az W;omega
 cbv
 refine bM hg ay (by kernel_rfl) (fun z:Int=>[(0,.v V),(1,.v W),(5,.i z)]) (fun _=>[]) (fun z=>0<=z/\z<=aX V/\∀i:Nat,i<z.toNat->xs[i]? =ys[i]?) (fun z=>xs.length-z.toNat)
  0 [] ⟨by omega,by have:=az V;omega,fun i hi=>by simp at hi⟩ (wk0 zr3) (fun z B hs hB=> ?_)
 obtain⟨h0,h1,h2⟩:=hs
 cbv
 cases hc:g .q .lss z (g .ln V)
 ·cbv
  rw [bh hg,bF hg,zqo]at hc
  refine fg hF rfl ⟨?_,rfl⟩
  have:xs=ys:=by
   have ha:=az V
   refine List.ext_getElem? fun i=> ?_
   by_cases hi:i<xs.length
   ·exact h2 i (by omega)
   ·rw [zqz (by omega),zqz (by omega)]
  simp [mkV,this]
 ·cbv
  rw [bh hg,bF hg,zqp]at hc
  have ha:=az V
  obtain⟨x,hx⟩:=oL (xs:=xs) h0 (by omega)
  obtain⟨y,hy⟩:=oL (xs:=ys) h0 (by omega)
  have hh:V[z.toNat]? =some (lc (ak x)):=by rw [hV];exact bf hx
  have hk:W[z.toNat]? =some (lc (ak y)):=by rw [hW];exact bf hy
  have hf:¬x=y->¬xs=ys:=fun h he=>h (by subst he;rw [hx]at hy;exact Option.some.inj hy)
  refine goX hg _ h0 hh rfl ?_
  cbv
  refine goX hg _ h0 hk rfl ?_
  cbv
  cases hD:g .q .neq x y
  ·cbv
   have hj:x=y:=by rw [bn hg,zqq]at hD;exact hD
   have ha:=az V
   have h3:g .w .add .i64 z 1=z+1:=by rw [aN hg,aw _ (by omega)]
   rw [h3]
   refine gg hB (z+1) [] (wk0 zr3) ⟨by omega,by omega,fun i hi=> ?_⟩ (by omega)
   by_cases hi2:i<z.toNat
   ·exact h2 i hi2
   ·rw [show i=z.toNat by omega,hx,hy,hj]
  ·cbv
   refine fg hF rfl ⟨?_,rfl⟩
   simp [mkV,hf (by rw [bn hg,bne_iff_ne]at hD;exact hD)]
def il(n l m:Int):Int:=if(if m<0 then n else if m<n then m else n)<l then l else if m<0 then n else if m<n then m else n
def wQ(f:α->Int)(xs:List α)(n:Nat):Int:=((xs.take n).map f).sum
theorem jj(f:α->Int)(xs:List α):wQ f xs 0=0:=by simp [wQ]
theorem jk(f:α->Int){n:Nat}{x:α}(h:xs[n]? =some x):wQ f xs (n+1)=wQ f xs n+f x:=by
 simp [wQ,List.take_add_one,h]
theorem lD(f:α->Int){n:Nat}(h:xs.length<=n):wQ f xs n=(xs.map f).sum:=by
 rw [wQ,List.take_of_length_le h]
theorem mQ(a b:Int):wrap64 (wrap64 a+b)=wrap64 (a+b):=by unfold wrap64;omega
theorem sx(a b:Int):wrap64 (a+wrap64 b)=wrap64 (a+b):=by unfold wrap64;omega
theorem BH{c:α->Array Value}(hk:∀x,(c x).size=k):∀y∈vw c xs,y.length=k:=by
 intro y hy
 simp only [vw,List.mem_map]at hy
 obtain⟨x,_,rfl⟩:=hy
 rw [FH];exact hk x
theorem kmV{c:α->Array Value}(h:V=vw c xs)(hk:∀x,(c x).size=k):∀y∈V,y.length=k:=by rw [h];exact BH hk
theorem FI(a:Array Value):(lc a).all dat=true:=by simp [lc,dat]
theorem pJ{c:α->Array Value}:∀y∈vw c xs,y.all dat=true:=by
 intro y hy
 simp only [vw,List.mem_map]at hy
 obtain⟨x,_,rfl⟩:=hy
 exact FI _
theorem dmV{c:α->Array Value}(h:V=vw c xs):∀y∈V,y.all dat=true:=by rw [h];exact pJ
def hyp(x:ag):Int:=il x.base x.least x.most
theorem jA(n l m:Int):PC0 112 [ai n,ai l,ai m] (.i (il n l m)):=by
 refine ae (aJ f112) ay func112 fun g F hg hF=> ?_
 cbv
 cases e1:g .q .geq m 0
 ·rw [iu hg,zqo]at e1
  cbv
  cases e3:g .q .lss n l
  ·rw [bh hg,zqo]at e3
   cbv
   exact aV hF (by unfold il;omega)
  ·rw [bh hg,zqp]at e3
   cbv
   exact aV hF (by unfold il;omega)
 ·rw [iu hg,zqp]at e1
  cbv
  cases e2:g .q .gtr n m
  ·rw [cu hg,zqo]at e2
   cbv
   cases e3:g .q .lss n l
   ·rw [bh hg,zqo]at e3
    cbv
    exact aV hF (by unfold il;omega)
   ·rw [bh hg,zqp]at e3
    cbv
    exact aV hF (by unfold il;omega)
  ·rw [cu hg,zqp]at e2
   cbv
   cases e3:g .q .lss m l
   ·rw [bh hg,zqo]at e3
    cbv
    exact aV hF (by unfold il;omega)
   ·rw [bh hg,zqp]at e3
    cbv
    exact aV hF (by unfold il;omega)
theorem jN(n l m:Int):PC0 129 [ai n,ai l,ai m] (.i (il n l m)):=by
 refine ae (aJ f129) ay func129 fun g F hg hF=> ?_
 cbv
 cases e1:g .q .geq m 0
 ·rw [iu hg,zqo]at e1
  cbv
  exact aV hF (by rw [Du hg];unfold il;omega)
 ·rw [iu hg,zqp]at e1
  cbv
  exact aV hF (by rw [Du hg,GH hg];unfold il;omega)
theorem iA(x:ag):PC0 315 [.agg (lc (ag.c x))] (.i (hyp x)):=by
 obtain⟨a0,a1,a2,a3,a4,a5,a6,a7,a8⟩:=x
 obtain⟨R,hR⟩:=nmE (il a0 a1 a2)
 have hc:=jA a0 a1 a2
 rw [<-hR]at hc
 refine ae (aJ f315) ay func315 fun g F hg hF=> ?_
 cbv
 refine ad hg hc ?_
 cbv
 exact aV hF (by rw [hR];rfl)
theorem iI(x:ag):PC0 309 [.agg (lc (ag.c x))] (.i (hyp x)):=by
 obtain⟨a0,a1,a2,a3,a4,a5,a6,a7,a8⟩:=x
 obtain⟨R,hR⟩:=nmE (il a0 a1 a2)
 have hc:=jN a0 a1 a2
 rw [<-hR]at hc
 refine ae (aJ f309) ay func309 fun g F hg hF=> ?_
 cbv
 refine ad hg hc ?_
 cbv
 exact aV hF (by rw [hR];rfl)
def bro(n l m:Int):Int:=if m<l\/n<l then l else if m<n then m else n
def cl(n:Int):Int:=bro n 0 1048576
def sg(n:Int):Int:=bro n (-1048576) 1048576
def fdv(a b:Int):Int:=if b<1 then 0 else if a.tmod b<0 then wrap64 (wrap64 (a.tdiv b)-1)else wrap64 (a.tdiv b)
def kn(v:dm)(base:Int):Bool:=decide (v.kind=1)||(decide (v.kind=2)&&decide (0<=base))
def Dj(v:dm)(base:Int):Int:=if kn v base=false then-1 else if v.kind=1 then v.n else fdv (wrap64 (cl base*bro v.n (-1000000) 1000000)) 100
def sF(v:dm)(base:Int):Int:=if kn v base=false then-1 else cl (Dj v base)
def orl(n m:Int):Int:=if n= -1 then m else n
def nh(s:bg)(sd:Int)(rtl:Bool):dm:=
 if sd=1 then s.top else if sd=3 then s.bottom
 else if sd=0 then(if(if rtl then s.fin else s.start).kind≠0 then(if rtl then s.fin else s.start)else s.left)
 else if sd=2 then(if(if rtl then s.start else s.fin).kind≠0 then(if rtl then s.start else s.fin)else s.right)else⟨0,0⟩
def adE(a b:Int):Int:=cl (wrap64 (cl a+cl b))
def Hc(a b:bS):bS:=⟨adE a.left b.left,adE a.top b.top,adE a.right b.right,adE a.bottom b.bottom⟩
def lw(s:aj):bS:=Hc s.pad s.border
def sY(s:aj)(wide:Bool):Int:=if wide then adE (lw s).left (lw s).right else adE (lw s).top (lw s).bottom
def Ar(s:aj)(wide:Bool)(base:Int):Int:=if sY s wide<orl (sF (if wide then s.minWidth else s.minHeight) base) 0 then orl (sF (if wide then s.minWidth else s.minHeight) base) 0 else sY s wide
def BA(s:aj)(wide:Bool)(base:Int):Int:=sF (if wide then s.maxWidth else s.maxHeight) base
def ly(s:aj)(wide:Bool)(base n:Int):Int:=cl (il n (Ar s wide base) (BA s wide base))
def ph(s:aj)(wide:Bool)(base:Int):Int:=sF (if wide then s.width else s.height) base
theorem eI(n l m:Int):PC0 146 [ai n,ai l,ai m] (.i (bro n l m)):=by
 refine ae (aJ f146) ay func146 fun g F hg hF=> ?_
 cbv
 repeat'(first|(split<;>rename_i hh<;>(try rw [hh])<;>(try simp only [da hg]at hh)<;>cbv))
 all_goals exact aV hF (by unfold bro;grind)
theorem eX(n l m:Int):PC0 192 [ai n,ai l,ai m] (.i (bro n l m)):=by
 refine ae (aJ f192) ay func192 fun g F hg hF=> ?_
 cbv
 repeat'(first|(split<;>rename_i hh<;>(try rw [hh])<;>(try simp only [da hg]at hh)<;>cbv))
 all_goals exact aV hF (by unfold bro;grind)
theorem bI(n l m:Int):PC0 39 [ai n,ai l,ai m] (.t (abl (decide (l<=n)&&decide (n<=m)))):=by
 refine ae (aJ f39) ay func39 fun g F hg hF=> ?_
 cbv
 repeat'(first|(split<;>rename_i hh<;>(try rw [hh])<;>(try simp only [da hg]at hh)<;>cbv))
 all_goals exact bk hF (by(try simp only [iy hg,iu hg]);grind)
theorem db(n l m:Int):PC0 68 [ai n,ai l,ai m] (.t (abl (decide (l<=n)&&decide (n<=m)))):=by
 refine ae (aJ f68) ay func68 fun g F hg hF=> ?_
 cbv
 repeat'(first|(split<;>rename_i hh<;>(try rw [hh])<;>(try simp only [da hg]at hh)<;>cbv))
 all_goals exact bk hF (by(try simp only [iy hg,iu hg]);grind)
theorem aG(n:Int):PC0 107 [ai n] (.i (cl n)):=by
 refine ae (aJ f107) ay func107 fun g F hg hF=> ?_
 cbv
 repeat'(first|(refine ba hg (eI _ _ _) rfl (fun R0 ha=> ?_);cbv)|(split<;>rename_i hh<;>(try rw [hh])<;>(try simp only [da hg]at hh)<;>cbv))
 all_goals exact aV hF (by subst_vars;rfl)
theorem aK(n:Int):PC0 128 [ai n] (.i (cl n)):=by
 refine ae (aJ f128) ay func128 fun g F hg hF=> ?_
 cbv
 repeat'(first|(refine ba hg (eX _ _ _) rfl (fun R0 ha=> ?_);cbv)|(split<;>rename_i hh<;>(try rw [hh])<;>(try simp only [da hg]at hh)<;>cbv))
 all_goals exact aV hF (by subst_vars;rfl)
theorem bD(n:Int):PC0 158 [ai n] (.i (sg n)):=by
 refine ae (aJ f158) ay func158 fun g F hg hF=> ?_
 cbv
 repeat'(first|(refine ba hg (eI _ _ _) rfl (fun R0 ha=> ?_);cbv)|(split<;>rename_i hh<;>(try rw [hh])<;>(try simp only [da hg]at hh)<;>cbv))
 all_goals exact aV hF (by subst_vars;rfl)
theorem bN(n:Int):PC0 198 [ai n] (.i (sg n)):=by
 refine ae (aJ f198) ay func198 fun g F hg hF=> ?_
 cbv
 repeat'(first|(refine ba hg (eX _ _ _) rfl (fun R0 ha=> ?_);cbv)|(split<;>rename_i hh<;>(try rw [hh])<;>(try simp only [da hg]at hh)<;>cbv))
 all_goals exact aV hF (by subst_vars;rfl)
theorem p9(n:Int):PC0 227 [ai n] (.i (bro n (-1000000) 1000000)):=by
 refine ae (aJ f227) ay func227 fun g F hg hF=> ?_
 cbv
 repeat'(first|(refine ba hg (eI _ _ _) rfl (fun R0 ha=> ?_);cbv)|(split<;>rename_i hh<;>(try rw [hh])<;>(try simp only [da hg]at hh)<;>cbv))
 all_goals exact aV hF (by subst_vars;rfl)
theorem bJ(a b:Int):PC0 144 [ai a,ai b] (.i (fdv a b)):=by
 refine ae (aJ f144) ay func144 fun g F hg hF=> ?_
 cbv
 by_cases hb:b<1
 ·have h0:g .q .lss b 1=true:=by rw [bh hg];simpa using hb
  rw [h0]
  cbv
  all_goals exact aV hF (by unfold fdv;rw [if_pos hb])
 ·have h0:g .q .lss b 1=false:=by rw [bh hg];simpa using hb
  rw [h0]
  cbv
  refine GG hg (by omega) ?_
  cbv
  refine GG hg (by omega) ?_
  cbv
  repeat'(first|(split<;>rename_i hh<;>(try rw [hh])<;>(try simp only [da hg]at hh)<;>cbv))
  all_goals exact aV hF (by unfold fdv;simp only [En hg,Eo hg,bZ hg]at *;grind)
theorem bK(a b:Int):PC0 168 [ai a,ai b] (.i (fdv a b)):=by
 refine ae (aJ f168) ay func168 fun g F hg hF=> ?_
 cbv
 by_cases hb:b<1
 ·have h0:g .q .lss b 1=true:=by rw [bh hg];simpa using hb
  rw [h0]
  cbv
  all_goals exact aV hF (by unfold fdv;rw [if_pos hb])
 ·have h0:g .q .lss b 1=false:=by rw [bh hg];simpa using hb
  rw [h0]
  cbv
  refine GG hg (by omega) ?_
  cbv
  refine GG hg (by omega) ?_
  cbv
  repeat'(first|(split<;>rename_i hh<;>(try rw [hh])<;>(try simp only [da hg]at hh)<;>cbv))
  all_goals exact aV hF (by unfold fdv;simp only [En hg,Eo hg,bZ hg]at *;grind)
theorem dT(k n b:Int):PC0 157 [.agg [.J k,.J n],ai b] (.t (abl (kn ⟨k,n⟩ b))):=by
 refine ae (aJ f157) ay func157 fun g F hg hF=> ?_
 cbv
 repeat'(first|(split<;>rename_i hh<;>(try rw [hh])<;>(try simp only [da hg]at hh)<;>cbv))
 all_goals exact bk hF (by(try simp only [iy hg,iu hg,bj hg]);simp only [kn];grind)
theorem dY(k n b:Int):PC0 197 [.agg [.J k,.J n],ai b] (.t (abl (kn ⟨k,n⟩ b))):=by
 refine ae (aJ f197) ay func197 fun g F hg hF=> ?_
 cbv
 repeat'(first|(split<;>rename_i hh<;>(try rw [hh])<;>(try simp only [da hg]at hh)<;>cbv))
 all_goals exact bk hF (by(try simp only [iy hg,iu hg,bj hg]);simp only [kn];grind)
theorem dB(k n b:Int):PC0 159 [.agg [.J k,.J n],ai b] (.i (Dj ⟨k,n⟩ b)):=by
 refine ae (aJ f159) ay func159 fun g F hg hF=> ?_
 cbv
 repeat'(first|(refine bz hg (dT _ _ _) rfl (fun R0 ha=> ?_);cases R0<;>cbv)|((first|refine aB hg (aG _) rfl (fun R0 ha=> ?_)|refine aB hg (p9 _) rfl (fun R0 ha=> ?_)|refine aB hg (bJ _ _) rfl (fun R0 ha=> ?_));cbv)|(split<;>rename_i hh<;>(try rw [hh])<;>(try simp only [da hg]at hh)<;>cbv))
 all_goals exact aV hF (by(try simp only [gc hg]at *);simp only [Dj];grind)
theorem dI(k n b:Int):PC0 199 [.agg [.J k,.J n],ai b] (.i (Dj ⟨k,n⟩ b)):=by
 refine ae (aJ f199) ay func199 fun g F hg hF=> ?_
 cbv
 repeat'(first|(refine bz hg (dY _ _ _) rfl (fun R0 ha=> ?_);cases R0<;>cbv)|((first|refine aB hg (aK _) rfl (fun R0 ha=> ?_)|refine aB hg (eX _ _ _) rfl (fun R0 ha=> ?_)|refine aB hg (bK _ _) rfl (fun R0 ha=> ?_));cbv)|(split<;>rename_i hh<;>(try rw [hh])<;>(try simp only [da hg]at hh)<;>cbv))
 all_goals exact aV hF (by(try simp only [gc hg]at *);simp only [Dj];grind)
theorem ea(k n b:Int):PC0 153 [.agg [.J k,.J n],ai b] (.i (sF ⟨k,n⟩ b)):=by
 refine ae (aJ f153) ay func153 fun g F hg hF=> ?_
 cbv
 repeat'(first|(refine bz hg (dT _ _ _) rfl (fun R0 ha=> ?_);cases R0<;>cbv)|((first|refine ba hg (aG _) rfl (fun R0 ha=> ?_)|refine ba hg (dB _ _ _) rfl (fun R0 ha=> ?_));cbv)|(split<;>rename_i hh<;>(try rw [hh])<;>(try simp only [da hg]at hh)<;>cbv))
 all_goals exact aV hF (by simp only [sF];grind)
theorem ef(k n b:Int):PC0 166 [.agg [.J k,.J n],ai b] (.i (sF ⟨k,n⟩ b)):=by
 refine ae (aJ f166) ay func166 fun g F hg hF=> ?_
 cbv
 repeat'(first|(refine bz hg (dY _ _ _) rfl (fun R0 ha=> ?_);cases R0<;>cbv)|((first|refine ba hg (aK _) rfl (fun R0 ha=> ?_)|refine ba hg (dI _ _ _) rfl (fun R0 ha=> ?_));cbv)|(split<;>rename_i hh<;>(try rw [hh])<;>(try simp only [da hg]at hh)<;>cbv))
 all_goals exact aV hF (by simp only [sF];grind)
theorem jC(n m:Int):PC0 152 [ai n,ai m] (.i (orl n m)):=by
 refine ae (aJ f152) ay func152 fun g F hg hF=> ?_
 cbv
 repeat'(first|(split<;>rename_i hh<;>(try rw [hh])<;>(try simp only [da hg]at hh)<;>cbv))
 all_goals exact aV hF (by simp only [orl];grind)
theorem nI(n m:Int):PC0 194 [ai n,ai m] (.i (orl n m)):=by
 refine ae (aJ f194) ay func194 fun g F hg hF=> ?_
 cbv
 repeat'(first|(split<;>rename_i hh<;>(try rw [hh])<;>(try simp only [da hg]at hh)<;>cbv))
 all_goals exact aV hF (by simp only [orl];grind)
end Go.Proofs.YtckchgoblpgpbaaGreat
