/- A child's space across. -/
import Derived.Test.YtdnnffbbhijmkaaGreatKaz
set_option linter.unusedVariables false
set_option linter.unusedSimpArgs false
set_option maxHeartbeats 16000000
namespace Go.Proofs.YtdnnffbbhijmkaaGreat
open Go.Shelf Go.RowKit Go.Lib Go.Sort Am Go.Proofs.Tryz
theorem C7{id n0:Nat}{o35 o36 o37 o38:Oper}(e35:o35.op= .load 49 (.tmp 5))(d35:o35.dst=some 35)(g35:o35.guard=none)(e36:o36.op= .makeInterface 49 (.tmp 35))(d36:o36.dst=some 36)(g36:o36.guard=none)
  (e37:o37.op= .makeFunc (.func 123) #[] #[.tmp 2,.tmp 5]) (d37:o37.dst=some 37) (g37:o37.guard=none) (c38:Call) (e38:o38.op= .call c38) (k38:c38.callee= .value (.func 122)) (a38:c38.args= #[.tmp 36,.tmp 37]) (d38:o38.dst=some 38) (g38:o38.guard=none)
  (ns:List ak) (hl:ns.length≤1048576) {E:List Int} (hE:∀k∈E,isN ns k=true) (h20:E.length<20) {l:List (Nat×AV)} {Q:Exit→(Nat→AV)→AH→Prop}
  (h2:lkT l 2= .p 0) (h5:lkT l 5= .p 1) (tT tI:Nat)
  (hQ:Q .normal (lkT ((38,.t (.c .dead))::(37,.t (.c .dead))::(36,.t (.c .dead))::(35,.o 2)::l)) (toH [.bx tT 1 [.view (vwA ak.ac ns)],.bx tI 1 [.own 2],.rw ⟨3,1,vw ao (gP (ic ns) E)⟩])) (N:Nat) (hN:N=40) (cd:Code) (hcd:cd= .region id #[o35,o36,o37,o38] false) (hh:EH) (hhh:hh=[.bx tT 1 [.view (vwA ak.ac ns)],.bx tI 1 [.own 2],.rw ⟨3,1,vw ao E⟩]):
  VC prog n0 N cd Q (lkT l) (toH hh):=by
 subst hN hcd hhh
 intro F w0 m0 h0 a w m hlen r
 refine wp_region_list ?_
 show wpList _ _ _ [o35,o36,o37,o38] a w
 have wnt:∀(o:Oper)(y:Nat→Option Bool),o.guard=none→Region.wanted o y=true:=fun o y hg=>by unfold Region.wanted;rw [hg]
 unfold wpList
 rw [if_pos (wnt _ _ g35)]
 left
 obtain⟨H,hH'⟩:∃H:AH,H=toH [.bx tT 1 [.view (vwA ak.ac ns)],.bx tI 1 [.own 2],.rw ⟨3,1,vw ao E⟩]:=⟨_,rfl⟩
 rw [←hH']at r
 have H1:H[1]? =some (.live ⟨tI,1,[[.own 2]]⟩):=by rw [hH'];rfl
 have H0:H[0]? =some (.live ⟨tT,1,[[.view (vwA ak.ac ns)]]⟩):=by rw [hH'];rfl
 have H2:H[2]? =some (.live ⟨3,1,vw ao E⟩):=by rw [hH'];rfl
 refine(m7 (o:=o35) (K:=fun res h'=>res= .o 2∧h'=H) r.st.hp r.tm ?_).wp (fun v w1⟨res,h',m1,F1,⟨hres,hh'⟩,hG1,hs,hv⟩=> ?_)
 ·rw [e35]
  have ha:qz prog 49=some none:=by kernel_rfl
  simp only [opA,pop,ev,h5,ha,H1]
  exact⟨[.own 2],rfl,.own 2,rfl,rfl,by simp⟩
 subst hres hh'
 have r1:=r.nextG (o:=o35) (by unfold fP;rw [d35];rfl) hG1.1 hs hv
 have hsz:a.tmps.size=40:=r.sz
 obtain⟨b,hb⟩:=nmE (a.put o35.dst v)
 have v35:b.tmps.getD 35 undef=v:=by rw [hb,ep,if_pos ⟨d35,by rw [hsz];decide⟩]
 rw [←hb]at r1⊢
 have hb1:b.tmps.size=40:=r1.sz
 have hGr:fo F F1 w0 m0 h0:=r.grow (fo.refl _ _ _ _) hG1
 clear hs r hb hsz
 unfold wpList
 rw [if_pos (wnt _ _ g36)]
 left
 have x36:(execOp b.eval o36).run prog w1= .ok (.value (.iface 49 v)) w1:=by
  have hu:=run_makeInterface (P:=prog) w1 49 v (by kernel_rfl)
  simp [execOp,e36,Act.eval,v35,hu]
 refine(Yl.value x36 (R:=fun u w2=>u= .iface 49 v∧w2=w1) ⟨rfl,rfl⟩).wp (fun u w2⟨hu,hw⟩=> ?_)
 subst hu hw
 have r2:=r1.next (o:=o36) (by unfold fP;rw [d36];rfl) (dX.refl r1.st.hp) (res:= .t (.c .dead)) (v:= .iface 49 v) trivial
 obtain⟨c,hc⟩:∃c,c=b.put o36.dst (.iface 49 v):=⟨_,rfl⟩
 have v36:c.tmps.getD 36 undef= .iface 49 v:=by rw [hc,ep,if_pos ⟨d36,by rw [hb1];decide⟩]
 rw [←hc]at r2⊢
 have hc1:c.tmps.size=40:=r2.sz
 clear hc x36
 unfold wpList
 rw [if_pos (wnt _ _ g37)]
 left
 obtain⟨p2,hp2⟩:=nmE (c.tmps.getD 2 undef)
 obtain⟨p5,hp5⟩:=nmE (c.tmps.getD 5 undef)
 have x37:(execOp c.eval o37).run prog w2= .ok (.value (.func (.func 123) #[] #[p2,p5])) w2:=by
  simp [execOp,e37,Act.eval,←hp2,←hp5,Instr.makeFunc]
 refine(Yl.value x37 (R:=fun u w3=>u= .func (.func 123) #[] #[p2,p5]∧w3=w2) ⟨rfl,rfl⟩).wp (fun u w3⟨hu,hw⟩=> ?_)
 subst hu hw
 have r3:=r2.next (o:=o37) (by unfold fP;rw [d37];rfl) (dX.refl r2.st.hp) (res:= .t (.c .dead)) (v:= .func (.func 123) #[] #[p2,p5]) trivial
 obtain⟨e,he⟩:∃e,e=c.put o37.dst (.func (.func 123) #[] #[p2,p5]):=⟨_,rfl⟩
 have v37:e.tmps.getD 37 undef= .func (.func 123) #[] #[p2,p5]:=by rw [he,ep,if_pos ⟨d37,by rw [hc1];decide⟩]
 have v36:e.tmps.getD 36 undef= .iface 49 v:=by rw [he,ep,if_neg (by rw [d37];simp),v36]
 rw [←he]at r3⊢
 have t2:=r2.tm 2
 have t5:=r2.tm 5
 rw [←hp2]at t2
 rw [←hp5]at t5
 simp only [put,d36,d35,h2,h5,zqy,Nat.reduceEqDiff,if_false]at t2 t5
 have he1:e.tmps.size=40:=r3.sz
 clear he x37 r2
 unfold wpList
 rw [if_pos (wnt _ _ g38)]
 left
 have hH:=r3.st.hp
 rcases t2 with hx|⟨ab,b0,cap0,h20',hm0,rfl⟩
 ·rw [H0]at hx;cases hx
 rw [H0]at h20';cases h20'
 rcases t5 with hx|⟨ab,b1,cap1,h21',hm1,rfl⟩
 ·rw [H1]at hx;cases hx
 rw [H1]at h21';cases h21'
 simp only [Nat.zero_mul,Nat.add_zero]at *
 have hcall:∀{R:Value→World→Prop},Calls prog 122 #[.iface 49 v,.func (.func 123) #[] #[.pointer (some ⟨b0,0,none⟩),.pointer (some ⟨b1,0,none⟩)]] w3 (fun x w'=>x= .returned (.tuple #[])∧R (.tuple #[]) w')→Yl prog o38 e w3 R:=fun hR=>by
  unfold Yl
  rw [oY e38 k38 (by kernel_rfl),a38]
  have:(#[Operand.tmp 36,Operand.tmp 37].map e.eval)= #[.iface 49 v,.func (.func 123) #[] #[.pointer (some ⟨b0,0,none⟩),.pointer (some ⟨b1,0,none⟩)]]:=by simp [Act.eval,v36,v37]
  rw [this]
  exact hR.mono fun x w'⟨h1,h2⟩=>⟨_,h1,h2⟩
 have hfin:∀(H':AH)(w':World),dX F1 w3 m1 h' w' m1 H'→H'=toH [.bx tT 1 [.view (vwA ak.ac ns)],.bx tI 1 [.own 2],.rw ⟨3,1,vw ao (gP (ic ns) E)⟩]→wpList prog #[o35,o36,o37,o38] (n6 F w0 m0 h0 40 Q) [] (e.put o38.dst (.tuple #[])) w':=fun H' w' hs heq=>by
  subst heq
  have r4:=r3.next (o:=o38) (by unfold fP;rw [d38];rfl) hs (res:= .t (.c .dead)) (v:= .tuple #[]) trivial
  exact⟨_,_,_,F1,by simpa only [d35,d36,d37,d38,u7,rU]using hQ,hGr,r4⟩
 refine(hcall (R:=fun u w'=>u= .tuple #[]∧∃H',dX F1 w3 m1 h' w' m1 H'∧H'=toH [.bx tT 1 [.view (vwA ak.ac ns)],.bx tI 1 [.own 2],.rw ⟨3,1,vw ao (gP (ic ns) E)⟩]) ?_).wp (fun u w'⟨hu,H',hs,heq⟩=>by subst hu;exact hfin H' w' hs heq)
 rcases hv with hx|⟨ab,hab,hv⟩
 ·rw [H2]at hx;cases hx
 rw [H2]at hab;cases hab
 simp only [af]at hv
 by_cases hE1:E.length≤1
 ·have hss:gP (ic ns) E=E:=by
   match E,hE1 with
   | [],_=>rfl
   | [x],_=>rfl
  obtain⟨p,cc,rfl⟩:∃p cc,v= .slice p E.length cc:=by
   rcases hv with⟨bb,cc,_,rfl⟩|⟨_,h0,rfl⟩
   ·exact⟨_,_,rfl⟩
   ·exact⟨none,0,by rw [h0]⟩
  refine(za (w:=w3) hE1 _ _ _).mono ?_
  rintro x w' ⟨rfl,os,rfl⟩
  refine⟨rfl,rfl,h',rM (dX.refl hH) rfl rfl rfl (by simp) (fun b hb=> ?_),by rw [hss,hH']⟩
  simp only [grow,Array.getElem?_append,hb,if_true]
 have hE2:2≤E.length:=by omega
 obtain⟨b2,cap,hm2,rfl⟩:∃b2 cap,m1[2]? =some (some (b2,cap))∧v= .slice (some ⟨b2,0,none⟩) E.length cap:=by
  rcases hv with⟨bb,cc,h1,h2⟩|⟨_,h0,_⟩
  ·exact⟨bb,cc,h1,h2⟩
  ·omega
 obtain⟨_,hF2,cur,hcur,hcs,hcl,hcm,hce⟩:=hH.get H2 H2 hm2
 simp only [Nat.mul_one,af]at hcs hcl hce
 obtain⟨_,hF1b,cur1,hcur1,_,_,_,hce1⟩:=hH.get H1 H1 hm1
 obtain⟨_,hF0b,cur0,hcur0,_,_,_,hce0⟩:=hH.get H0 H0 hm0
 have l2:=(hH.lt H2 hm2).2
 have l1:=(hH.lt H1 hm1).2
 have l0:=(hH.lt H0 hm0).2
 have n12:b1≠b2:=fun h=>by subst h;have:=hH.inj 1 2 _ _ _ _ _ H1 H2 hm1 hm2;cases this
 have n02:b0≠b2:=fun h=>by subst h;have:=hH.inj 0 2 _ _ _ _ _ H0 H2 hm0 hm2;cases this
 have hHo:Holds (Value.int .i64) w3 b2 0 E.toArray:=fun j hj=>by
  have hj':j<E.length:=by simpa using hj
  obtain⟨_,hq⟩:=hce j _ (bi (c:=ao) (Cd hj'))
  obtain⟨u,hu,_,hr⟩:=hq 0 _ rfl
  have hr':u= .int .i64 E[j]! :=hr
  subst hr'
  refine⟨?_,?_⟩
  ·simp only [World.cell?,hcur]
   simpa [getElem!_pos E j hj']using hu
  ·simp [World.frozen?,hcur]
 have hco:w3.cell? ⟨b1,0,none⟩=some (.slice (some ⟨b2,0,none⟩) E.length cap):=by
  obtain⟨_,hq⟩:=hce1 0 _ rfl
  obtain⟨u,hu,_,hr⟩:=hq 0 _ rfl
  rcases hr with hx|⟨ab,hab,hr⟩
  ·rw [H2]at hx;cases hx
  rw [H2]at hab;cases hab
  simp only [af,hm2,zqy,Prod.mk.injEq]at hr
  rcases hr with⟨bb,cc,⟨rfl,rfl⟩,rfl⟩|⟨hx,_⟩
  ·simp only [World.cell?,hcur1]
   simpa using hu
  ·cases hx
 have hct:RPL F1 w3 b0 0 [.view (vwA ak.ac ns)]:=by
  obtain⟨_,hq⟩:=hce0 0 _ rfl
  obtain⟨u,hu,ho,hr⟩:=hq 0 _ rfl
  refine RPL.mk fun t c ht=> ?_
  obtain rfl:t=0:=by
   have:=(List.getElem?_eq_some_iff.1 ht).1
   simp at this;omega
  obtain rfl:=Option.some.inj ht.symm
  exact⟨u,by simp only [World.cell?,hcur0];simpa using hu,ho,hr⟩
 have hless:=vh (P:=prog) (g:=123) (f:=ic ns) (p:=fun k=>isN ns k=true) (cs:=[.view (vwA ak.ac ns)]) (n:=E.length) (fun dk i j hd hp hi hj=>yx ns dk hl hp i j (by omega) (by omega)) hH.old hF2 l2 l1 l0 n12 n02 hco hcl hcm hct (d:=E.toArray) (by simp) hHo
 have hs:=A6 (w:=w3) (g:=123) (blk:=b2) (c:=cap) (lb:= #[.pointer (some ⟨b0,0,none⟩),.pointer (some ⟨b1,0,none⟩)]) (d:=E.toArray) (ic ns) (fun k=>isN ns k=true) (enters_of func123 (by kernel_rfl) rfl) (by simpa using hE2) (by simpa using h20) (by simpa using hless) (fun i hi=>hE _ (by
  have hi':i<E.length:=by simpa using hi
  have:=zqd (Cd hi')
  simp [getElem!_pos E i hi',hi'])) hHo l2
 simp only [List.size_toArray]at hs
 refine hs.mono ?_
 rintro x w' ⟨rfl,hS⟩
 have hsz:(Sort.insertionSort (ltF (ic ns)) E.toArray 0 E.length).size=E.length:=by
  have:=congrArg List.length (uP (ic ns) E)
  have h3:=kq (ic ns) E
  unfold gP at h3
  rw [h3]at this
  simpa using this
 refine⟨rfl,rfl,_,vV hH H2 hm2 hsz hS,?_⟩
 have:=uP (ic ns) E
 simp only [List.size_toArray]at this
 rw [this,hH']
 rfl
end Go.Proofs.YtdnnffbbhijmkaaGreat
namespace Go.Proofs.YtdnnffbbhijmkaaGreat
open Go.Shelf Go.RowKit Go.Lib Go.Sort Am Go.Proofs.Tryz
set_option maxRecDepth 100000
theorem kJ(ns:List ak)(n:Int)(nd:ak)(hl:ns.length≤1048576)(h1:1≤n)(h2:n≤1048576)(hx:ns[(n-1).toNat]? =some nd)(hkl:nd.kids.length<20)(hk:∀k∈nd.kids,isN ns k=true):dd prog 70 [.agg [.view (vwA ak.ac ns)],ai n] fun res rows=>res= .o 0∧rows=[⟨3,1,vw ao (gP (ic ns) (nd.kids.filter (lA ns)))⟩]:=by
 obtain⟨V,hV⟩:=nmE (vwA ak.ac ns)
 obtain⟨K,hK⟩:=nmE (vw ao nd.kids)
 obtain⟨Rt,hRt⟩:=nmE (vw aJ.c nd.table.rules)
 have hKx:bg K=(nd.kids.length:Int):=by rw [aF,hK,af]
 have hK0:0≤bg K:=by omega
 have hK1:bg K≤1048576:=by omega
 have hlen:∀z:Int,(vw ao ((nd.kids.take z.toNat).filter (lA ns))).length≤1048576:=fun z=>by
  rw [af]
  have:=List.length_filter_le (lA ns) (nd.kids.take z.toNat)
  simp only [List.length_take]at this
  omega
 have hstep:∀(z:Int)(k:Int),0≤z→nd.kids[z.toNat]? =some k→vw ao ((nd.kids.take (z+1).toNat).filter (lA ns))=vw ao ((nd.kids.take z.toNat).filter (lA ns))++(if lA ns k then [[.J k]]else []):=fun z k h0 hz=>by
  rw [vU h0 hz,uG]
  congr 1
  cases lA ns k<;>rfl
 have cn:=dh ns n nd h1 h2 hx V K Rt hV hK hRt
 rw [←hV]
 refine hP ([(9,.hand)]) ([]) (c:=aN f70) aD func70 (by kernel_rfl) (by kernel_rfl) (by rfl) (by kernel_rfl) fun g eff hd F heff hhd hg hF=> ?_
 cbv
 (first|refine ad hg cn ?_|refine aa hg cn ?_)
 cbv
 have hkl1:nd.kids.length≤1048576:=by omega
 refine ll ([(9,.hand)]) ([]) heff hhd hg aD (by kernel_rfl) K (fun x=>lc (ao x)) nd.kids hK hkl1 (fun z(s:List (List AC)×List Int)=>[(2,.p 0),(5,.p 1),(12,.v K),(13,.t (ai (g .ln K))),(14,.t (ai (z)))]) (fun z(s:List (List AC)×List Int)=>[.bx 32 1 [.view V],.bx 49 1 [.own 2],.rw ⟨3,1,s.1⟩]) (fun z(s:List (List AC)×List Int)=>s.1=vw ao s.2∧(s.2.length:Int)≤z) (fun(s:List (List AC)×List Int) rest=>s.2++rest.filter (lA ns)) (nd.kids.filter (lA ns)) ([],[]) rfl ⟨rfl,by simp⟩ (Wk.weak (wkG [some 0,some 1,none] ⟨rfl,rfl,rfl,rfl,rfl,trivial⟩ ⟨wqE rfl rfl,⟨_,_,rfl,rfl,rfl,rfl,.inr ⟨⟨rfl,trivial⟩,trivial⟩⟩,⟨_,rfl,rfl⟩,trivial⟩ (by decide) aG)) (fun z s B hz h0 hi he=> ?_) (fun z s x rest B z0 z1 z2 hx hy h0 hi hc e1 hB=> ?_)
 ·obtain⟨es,ks⟩:=s
  obtain⟨k1,k2⟩:=hi
  dsimp only at k1 k2 h0
  simp only [List.filter_nil,List.append_nil]at h0
  rw [h0]at k1
  cbv;rw [he];cbv
  rw [hhd,hV]
  show VC _ _ _ (.region _ _ _) (QE _) (lkT _) (toH _)
  apply C7 (ns:=ns) (E:=nd.kids.filter (lA ns)) (hl:=hl) (tT:=32) (tI:=49)
  case hcd=>rfl
  case hN=>rfl
  case hhh=>rw [k1]
  case hE=>exact fun k hkm=>hk k (List.mem_filter.1 hkm).1
  case h20=>exact Nat.lt_of_le_of_lt (List.length_filter_le _ _) hkl
  any_goals rfl
  refine⟨_,_,rfl,rfl,?_⟩
  obtain⟨G,hG⟩:=nmE (vw ao (gP (ic ns) (nd.kids.filter (lA ns))))
  have pG:ah G=true:=by rw [hG];exact ag _ _
  rw [←hG]at hF⊢
  cbv
  exact bT hF rfl pG
 obtain⟨es,ks⟩:=s
 obtain⟨k1,k2⟩:=hi
 dsimp only at k1 k2 h0
 have hin:=hk x (zqd hx)
 obtain⟨q1,q2,y,hyn⟩:=bB hin
 have hap:lA ns x=(!y.style.hidden&& !y.style.apart):=by unfold lA;rw [hyn]
 rw [List.filter_cons,hap]at h0
 clear hap
 have pE:ah es=true:=by rw [k1];exact ag _ _
 have hle:es.length≤1048576:=by rw [k1,af];omega
 obtain⟨Ky,hKy⟩:=nmE (vw ao y.kids)
 obtain⟨Ry,hRy⟩:=nmE (vw aJ.c y.table.rules)
 have cy:=dh ns x y q1 (by omega) hyn V Ky Ry hV hKy hRy
 obtain⟨c0,c1,⟨c2,c3,c4,c5,c6,c7,c8,c9,c10,c11,c12,⟨c13,c14⟩,⟨c15,c16⟩,⟨c17,c18⟩,⟨c19,c20⟩,⟨c21,c22⟩,⟨c23,c24⟩,⟨c25,c26⟩,c27,⟨⟨c28,c29⟩,⟨c30,c31⟩,⟨c32,c33⟩,⟨c34,c35⟩,⟨c36,c37⟩,⟨c38,c39⟩⟩,⟨⟨c40,c41⟩,⟨c42,c43⟩,⟨c44,c45⟩,⟨c46,c47⟩,⟨c48,c49⟩,⟨c50,c51⟩⟩,⟨c52,c53,c54,c55⟩,⟨c56,c57,c58,c59⟩,c60,c61⟩,c62,⟨c63⟩⟩:=y
 replace h0:ks++(if(!c9&& !c8)=true then x::rest.filter (lA ns)else rest.filter (lA ns))=nd.kids.filter (lA ns):=h0
 cbv;rw [hc];cbv;refine goX hg _ z0 hy rfl ?_;cbv
 (first|refine ad hg cy ?_|refine aa hg cy ?_)
 cbv
 cases c9<;>cases c8<;>cbv
 case false.false=>
  refine di hg rfl (by decide) (by omega) ?_
  cbv
  rw [e1,gz hg]
  have pE2:ah (es++[[.J x]])=true:=by
   have:es++[[.J x]]=vw ao (ks++[x]):=by rw [k1,uG];rfl
   rw [this];exact ag _ _
  exact hB ((es++[[.J x]],ks++[x])) _ _ ⟨by simpa using h0,⟨by rw [k1,uG];rfl,by simp;omega⟩⟩ (Wk.weak (wkG [some 0,some 1,some 5] ⟨rfl,rfl,rfl,rfl,rfl,trivial⟩ ⟨wqE rfl rfl,⟨_,_,rfl,rfl,rfl,rfl,.inr ⟨⟨rfl,trivial⟩,trivial⟩⟩,wqE rfl pE2,trivial⟩ (by decide) aG))
 all_goals
  rw [e1]
  exact hB ((es,ks)) _ _ ⟨by simpa using h0,⟨k1,by simp only;omega⟩⟩ (Wk.weak (wkG [some 0,some 1,some 2] ⟨rfl,rfl,rfl,rfl,rfl,trivial⟩ ⟨wqE rfl rfl,⟨_,_,rfl,rfl,rfl,rfl,.inr ⟨⟨rfl,trivial⟩,trivial⟩⟩,wqE rfl pE,trivial⟩ (by decide) aG))
section
variable {P : Program} {n0 N : Nat} {g : Gd}
theorem EY(hg:g=G0 P n0 N){es:List (List AC)}{a:Int}{K:Nat→Nat→Prop}(h0:0≤a)(h1:a≤bg es)(hK:∀j:Nat,j=a.toNat→K 0 j):g .SO es none (some a) K:=by
 subst hg
 have:=aF es
 exact⟨0,a.toNat,rfl,⟨h0,rfl⟩,Nat.zero_le _,by omega,by simpa using hK _ rfl⟩
theorem FG(hg:g=G0 P n0 N)(es:List (List AC))(a m:Nat):g .tk es a m=(es.drop a).take m:=by subst hg;rfl
theorem EW(hg:g=G0 P n0 N){es:List (List AC)}{a:Int}{K:Nat→Nat→Prop}(h0:0≤a)(h1:a≤bg es)(hK:∀j m:Nat,j=a.toNat→m=es.length-j→K j m):g .SO es (some a) none K:=by
 subst hg
 have:=aF es
 exact⟨a.toNat,es.length,⟨h0,rfl⟩,rfl,by omega,Nat.le_refl _,hK _ _ rfl rfl⟩
end
theorem vq(f:Int→Int):∀(xs acc:List Int),xs.foldl (fun a k=>(lC f k a.reverse).reverse) acc=(xs.foldl (fun a k=>lC f k a) acc.reverse).reverse
 | [],acc=>by simp
 |x::xs,acc=>by rw [List.foldl_cons,vq f xs,List.foldl_cons,List.reverse_reverse]
theorem yd(f:Int→Int)(xs:List Int):xs.foldl (fun a k=>(lC f k a.reverse).reverse) []=gP f xs:=vq f xs []
theorem kl(ns:List ak)(n:Int)(nd:ak)(hs:∀y∈ns,ak.small y)(ht:ei ns=true)(hl:ns.length≤1048576)(h1:1≤n)(h2:n≤(ns.length:Int))(hx:ns[(n-1).toNat]? =some nd)(hkl:nd.kids.length≤1048576)(hk:∀k∈nd.kids,isN ns k=true):dd prog 64 [.agg [.view (vwA ak.ac ns)],ai n] fun res rows=>res= .o 0∧rows=[⟨3,1,vw ao (gP (ic ns) (nd.kids.filter (lA ns)))⟩]:=by
 have cT:=mC ns hl hs
 rw [ht]at cT
 obtain⟨V,hV⟩:=nmE (vwA ak.ac ns)
 have hVx:bg V=(ns.length:Int):=by rw [aF,hV,bD]
 have cI:=gp V n
 rw [show rng n 1 (bg V)=true by simp only [rng,zqs,zqp];omega]at cI
 obtain⟨K,hK⟩:=nmE (vw ao nd.kids)
 obtain⟨Rt,hRt⟩:=nmE (vw aJ.c nd.table.rules)
 obtain⟨G,hG⟩:=nmE (vw ao (gP (ic ns) (nd.kids.filter (lA ns))))
 have pG:ah G=true:=by rw [hG];exact ag _ _
 have hKx:bg K=(nd.kids.length:Int):=by rw [aF,hK,af]
 have hK0:0≤bg K:=by omega
 have hK1:bg K≤1048576:=by omega
 have cn:=bK ns n nd h1 (by omega) hx V K Rt hV hK hRt
 rw [←hV]at cT
 rw [←hV,←hG]
 refine hP ([(13,.hand)]) ([]) (c:=aN f64) aD func64 (by kernel_rfl) (by kernel_rfl) (by rfl) (by kernel_rfl) fun g eff hd F heff hhd hg hF=> ?_
 cbv
 (first|refine ad hg cT ?_|refine aa hg cT ?_)
 cbv
 (first|refine ad hg cI ?_|refine aa hg cI ?_)
 cbv
 (first|refine ad hg cn ?_|refine aa hg cn ?_)
 cbv
 refine ll ([(13,.hand)]) ([]) heff hhd hg aD (by kernel_rfl) K (fun x=>lc (ao x)) nd.kids hK hkl (fun z(s:List (List AC)×List Int)=>[(2,.p 0),(5,.o 1),(6,.v K),(7,.t (ai (z)))]) (fun z(s:List (List AC)×List Int)=>[.bx 32 1 [.view V],.rw ⟨3,1,s.1⟩]) (fun z(s:List (List AC)×List Int)=>s.1=vw ao s.2∧(s.2.length:Int)≤z∧∀k∈s.2,isN ns k=true) (fun(s:List (List AC)×List Int) rest=>(rest.filter (lA ns)).foldl (fun a k=>(lC (ic ns) k a.reverse).reverse) s.2) (gP (ic ns) (nd.kids.filter (lA ns))) ([],[]) (by simp only;exact yd _ _) ⟨rfl,by simp,by simp⟩ (Wk.weak (wkG [some 0,some 1] ⟨rfl,rfl,rfl,rfl,trivial⟩ ⟨wqE rfl rfl,wqE rfl rfl,trivial⟩ (by decide) aG)) (fun z s B hz h0 hi he=> ?_) (fun z s x rest B z0 z1 z2 hx hy h0 hi hc e1 hB=> ?_)
 ·obtain⟨es,ks⟩:=s
  obtain⟨k1,k2,k3⟩:=hi
  dsimp only at k1 k2 h0
  simp only [List.filter_nil,List.foldl_nil]at h0
  rw [h0,←hG]at k1
  subst k1
  cbv;rw [he];cbv
  exact bT hF rfl pG
 obtain⟨es,ks⟩:=s
 obtain⟨k1,k2,k3⟩:=hi
 dsimp only at k1 k2 k3 h0
 have hin:=hk x (zqd hx)
 obtain⟨q1,q2,y,hyn⟩:=bB hin
 have hap:lA ns x=(!y.style.hidden&& !y.style.apart):=by unfold lA;rw [hyn]
 have hor:ic ns x=y.style.order:=by unfold ic;rw [hyn]
 rw [List.filter_cons,hap]at h0
 clear hap
 have pE:ah es=true:=by rw [k1];exact ag _ _
 have hle:es.length≤1048576:=by rw [k1,af];omega
 obtain⟨Ky,hKy⟩:=nmE (vw ao y.kids)
 obtain⟨Ry,hRy⟩:=nmE (vw aJ.c y.table.rules)
 have cy:=bK ns x y q1 (by omega) hyn V Ky Ry hV hKy hRy
 obtain⟨c0,c1,⟨c2,c3,c4,c5,c6,c7,c8,c9,c10,c11,c12,⟨c13,c14⟩,⟨c15,c16⟩,⟨c17,c18⟩,⟨c19,c20⟩,⟨c21,c22⟩,⟨c23,c24⟩,⟨c25,c26⟩,c27,⟨⟨c28,c29⟩,⟨c30,c31⟩,⟨c32,c33⟩,⟨c34,c35⟩,⟨c36,c37⟩,⟨c38,c39⟩⟩,⟨⟨c40,c41⟩,⟨c42,c43⟩,⟨c44,c45⟩,⟨c46,c47⟩,⟨c48,c49⟩,⟨c50,c51⟩⟩,⟨c52,c53,c54,c55⟩,⟨c56,c57,c58,c59⟩,c60,c61⟩,c62,⟨c63⟩⟩:=y
 replace h0:(if(!c9&& !c8)=true then x::rest.filter (lA ns)else rest.filter (lA ns)).foldl (fun a k=>(lC (ic ns) k a.reverse).reverse) ks=gP (ic ns) (nd.kids.filter (lA ns)):=h0
 replace hor:ic ns x=c10:=hor
 have lF:(((lC (ic ns) x ks.reverse).reverse).length:Int)≤z+1:=by rw [List.length_reverse,tM,List.length_reverse];omega
 cbv;rw [hc];cbv;refine goX hg _ z0 hy rfl ?_;cbv
 (first|refine ad hg cy ?_|refine aa hg cy ?_)
 cbv
 cases c9<;>cases c8<;>cbv
 case false.false=>
  simp only [Bool.not_false,Bool.and_self,if_true,List.foldl_cons]at h0
  have a0:0≤bg es:=by rw [aF];omega
  have a1:bg es≤1048576:=by rw [aF];omega
  have lks:bg es=(ks.length:Int):=by rw [k1,aF,af]
  rw [bL hg]
  refine r7 [(13,.hand)] [] heff hhd hg aD (by kernel_rfl) (fun a:Int=>[(2,.p 0),(5,.o 1),(6,.v K),(7,.t (ai (z))),(8,.p 2),(9,.t (ai (a)))]) (fun a=>[.bx 32 1 [.view V],.rw ⟨3,1,es⟩,.bx 87 60 [.J c2,.J c3,.J c4,.J c5,.J c6,.J c7,.B false,.B false,.J c10,.J c11,.J c12,.J c13,.J c14,.J c15,.J c16,.J c17,.J c18,.J c19,.J c20,.J c21,.J c22,.J c23,.J c24,.J c25,.J c26,.J c27,.J c28,.J c29,.J c30,.J c31,.J c32,.J c33,.J c34,.J c35,.J c36,.J c37,.J c38,.J c39,.J c40,.J c41,.J c42,.J c43,.J c44,.J c45,.J c46,.J c47,.J c48,.J c49,.J c50,.J c51,.J c52,.J c53,.J c54,.J c55,.J c56,.J c57,.J c58,.J c59,.J c60,.J c61]]) (fun a=>0≤a∧a≤bg es∧∀(i:Nat)(q:Int),a.toNat≤i→ks[i]? =some q→c10<ic ns q) (fun a=>a.toNat) (bg es) ⟨a0,Int.le_refl _,fun i q hi hq=> ?_⟩ (Wk.weak (wkG [some 0,some 1,some 2] ⟨rfl,rfl,rfl,rfl,rfl,rfl,trivial⟩ ⟨wqE rfl rfl,wqE rfl pE,wqE rfl rfl,trivial⟩ (by decide) aG)) (fun a B2 ha hB2=> ?_)
  ·have:=(List.getElem?_eq_some_iff.1 hq).1;omega
  obtain⟨b0,b1,b2⟩:=ha
  have eA:∀j:Nat,g .ap [] (g .tk es 0 j)=vw ao (ks.take j):=fun j=>by rw [gz hg,FG hg,k1];simp [vw,List.map_take]
  have lkN:ks.length≤1048576:=by omega
  have eB:∀j:Nat,g .ap (g .ap [] (g .tk es 0 j)) [[.J x]]=vw ao (ks.take j++[x]):=fun j=>by rw [eA j,gz hg,uG];rfl
  have eC:∀j m:Nat,m=es.length-j→g .tk es j m=vw ao (ks.drop j):=fun j m hm=>by
   rw [FG hg,hm,k1]
   simp only [vw,←List.map_drop,zql]
   rw [List.take_of_length_le (by simp)]
  have pM:∀{A:Prop}{n:Nat},A→n≤3000000→A∧n*8≤140737488355328∧n≤4611686018427387904:=fun hA hn=>⟨hA,by omega,by omega⟩
  have mF:∀k∈(lC (ic ns) x ks.reverse).reverse,isN ns k=true:=fun k hkm=>by
   rw [List.mem_reverse,tL,List.mem_reverse]at hkm
   rcases hkm with rfl|h
   ·exact hin
   ·exact k3 k h
  have pN:∀{A:Prop}{n:Nat},A→n≤1048576→A∧(0+n)*8≤140737488355328∧0+n≤4611686018427387904:=fun hA hn=>⟨hA,by omega,by omega⟩
  have hfin:(a=0∨∃q,ks[a.toNat-1]? =some q∧¬c10<ic ns q)→(lC (ic ns) x ks.reverse).reverse=ks.take a.toNat++x::ks.drop a.toNat:=fun hc=>by
   refine z6 (ic ns) x ks a.toNat (by omega) ?_ (fun i q hi hq=>by rw [hor];exact b2 i q hi hq)
   rcases hc with rfl|⟨q,h1,h2⟩
   ·exact .inl rfl
   ·exact .inr ⟨q,h1,by rw [hor];exact h2⟩
  have t0:g .q .gtr a 0=decide (0<a):=by rw [bZ hg]
  have ew:0<a→g .w .sub .i64 a 1=a-1:=fun h=>by rw [dc hg,aB _ (by omega)]
  have l1:0<a→(a-1).toNat<ks.length:=fun h=>by omega
  have l2:0<a→a-1<bg es:=fun h=>by omega
  cbv
  rw [t0]
  by_cases hap:0<a
  case' pos=>
   rw [zqu hap]
   cbv
   rw [ew hap]
   have hl1:=l1 hap
   have hl2:=l2 hap
   have hq:ks[(a-1).toNat]? =some ks[(a-1).toNat]:=zqc hl1
   obtain⟨q,hqq⟩:=nmE (ks[(a-1).toNat])
   rw [←hqq]at hq
   obtain⟨r1,r2,yq,hyq⟩:=bB (k3 q (zqd hq))
   obtain⟨Kq,hKq⟩:=nmE (vw ao yq.kids)
   obtain⟨Rq,hRq⟩:=nmE (vw aJ.c yq.table.rules)
   have cq:=bK ns q yq r1 (by omega) hyq V Kq Rq hV hKq hRq
   have hoq:ic ns q=yq.style.order:=by unfold ic;rw [hyq]
   refine goY hg (by omega) hl2 fun j hj hjl=> ?_
   cbv
   refine⟨_,by rw [hj,k1];exact bi hq,?_⟩
   cbv
   (first|refine ad hg cq ?_|refine aa hg cq ?_)
   cbv
   have tq:g .q .gtr yq.style.order c10=decide (c10<yq.style.order):=bZ hg _ _
   cases hd:g .q .gtr yq.style.order c10
   rotate_left
   ·have hd':c10<ic ns q:=by rw [hoq];exact of_decide_eq_true (tq.symm.trans hd)
    cbv
    rw [ew hap,hB2]
    refine⟨a-1,⟨by omega,by omega,fun i p hi hp=> ?_⟩,by omega,Wk.weak (wkG [some 0,some 1,some 2] ⟨rfl,rfl,rfl,rfl,rfl,rfl,trivial⟩ ⟨wqE rfl rfl,wqE rfl pE,wqE rfl rfl,trivial⟩ (by decide) aG)⟩
    by_cases hi2:a.toNat≤i
    ·exact b2 i p hi2 hp
    ·obtain rfl:i=(a-1).toNat:=by omega
     rw [hq]at hp
     cases hp
     exact hd'
   have hst:=hfin (.inr ⟨q,by rw [show a.toNat-1=(a-1).toNat by omega];exact hq,by rw [hoq];exact of_decide_eq_false (tq.symm.trans hd)⟩)
  case' neg=>
   rw [zqt hap]
   have hst:=hfin (.inl (by omega))
  all_goals
   cbv
   obtain⟨X,hX⟩:=nmE (vw ao (ks.take a.toNat++[x]))
   have pX:ah X=true:=by rw [hX];exact ag _ _
   refine eG hg hhd aD [1,2,3,5,6,7,8] (.op 0 [] (.op 4 [] (.op 9 [] (.op 10 [11] .done .none) .none) (.op 9 [] (.op 4 [] (.op 10 [11] .done .none) .none) .none)) (.op 9 [] (.op 0 [] (.op 4 [] (.op 10 [11] .done .none) .none) .none) .none)) (by kernel_rfl) (by kernel_rfl) (S:=List (List AC)) (fun s=>s=X) (fun _=>[(2,.p 0),(5,.o 1),(6,.v K),(7,.t (ai (z))),(8,.p 2),(9,.t (ai (a))),(10,.o 3)]) (fun s=>[.bx 32 1 [.view V],.rw ⟨3,1,es⟩,.bx 87 60 [.J c2,.J c3,.J c4,.J c5,.J c6,.J c7,.B false,.B false,.J c10,.J c11,.J c12,.J c13,.J c14,.J c15,.J c16,.J c17,.J c18,.J c19,.J c20,.J c21,.J c22,.J c23,.J c24,.J c25,.J c26,.J c27,.J c28,.J c29,.J c30,.J c31,.J c32,.J c33,.J c34,.J c35,.J c36,.J c37,.J c38,.J c39,.J c40,.J c41,.J c42,.J c43,.J c44,.J c45,.J c46,.J c47,.J c48,.J c49,.J c50,.J c51,.J c52,.J c53,.J c54,.J c55,.J c56,.J c57,.J c58,.J c59,.J c60,.J c61],.rw ⟨3,1,s⟩]) (fun BL hBL=> ?_) (fun s hsX=> ?_)
   ·cbv
    (repeat'(first|exact trivial|exact rfl|(refine EY hg b0 b1 fun j hj=> ?_;cbv)|(subst_vars;exact rfl)|((first|refine goX hg _ z0 hy rfl ?_|refine goN hg (pN (by rw [FG hg,k1];exact fun y hy=>bJ (c:=ao) (k:=1) (fun _=>rfl) y (List.mem_of_mem_drop (List.mem_of_mem_take hy))) (by rw [FG hg];exact Nat.le_trans (List.length_take_le' _ _) (by simpa using hle))) ?_|refine di hg rfl (by decide) (by show(g .ap [] (g .tk es 0 _)).length≤_;rw [eA,af];exact Nat.le_trans (List.length_take_le' _ _) lkN) ?_);cbv)|exact hBL _ (by rw [eB,hX];subst_vars;rfl) _ _ (Wk.weak (wkG [some 0,some 1,some 2,some 6] ⟨rfl,rfl,rfl,rfl,rfl,rfl,rfl,trivial⟩ ⟨wqE rfl rfl,wqE rfl pE,wqE rfl rfl,⟨_,_,rfl,rfl,rfl,rfl,.inl ⟨rfl,by rw [eB];exact ag _ _⟩⟩,trivial⟩ (by decide) aG))|refine And.intro ?_ ?_))
   subst hsX
   cbv
   refine EW hg b0 b1 fun j2 m2 hj2 hm2=> ?_
   cbv
   refine goN hg (pM (by show∀y∈g .tk es j2 m2,_;rw [eC j2 m2 hm2];exact bJ (c:=ao) (k:=1) (fun _=>rfl)) (by
    show s.length+(g .tk es j2 m2).length≤_
    rw [hX,eC j2 m2 hm2,af,af]
    simp only [zqe,List.length_take,List.length_drop,zqm]
    omega)) ?_
   cbv
   rw [e1]
   have eF:g .ap s (g .tk es j2 m2)=vw ao ((lC (ic ns) x ks.reverse).reverse):=by
    rw [hX,eC j2 m2 hm2,gz hg,←uG,hst,hj2]
    simp
   have pF:ah (g .ap s (g .tk es j2 m2))=true:=by rw [eF];exact ag _ _
   skip
   exact hB ((_,(lC (ic ns) x ks.reverse).reverse)) _ _ ⟨h0,⟨eF,lF,fun k hkm=>(mF k hkm)⟩⟩ (Wk.weak (wkG [some 0,some 4] ⟨rfl,rfl,rfl,rfl,trivial⟩ ⟨wqE rfl rfl,wqE rfl pF,trivial⟩ (by decide) aG))
 skip
 all_goals
  rw [e1]
  exact hB ((es,ks)) _ _ ⟨by simpa using h0,⟨k1,by simp only;omega,k3⟩⟩ (Wk.weak (wkG [some 0,some 1] ⟨rfl,rfl,rfl,rfl,trivial⟩ ⟨wqE rfl rfl,wqE rfl pE,trivial⟩ (by decide) aG))
end Go.Proofs.YtdnnffbbhijmkaaGreat
namespace Go.Proofs.YtdnnffbbhijmkaaGreat
open Go.ChangeShapes Go.WideShapes Go.ChangeAt Go.RowKit Am Go.Proofs.Tryz
set_option maxRecDepth 100000
def nwL(n:Int)(s:ar)(row:Bool)(al ac:ay)(kn:Int)(K:AC):List AC:= .J n::(lc (ar.c s)++[.B row,.J al.mode,.J al.n,.J ac.mode,.J ac.n,.J kn,K])
def plL(n:Int)(s:ar)(wd hg:ay)(row:Bool)(iw ih al ac:ay)(K:AC):List AC:= .J n::(lc (ar.c s)++[.J wd.mode,.J wd.n,.J hg.mode,.J hg.n,.B row,.J iw.mode,.J iw.n,.J ih.mode,.J ih.n,.J al.mode,.J al.n,.J ac.mode,.J ac.n,K])
def inW(s:ar)(w:ay):ay:=o4 w (sj s true)
def inH(s:ar)(h:ay):ay:=o4 h (sj s false)
def sdM(s:ar)(rtl main:Bool):Int×Int:=if main then(sd1 (jm s) (kx s rtl),sd2 (jm s) (kx s rtl))else(sd1 (!jm s) (k6 s rtl),sd2 (!jm s) (k6 s rtl))
def sdB(s k:ar)(rtl main:Bool)(base:Int):aw:=⟨0,oq k.margin (sdM s rtl main).1 rtl base,oq k.margin (sdM s rtl main).2 rtl base,uz k.margin (sdM s rtl main).1 rtl,uz k.margin (sdM s rtl main).2 rtl,0,0⟩
def Bu(ns:List ak)(n:Int)(wd hg:ay):Bool:=ei ns&&(rng n 1 (ns.length:Int)&&(AN wd&&AN hg))
theorem uL(ns:List ak)(hl:ns.length≤1048576)(hs:∀y∈ns,ak.small y)(n a b c d:Int):PC0 62 [.agg [.view (vwA ak.ac ns)],ai n,agP ⟨a,b⟩,agP ⟨c,d⟩] (.t (abl (Bu ns n ⟨a,b⟩ ⟨c,d⟩))):=by
 have cT:=mC ns hl hs
 obtain⟨V,hV⟩:=nmE (vwA ak.ac ns)
 have hVx:bg V=(ns.length:Int):=by rw [aF,hV,bD]
 have cI:=gp V n
 have cw:=lQ a b
 have ch:=lQ c d
 rw [←hV]at cT⊢
 unfold Bu
 rw [←hVx]
 clear hVx hV hs hl
 obtain⟨T,hT⟩:=nmE (ei ns)
 obtain⟨I,hI⟩:=nmE (rng n 1 (bg V))
 obtain⟨W,hW⟩:=nmE (AN ⟨a,b⟩)
 obtain⟨H,hH⟩:=nmE (AN ⟨c,d⟩)
 rw [←hT]at cT
 rw [←hI]at cI
 rw [←hW]at cw
 rw [←hH]at ch
 rw [←hT,←hI,←hW,←hH]
 clear hT hI hW hH
 cases T<;>cases I<;>cases W<;>cases H<;>(
  refine ae (aN f62) aD func62 fun g F hg hF=> ?_
  cbv
  (repeat'((first|refine ad hg cT ?_|refine ad hg cI ?_|refine ad hg cw ?_|refine ad hg ch ?_);cbv))
  exact bm hF rfl)
theorem tS(ns:List ak)(hl:ns.length≤1048576)(hs:∀y∈ns,ak.small y)(n a b c d:Int):PC0 68 [.agg [.view (vwA ak.ac ns)],ai n,agP ⟨a,b⟩,agP ⟨c,d⟩] (.t (abl (Bu ns n ⟨a,b⟩ ⟨c,d⟩))):=by
 have cT:=tU ns hl hs
 obtain⟨V,hV⟩:=nmE (vwA ak.ac ns)
 have hVx:bg V=(ns.length:Int):=by rw [aF,hV,bD]
 have cI:=jt V n
 have cw:=lZ a b
 have ch:=lZ c d
 rw [←hV]at cT⊢
 unfold Bu
 rw [←hVx]
 clear hVx hV hs hl
 obtain⟨T,hT⟩:=nmE (ei ns)
 obtain⟨I,hI⟩:=nmE (rng n 1 (bg V))
 obtain⟨W,hW⟩:=nmE (AN ⟨a,b⟩)
 obtain⟨H,hH⟩:=nmE (AN ⟨c,d⟩)
 rw [←hT]at cT
 rw [←hI]at cI
 rw [←hW]at cw
 rw [←hH]at ch
 rw [←hT,←hI,←hW,←hH]
 clear hT hI hW hH
 cases T<;>cases I<;>cases W<;>cases H<;>(
  refine ae (aN f68) aD func68 fun g F hg hF=> ?_
  cbv
  (repeat'((first|refine ad hg cT ?_|refine ad hg cI ?_|refine ad hg cw ?_|refine ad hg ch ?_);cbv))
  exact bm hF rfl)
theorem fq(ns:List ak)(hl:ns.length≤1048576)(kid:Int)(y:ak)(h1:isN ns kid=true)(hy:ns[(kid-1).toNat]? =some y)(rtl main kp:Bool)(C D:AC)(n:Int)(s:ar)(row:Bool)(al ac:ay)(kn:Int)(K:List (List AC)):PC0 109 [.c (.eptr [.view (vwA ak.ac ns),.B rtl,.B kp,C,D] 0),.agg (nwL n s row al ac kn (.view K)),ai kid,abl main] (.t (.agg (lc (aw.c (sdB s y.style rtl main kn))))):=by
 obtain⟨V,hV⟩:=nmE (vwA ak.ac ns)
 obtain⟨Ky,hKy⟩:=nmE (vw ao y.kids)
 obtain⟨Ry,hRy⟩:=nmE (vw aJ.c y.table.rules)
 have b2:=bB h1
 have cy:=bK ns kid y b2.1 (by have:=b2.2.1;omega) hy V Ky Ry hV hKy hRy
 have cm:=oE s rtl
 have cc:=nM s rtl
 obtain⟨p1,hp1⟩:=nmE ((sdM s rtl main).1)
 obtain⟨p2,hp2⟩:=nmE ((sdM s rtl main).2)
 have m1:=kh y.style.margin p1 rtl kn
 have m2:=kh y.style.margin p2 rtl kn
 have a1:=km y.style.margin p1 rtl
 have a2:=km y.style.margin p2 rtl
 rw [←hV]
 unfold sdB
 rw [←hp1,←hp2]
 obtain⟨M1,hM1⟩:=nmE (oq y.style.margin p1 rtl kn)
 obtain⟨M2,hM2⟩:=nmE (oq y.style.margin p2 rtl kn)
 obtain⟨A1,hA1⟩:=nmE (uz y.style.margin p1 rtl)
 obtain⟨A2,hA2⟩:=nmE (uz y.style.margin p2 rtl)
 rw [←hM1]at m1⊢
 rw [←hM2]at m2⊢
 rw [←hA1]at a1⊢
 rw [←hA2]at a2⊢
 clear hM1 hM2 hA1 hA2
 cases main
 all_goals
  simp only [sdM,if_true,if_false,Bool.false_eq_true]at hp1 hp2
  first|rw [←hp1,←hp2]at cm|rw [←hp1,←hp2]at cc
  refine ae (aN f109) aD func109 fun g F hg hF=> ?_
  cbv
  repeat'((first|refine ad hg cm ?_|refine aa hg cm ?_|refine ad hg cc ?_|refine aa hg cc ?_|refine ad hg cy ?_|refine aa hg cy ?_|refine ad hg m1 ?_|refine aa hg m1 ?_|refine ad hg m2 ?_|refine aa hg m2 ?_|refine ad hg a1 ?_|refine aa hg a1 ?_|refine ad hg a2 ?_|refine aa hg a2 ?_);cbv)
  refine ej hF ?_ ?_<;>first|rfl|exact⟨rfl,rfl⟩
theorem fz(V:List (List AC))(rtl:Bool)(n:Int)(s k:ar)(wd hg2:ay)(row:Bool)(iw ih al ac:ay)(K:List (List AC))(p q:Int):PC0 129 [.agg [.view V,.B rtl,.imm (.pointer none)],.agg (plL n s wd hg2 row iw ih al ac (.view K)),.agg (lc (ar.c k)),ai p,ai q] (.tup [ai (oq k.margin p rtl (knS iw)),ai (oq k.margin q rtl (knS iw))]):=by
 have ck:=ec iw.mode iw.n
 have m1:=kO k.margin p rtl (knS iw)
 have m2:=kO k.margin q rtl (knS iw)
 obtain⟨B,hB⟩:=nmE (knS iw)
 change PC0 _ _ (.t (ai (knS iw)))at ck
 rw [←hB]at ck m1 m2⊢
 obtain⟨M1,hM1⟩:=nmE (oq k.margin p rtl B)
 obtain⟨M2,hM2⟩:=nmE (oq k.margin q rtl B)
 rw [←hM1]at m1⊢
 rw [←hM2]at m2⊢
 clear hM1 hM2 hB
 refine ae (aN f129) aD func129 fun g F hg hF=> ?_
 cbv
 repeat'((first|refine ad hg ck ?_|refine aa hg ck ?_|refine ad hg m1 ?_|refine aa hg m1 ?_|refine ad hg m2 ?_|refine aa hg m2 ?_);cbv)
 refine ej hF ?_ ?_<;>first|rfl|exact⟨rfl,rfl⟩
theorem mz(ns:List ak)(n:Int)(x:ak)(hs:∀y∈ns,ak.small y)(ht:ei ns=true)(hl:ns.length≤1048576)(h1:1≤n)(h2:n≤(ns.length:Int))(hx:ns[(n-1).toNat]? =some x)(hkl:x.kids.length≤1048576)(hk:∀k∈x.kids,isN ns k=true)(a b c d:Int):PC0 66 [.agg [.view (vwA ak.ac ns)],ai n,agP ⟨a,b⟩,agP ⟨c,d⟩] (.t (.agg (nwL n x.style (jm x.style) (if jm x.style then inW x.style ⟨a,b⟩else inH x.style ⟨c,d⟩) (if jm x.style then inH x.style ⟨c,d⟩else inW x.style ⟨a,b⟩) (knS (inW x.style ⟨a,b⟩)) (.view (vw ao (gP (ic ns) (x.kids.filter (lA ns)))))))):=by
 have cF:=kl ns n x hs ht hl h1 h2 hx hkl hk
 obtain⟨V,hV⟩:=nmE (vwA ak.ac ns)
 obtain⟨K,hK⟩:=nmE (vw ao x.kids)
 obtain⟨R,hR⟩:=nmE (vw aJ.c x.table.rules)
 obtain⟨G,hG⟩:=nmE (vw ao (gP (ic ns) (x.kids.filter (lA ns))))
 have pG:ah G=true:=by rw [hG];exact ag _ _
 have iG:bS G=true:=by rw [hG];exact aI _ _
 have kG:∀y∈G,y.length=1:=by rw [hG];exact bJ (c:=ao) (k:=1) fun _=>rfl
 have dG:∀y∈G,y.all dat=true:=by rw [hG];exact aC
 have cn:=bK ns n x h1 (by omega) hx V K R hV hK hR
 have cr:=gq x.style
 have f1:=gB x.style true
 have f2:=gB x.style false
 have i1:=eI a b (sj x.style true)
 have i2:=eI c d (sj x.style false)
 obtain⟨w1,w2,hW⟩:∃w1 w2,(⟨w1,w2⟩:ay)=inW x.style ⟨a,b⟩:=⟨_,_,rfl⟩
 obtain⟨q1,q2,hH⟩:∃q1 q2,(⟨q1,q2⟩:ay)=inH x.style ⟨c,d⟩:=⟨_,_,rfl⟩
 have ck:=de w1 w2
 rw [←hV,←hG]at cF
 rw [←hV,←hG,←hW,←hH]
 change PC0 _ _ (.t (agP (inW x.style ⟨a,b⟩)))at i1
 change PC0 _ _ (.t (agP (inH x.style ⟨c,d⟩)))at i2
 rw [←hW]at i1
 rw [←hH]at i2
 obtain⟨kn,hkn⟩:=nmE (knS ⟨w1,w2⟩)
 obtain⟨F1,hF1⟩:=nmE (sj x.style true)
 obtain⟨F2,hF2⟩:=nmE (sj x.style false)
 rw [←hkn]at ck⊢
 rw [←hF1]at f1 i1
 rw [←hF2]at f2 i2
 cases hr:jm x.style
 all_goals
  rw [hr]at cr
  simp only [if_true,if_false,Bool.false_eq_true]
  refine ae (aN f66) aD func66 fun g F hg hF=> ?_
  cbv
  repeat'((first|refine ad hg cn ?_|refine aa hg cn ?_|refine ad hg cr ?_|refine aa hg cr ?_|refine ad hg f1 ?_|refine aa hg f1 ?_|refine ad hg f2 ?_|refine aa hg f2 ?_|refine ad hg i1 ?_|refine aa hg i1 ?_|refine ad hg i2 ?_|refine aa hg i2 ?_|refine ad hg ck ?_|refine aa hg ck ?_|refine bC hg cF (bp rfl) iG ?_|refine bN hg cF (bp rfl) iG ?_);cbv)
  refine sn [.agg (nwL n x.style _ _ _ _ (.view G))] hF (.agg (by repeat'(first|exact .nil|exact .imm _|exact bh (ab:=⟨_,_,G⟩) rfl kG dG|refine .cons ?_ ?_)) .nil) ⟨rfl,rfl⟩
def FM:AC→Bool
 | .imm _=>true
 | .view _=>true
 | .eptr _ _=>true
 |_=>false
theorem Dq{F:Nat→Prop}{w:World}{m:AM}{h:AH}{x:AT}{v:Value}(hp:x.cells.all FM=true)(hv:RT F w m h x v):RT F w [] [] x v:=by
 have key:∀(c:AC)(u:Value),FM c=true→RC F w m h c u→RC F w [] [] c u:=by
  intro c u hc hr
  cases c<;>first|exact hr|cases hc
 cases x with
 |c y=>exact key y v (by simpa [AT.cells]using hp) hv
 |agg xs=>
  obtain⟨vs,h1,h2,h3⟩:=hv
  exact⟨vs,h1,h2,fun j y hj=>let⟨u,hu,ho,hr⟩:=h3 j y hj;⟨u,hu,ho,key y u (List.all_eq_true.1 hp y (zqd hj)) hr⟩⟩
theorem B6{P:Program}{f:FuncId}{h:AH}{args:List AT}{Post:AV→List AB→Prop}(hc:dd P f args Post)(hp:(args.all fun x=>x.cells.all FM)=true):Con P f h args fun res h'=>∃r rows,Post r rows∧res=r.shift h.length∧h'=h++(rows.map (AB.shift h.length)).map .live:=
 ⟨hc.1,fun F w m vs hH hl hx=>(hc.2 F w [] vs (RH.empty hH.old (Nat.zero_le _)) hl (fun j x hj=>by
  obtain⟨v,hv,hr⟩:=hx j x hj
  exact⟨v,hv,Dq (List.all_eq_true.1 hp x (zqd hj)) hr⟩)).mono fun e w''⟨v,res,h',m',F1,he,⟨rows,hh,hpost⟩,hG,hs,hv⟩=>by
  subst hh
  obtain⟨m2,F2,g1,g2,g3⟩:=dX.of_outG hH (kv (n:=h.length) hG hs hv)
  exact⟨v,_,_,m2,F2,he,⟨res,rows,hpost,rfl,rfl⟩,g1,g2,g3⟩⟩
theorem Ar{P:Program}{n0 N:Nat}{h:EH}{g:Gd}(hg:g=G0 P n0 N){f:FuncId}{args:List AT}{K:AV→EH→Prop}{r:AV}(hc:dd P f args fun res rows=>res=r∧rows=[])(hp:(args.all fun x=>x.cells.all FM)=true)(hr:gx r=true)(hK:K r (h++[])):g .C f h args K:=by
 subst hg
 refine(B6 (h:=toH h) hc hp).mono fun res h'⟨r0,rows,⟨e1,e2⟩,h1,h2⟩=> ?_
 subst e1 e2
 subst h1 h2
 exact⟨h,by simp,by rw [il hr];simpa using hK⟩
def DT(s k:ar)(rtl row:Bool)(ac:ay)(kn:Int):ay:=
 let sd:=sdB s k rtl false kn
 let b:=wrap64 (sd.before+sd.behind)
 if qr k (!row) (knS ac)≠ -1 then⟨3,ox k (!row) (knS ac) (qr k (!row) (knS ac))⟩
 else if xF {sd with align:=yK s k}=true∧s.wrap=1∧ac.mode=3 then⟨3,ox k (!row) (knS ac) (wrap64 (ac.n-b))⟩
 else Bm (o4 ac b)
theorem j8(ns:List ak)(hl:ns.length≤1048576)(kid:Int)(y:ak)(h1:isN ns kid=true)(hy:ns[(kid-1).toNat]? =some y)(rtl kp:Bool)(C D:AC)(n:Int)(s:ar)(row:Bool)(al ac:ay)(kn:Int)(K:List (List AC)):PC0 65 [.c (.eptr [.view (vwA ak.ac ns),.B rtl,.B kp,C,D] 0),.agg (nwL n s row al ac kn (.view K)),ai kid] (.t (agP (DT s y.style rtl row ac kn))):=by
 obtain⟨Ky,hKy⟩:=nmE (vw ao y.kids)
 obtain⟨Ry,hRy⟩:=nmE (vw aJ.c y.table.rules)
 have b2:=bB h1
 have cs:=fq ns hl kid y h1 hy rtl false kp C D n s row al ac kn K
 obtain⟨V,hV⟩:=nmE (vwA ak.ac ns)
 have cy:=bK ns kid y b2.1 (by have:=b2.2.1;omega) hy V Ky Ry hV hKy hRy
 have ck:=de ac.mode ac.n
 change PC0 _ _ (.t (ai (knS ac)))at ck
 have cf:=fV y.style (!row) (knS ac)
 have cb:=eJ y.style (!row) (knS ac) (qr y.style (!row) (knS ac))
 have ca:=lU s y.style
 have ci:=fun z=>eI ac.mode ac.n z
 have cL:=kj
 obtain⟨R,hR⟩:=nmE (DT s y.style rtl row ac kn)
 rw [←hV]at cs
 rw [←hV,←hR]
 unfold DT at hR
 simp only at hR
 obtain⟨SD,hSD⟩:=nmE (sdB s y.style rtl false kn)
 rw [←hSD]at cs hR
 clear hSD
 obtain⟨am,an⟩:=ac
 obtain⟨KN,hKN⟩:=nmE (knS ⟨am,an⟩)
 rw [←hKN]at ck cf cb hR
 have cb:=fun z=>eJ y.style (!row) KN z
 obtain⟨FX,hFX⟩:=nmE (qr y.style (!row) KN)
 rw [←hFX]at cf hR
 obtain⟨AL,hAL⟩:=nmE (yK s y.style)
 rw [←hAL]at ca hR
 clear hAL hFX hKN
 have cF:=og {SD with align:=AL}
 have cB:=iv {SD with align:=AL}
 change PC0 _ _ (.t (ai (wrap64 (SD.before+SD.behind))))at cB
 obtain⟨FB,hFB⟩:∃S,S=xF {SD with align:=AL}:=⟨_,rfl⟩
 rw [←hFB]at cF hR
 obtain⟨BB,hBB⟩:=nmE (wrap64 (SD.before+SD.behind))
 rw [←hBB]at cB hR
 clear hFB hBB
 have ci:=ci BB
 change PC0 _ _ (.t (agP (o4 ⟨am,an⟩ BB)))at ci
 obtain⟨i1,i2,hI⟩:∃i1 i2,(⟨i1,i2⟩:ay)=o4 ⟨am,an⟩ BB:=⟨_,_,rfl⟩
 rw [←hI]at ci hR
 clear hI
 have cL:=cL i1 i2
 obtain⟨l1,l2,hL⟩:∃j1 j2,(⟨j1,j2⟩:ay)=Bm ⟨i1,i2⟩:=⟨_,_,rfl⟩
 rw [←hL]at cL hR
 clear hL
 obtain⟨ZZ,hZZ⟩:=nmE (wrap64 (an-BB))
 have cb1:=cb FX
 have cb2:=cb ZZ
 obtain⟨B1,hB1⟩:=nmE (ox y.style (!row) KN FX)
 obtain⟨B2,hB2⟩:=nmE (ox y.style (!row) KN ZZ)
 rw [←hZZ,←hB1,←hB2]at hR
 rw [←hB1]at cb1
 rw [←hB2]at cb2
 clear hB1 hB2 cb
 obtain⟨wr,hwr⟩:=nmE s.wrap
 rw [←hwr]at hR
 by_cases q1:FX= -1
 ·simp only [q1,ne_eq,not_true_eq_false,if_false]at hR
  subst q1
  have t1:∀g:Gd,g=G0 prog 0 f65.ntmps→g .q .neq (-1) (-1)=false:=fun g hg=>by rw [bj hg];rfl
  have t2:∀g:Gd,g=G0 prog 0 f65.ntmps→g .q .eql s.wrap 1=decide (wr=1):=fun g hg=>by rw [bq hg,hwr];exact zqn _ _
  have t3:∀g:Gd,g=G0 prog 0 f65.ntmps→g .q .eql am 3=decide (am=3):=fun g hg=>by rw [bq hg];exact zqn _ _
  have t4:∀g:Gd,g=G0 prog 0 f65.ntmps→g .w .sub .i64 an BB=ZZ:=fun g hg=>by rw [dc hg,hZZ]
  clear hwr hZZ
  cases FB
  case false=>
   simp only [Bool.false_eq_true,false_and,if_false]at hR
   rw [hR]
   clear hR
   refine ae (aN f65) aD func65 fun g F hg hF=> ?_
   have t1:=t1 g hg
   cbv
   repeat'((first|refine ad hg cy ?_|refine aa hg cy ?_|refine ad hg ck ?_|refine aa hg ck ?_);cbv)
   refine Ar hg cs rfl rfl ?_
   cbv
   repeat'((first|refine ad hg cf ?_|refine aa hg cf ?_);cbv)
   rw [t1]
   cbv
   repeat'((first|refine ad hg ca ?_|refine aa hg ca ?_|refine ad hg cF ?_|refine aa hg cF ?_|refine ad hg cB ?_|refine aa hg cB ?_|refine ad hg ci ?_|refine aa hg ci ?_|refine ad hg cL ?_|refine aa hg cL ?_);cbv)
   exact ml hF ⟨rfl,rfl⟩
  by_cases q2:wr=1
  case neg=>
   simp only [q2,false_and,and_false,if_false]at hR
   rw [hR]
   clear hR
   refine ae (aN f65) aD func65 fun g F hg hF=> ?_
   have t1:=t1 g hg
   have t2:=t2 g hg
   rw [zqt q2]at t2
   cbv
   repeat'((first|refine ad hg cy ?_|refine aa hg cy ?_|refine ad hg ck ?_|refine aa hg ck ?_);cbv)
   refine Ar hg cs rfl rfl ?_
   cbv
   repeat'((first|refine ad hg cf ?_|refine aa hg cf ?_);cbv)
   rw [t1]
   cbv
   repeat'((first|refine ad hg ca ?_|refine aa hg ca ?_|refine ad hg cF ?_|refine aa hg cF ?_);cbv)
   rw [t2]
   cbv
   repeat'((first|refine ad hg cB ?_|refine aa hg cB ?_|refine ad hg ci ?_|refine aa hg ci ?_|refine ad hg cL ?_|refine aa hg cL ?_);cbv)
   exact ml hF ⟨rfl,rfl⟩
  by_cases q3:am=3
  case neg=>
   simp only [q3,false_and,and_false,if_false]at hR
   rw [hR]
   clear hR
   refine ae (aN f65) aD func65 fun g F hg hF=> ?_
   have t1:=t1 g hg
   have t2:=t2 g hg
   have t3:=t3 g hg
   rw [zqu q2]at t2
   rw [zqt q3]at t3
   cbv
   repeat'((first|refine ad hg cy ?_|refine aa hg cy ?_|refine ad hg ck ?_|refine aa hg ck ?_);cbv)
   refine Ar hg cs rfl rfl ?_
   cbv
   repeat'((first|refine ad hg cf ?_|refine aa hg cf ?_);cbv)
   rw [t1]
   cbv
   repeat'((first|refine ad hg ca ?_|refine aa hg ca ?_|refine ad hg cF ?_|refine aa hg cF ?_);cbv)
   rw [t2]
   cbv
   rw [t3]
   cbv
   repeat'((first|refine ad hg cB ?_|refine aa hg cB ?_|refine ad hg ci ?_|refine aa hg ci ?_|refine ad hg cL ?_|refine aa hg cL ?_);cbv)
   exact ml hF ⟨rfl,rfl⟩
  simp only [q2,q3,and_self,if_true]at hR
  rw [hR]
  clear hR
  refine ae (aN f65) aD func65 fun g F hg hF=> ?_
  have t1:=t1 g hg
  have t2:=t2 g hg
  have t3:=t3 g hg
  have t4:=t4 g hg
  rw [zqu q2]at t2
  rw [zqu q3]at t3
  cbv
  repeat'((first|refine ad hg cy ?_|refine aa hg cy ?_|refine ad hg ck ?_|refine aa hg ck ?_);cbv)
  refine Ar hg cs rfl rfl ?_
  cbv
  repeat'((first|refine ad hg cf ?_|refine aa hg cf ?_);cbv)
  rw [t1]
  cbv
  repeat'((first|refine ad hg ca ?_|refine aa hg ca ?_|refine ad hg cF ?_|refine aa hg cF ?_);cbv)
  rw [t2]
  cbv
  rw [t3]
  cbv
  repeat'((first|refine ad hg cB ?_|refine aa hg cB ?_);cbv)
  rw [t4]
  repeat'((first|refine ad hg cb2 ?_|refine aa hg cb2 ?_);cbv)
  exact ml hF ⟨rfl,rfl⟩
 ·simp only [q1,ne_eq,not_false_eq_true,if_true]at hR
  rw [hR]
  clear hR
  refine ae (aN f65) aD func65 fun g F hg hF=> ?_
  have t1:g .q .neq FX (-1)=true:=by rw [bj hg];simp [q1]
  cbv
  repeat'((first|refine ad hg cy ?_|refine aa hg cy ?_|refine ad hg ck ?_|refine aa hg ck ?_);cbv)
  refine Ar hg cs rfl rfl ?_
  cbv
  repeat'((first|refine ad hg cf ?_|refine aa hg cf ?_);cbv)
  rw [t1]
  cbv
  repeat'((first|refine ad hg cb1 ?_|refine aa hg cb1 ?_);cbv)
  exact ml hF ⟨rfl,rfl⟩
end Go.Proofs.YtdnnffbbhijmkaaGreat
