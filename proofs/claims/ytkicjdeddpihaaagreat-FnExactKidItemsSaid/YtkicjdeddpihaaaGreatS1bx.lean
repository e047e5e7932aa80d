/- The law of KidItems. -/
import Derived.Test.YtkicjdeddpihaaaGreatS1bw
set_option linter.unusedVariables false
set_option linter.unusedSimpArgs false
set_option maxHeartbeats 16000000
namespace Go.Proofs.YtkicjdeddpihaaaGreat
open Go.ChangeShapes Go.WideShapes Go.ChangeAt Go.RowKit Am Go.Proofs.Tryz
set_option maxRecDepth 100000
def fP(k0:Int)(n:Nat):List af:=(List.range n).map fun i:Nat=>⟨(k0+9*(i:Int)),(k0+9*(i:Int))+1,(k0+9*(i:Int))+2,(k0+9*(i:Int))+3,(k0+9*(i:Int))+4,(k0+9*(i:Int))+5,(k0+9*(i:Int))+6,m3 ((k0+9*(i:Int))+7),m3 ((k0+9*(i:Int))+8)⟩
theorem pp{k0 z kc:Int}{n:Nat}{M:Int}(hM:M=(n:Int))(h0:0<=z)(h1:z<M)(hk:kc=k0+9*z):(vw af.c (fP k0 n))[z.toNat]? =some ([.J kc,.J (kc+1),.J (kc+2),.J (kc+3),.J (kc+4),.J (kc+5),.J (kc+6),.B (m3 (kc+7)),.B (m3 (kc+8))]):=by
 subst hk
 have hz:z.toNat<n:=by rw [hM]at h1;omega
 refine(ba (x:=⟨(k0+9*z),(k0+9*z)+1,(k0+9*z)+2,(k0+9*z)+3,(k0+9*z)+4,(k0+9*z)+5,(k0+9*z)+6,m3 ((k0+9*z)+7),m3 ((k0+9*z)+8)⟩) ?_).trans rfl
 rw [fP,zqi,List.getElem?_range hz,Option.map_some,Int.toNat_of_nonneg h0]
theorem qm(k0:Int)(es:LLA)(hk:∀e∈es,e.length=9)(hp:aC es=true)(hl:es.length<=1048576)(hk0:0<=k0)(hk1:k0<=1000000000000):
  Con prog 30 (toH [.rw ⟨99,9,es⟩]) [.c (.own 0),ai k0] fun res h'=>∃eh,toH eh=h'/\(res= .i (k0+9*aM es)/\eh=[.rw ⟨99,9,vw af.c (fP k0 es.length)⟩]):=by
 obtain⟨V,hV⟩:=nmE (vw af.c (fP k0 es.length))
 have hS:V.length=es.length:=by rw [hV,ar,fP];simp
 have hR:aM V=aM es:=by rw [ah,ah,hS]
 have h4:aM V<=1048576:=by rw [ah];omega
 have pV:=pmV hV
 have h3:0<=aM V:=by rw [ah];omega
 have h5:aM V=(es.length:Int):=by rw [hR,ah]
 have h7:qM 9 V es 0:=⟨Int.le_refl 0,h3,hS.symm,hk,hp,fun i hi=>by simp at hi⟩
 rw [<-hV,<-hR]
 refine o6 (c:=aK f30) ay func30 (by kernel_rfl) (by kernel_rfl) (bl (by rfl)) (by kernel_rfl) fun g F hg hF=> ?_
 cbv
 refine rL hg ay (by kernel_rfl) (fun s:Int×Int×LLA=>[(0,.o 0),(1,.i s.2.1),(5,.i s.1)]) (fun s=>[.rw ⟨99,9,s.2.2⟩]) (fun s=>qM 9 V s.2.2 s.1/\s.2.1=k0+9*s.1) (fun s=>(aM V).toNat-s.1.toNat)
  (0,k0,es) [some 0] ⟨h7,by simp only;omega⟩ (wk1 ⟨⟨_,rfl,rfl,hp⟩,trivial⟩ zr3) (fun s B hs hB=> ?_)
 obtain⟨z,kc,E⟩:=s
 obtain⟨hs,hU⟩:=hs
 simp only at hs hU
 have h0:=hs.z0
 have h1:=hs.z1
 have xa:=hs.len
 have hf:aM E=aM V:=by rw [ah,ah,hs.len]
 cbv
 cases hc:g .q .lss z (g .ln E)
 ·rw [bg hg,bA hg,hf,zqo]at hc
  cbv
  obtain rfl:=hs.done hc
  refine Et hF pV ⟨_,rfl,?_,rfl⟩
  show AV.t (ai kc)=_
  rw [show kc=k0+9*aM E by omega]
 ·rw [bg hg,bA hg,hf,zqp]at hc
  cbv
  obtain⟨j,hj⟩:=nmE z.toNat
  have hT:j<E.length:=yp h0 (by rw [hf];exact hc) hj
  obtain⟨e,he,h6⟩:=hs.mem hT
  have xb:e.all dr=true:=List.all_eq_true.1 hs.pl e (zqd he)
  obtain⟨b0,b1,b2,b3,b4,b5,b6,b7,b8,rfl⟩:∃b0 b1 b2 b3 b4 b5 b6 b7 b8,e=[b0,b1,b2,b3,b4,b5,b6,b7,b8]:=by
   match e,h6 with
   | [b0,b1,b2,b3,b4,b5,b6,b7,b8],_=>exact⟨b0,b1,b2,b3,b4,b5,b6,b7,b8,rfl⟩
  have hy:=pp h5 h0 hc hU
  rw [<-hV]at hy
  have ha:0<=kc:=by omega
  have hb:kc+100<=1152921504606846976:=by omega
  obtain⟨E0,hd⟩:=nmE E
  have l0:j<E0.length:=by rw [hd];exact hT
  have hw:=he
  rw [<-hd]at hw⊢
  have ez:g .w .add .i64 z 1=z+1:=by rw [aJ hg,aq _ (by omega)]
  have g0:kc+9=k0+9*(z+1):=by omega
  have g2:(aM V).toNat-(z+1).toNat<(aM V).toNat-z.toNat:=by omega
  obtain⟨q0,hm⟩:=nmE (kc+1)
  obtain⟨q1,hn⟩:=nmE (kc+2)
  obtain⟨q2,ho⟩:=nmE (kc+3)
  obtain⟨q3,hq⟩:=nmE (kc+4)
  obtain⟨q4,hr⟩:=nmE (kc+5)
  obtain⟨q5,ht⟩:=nmE (kc+6)
  obtain⟨q6,hu⟩:=nmE (kc+7)
  obtain⟨q7,hv⟩:=nmE (kc+8)
  obtain⟨q8,hW⟩:=nmE (kc+9)
  rw [<-hW]at g0
  have e0:=fZ hg ha hb (Int.add_zero _).symm hm rfl (by decide) (by decide)
  have e1:=fZ hg ha hb hm hn rfl (by decide) (by decide)
  have e2:=fZ hg ha hb hn ho rfl (by decide) (by decide)
  have e3:=fZ hg ha hb ho hq rfl (by decide) (by decide)
  have e4:=fZ hg ha hb hq hr rfl (by decide) (by decide)
  have e5:=fZ hg ha hb hr ht rfl (by decide) (by decide)
  have e6:=fZ hg ha hb ht hu rfl (by decide) (by decide)
  have e7:=fZ hg ha hb hu hv rfl (by decide) (by decide)
  obtain⟨t7,hY⟩:=nmE (m3 q6)
  have h8:g .q .eql (g .w .rem .i64 q6 3) 0=t7:=by rw [hY,xr hg,bm hg];rfl
  have e8:=fZ hg ha hb hv hW rfl (by decide) (by decide)
  obtain⟨t8,hZ⟩:=nmE (m3 q7)
  have h9:g .q .eql (g .w .rem .i64 q7 3) 0=t8:=by rw [hZ,xr hg,bm hg];rfl
  refine yz hg h0 hj l0 ?_
  cbv
  refine⟨[b0,b1,b2,b3,b4,b5,b6,b7,b8],hw,?_⟩
  cbv
  generalize hG1:g .st _ _ _=E1
  have hI:E1=g .st E0 j [.J kc,b1,b2,b3,b4,b5,b6,b7,b8]:=hG1.symm
  have hx:E1[j]? =some [.J kc,b1,b2,b3,b4,b5,b6,b7,b8]:=by rw [hI,iQ hg];exact List.getElem?_set_self l0
  have l1:j<E1.length:=(List.getElem?_eq_some_iff.1 hx).1
  try rw [e0]
  cbv
  refine yz hg h0 hj l1 ?_
  cbv
  refine⟨[.J kc,b1,b2,b3,b4,b5,b6,b7,b8],hx,?_⟩
  cbv
  generalize hG2:g .st _ _ _=E2
  have hJ:E2=g .st E1 j [.J kc,.J q0,b2,b3,b4,b5,b6,b7,b8]:=hG2.symm
  have hz:E2[j]? =some [.J kc,.J q0,b2,b3,b4,b5,b6,b7,b8]:=by rw [hJ,iQ hg];exact List.getElem?_set_self l1
  have l2:j<E2.length:=(List.getElem?_eq_some_iff.1 hz).1
  try rw [e1]
  cbv
  refine yz hg h0 hj l2 ?_
  cbv
  refine⟨[.J kc,.J q0,b2,b3,b4,b5,b6,b7,b8],hz,?_⟩
  cbv
  generalize hG3:g .st _ _ _=E3
  have hK:E3=g .st E2 j [.J kc,.J q0,.J q1,b3,b4,b5,b6,b7,b8]:=hG3.symm
  have hA:E3[j]? =some [.J kc,.J q0,.J q1,b3,b4,b5,b6,b7,b8]:=by rw [hK,iQ hg];exact List.getElem?_set_self l2
  have l3:j<E3.length:=(List.getElem?_eq_some_iff.1 hA).1
  try rw [e2]
  cbv
  refine yz hg h0 hj l3 ?_
  cbv
  refine⟨[.J kc,.J q0,.J q1,b3,b4,b5,b6,b7,b8],hA,?_⟩
  cbv
  generalize hG4:g .st _ _ _=E4
  have hL:E4=g .st E3 j [.J kc,.J q0,.J q1,.J q2,b4,b5,b6,b7,b8]:=hG4.symm
  have hC:E4[j]? =some [.J kc,.J q0,.J q1,.J q2,b4,b5,b6,b7,b8]:=by rw [hL,iQ hg];exact List.getElem?_set_self l3
  have l4:j<E4.length:=(List.getElem?_eq_some_iff.1 hC).1
  try rw [e3]
  cbv
  refine yz hg h0 hj l4 ?_
  cbv
  refine⟨[.J kc,.J q0,.J q1,.J q2,b4,b5,b6,b7,b8],hC,?_⟩
  cbv
  generalize hG5:g .st _ _ _=E5
  have hM:E5=g .st E4 j [.J kc,.J q0,.J q1,.J q2,.J q3,b5,b6,b7,b8]:=hG5.symm
  have hD:E5[j]? =some [.J kc,.J q0,.J q1,.J q2,.J q3,b5,b6,b7,b8]:=by rw [hM,iQ hg];exact List.getElem?_set_self l4
  have l5:j<E5.length:=(List.getElem?_eq_some_iff.1 hD).1
  try rw [e4]
  cbv
  refine yz hg h0 hj l5 ?_
  cbv
  refine⟨[.J kc,.J q0,.J q1,.J q2,.J q3,b5,b6,b7,b8],hD,?_⟩
  cbv
  generalize hG6:g .st _ _ _=E6
  have hN:E6=g .st E5 j [.J kc,.J q0,.J q1,.J q2,.J q3,.J q4,b6,b7,b8]:=hG6.symm
  have hE:E6[j]? =some [.J kc,.J q0,.J q1,.J q2,.J q3,.J q4,b6,b7,b8]:=by rw [hN,iQ hg];exact List.getElem?_set_self l5
  have l6:j<E6.length:=(List.getElem?_eq_some_iff.1 hE).1
  try rw [e5]
  cbv
  refine yz hg h0 hj l6 ?_
  cbv
  refine⟨[.J kc,.J q0,.J q1,.J q2,.J q3,.J q4,b6,b7,b8],hE,?_⟩
  cbv
  generalize hG7:g .st _ _ _=E7
  have hO:E7=g .st E6 j [.J kc,.J q0,.J q1,.J q2,.J q3,.J q4,.J q5,b7,b8]:=hG7.symm
  have hG:E7[j]? =some [.J kc,.J q0,.J q1,.J q2,.J q3,.J q4,.J q5,b7,b8]:=by rw [hO,iQ hg];exact List.getElem?_set_self l6
  have l7:j<E7.length:=(List.getElem?_eq_some_iff.1 hG).1
  try rw [e6]
  cbv
  refine Dy hg (by decide) ?_
  cbv
  rw [h8]
  cbv
  refine yz hg h0 hj l7 ?_
  cbv
  refine⟨[.J kc,.J q0,.J q1,.J q2,.J q3,.J q4,.J q5,b7,b8],hG,?_⟩
  cbv
  generalize hG8:g .st _ _ _=E8
  have hP:E8=g .st E7 j [.J kc,.J q0,.J q1,.J q2,.J q3,.J q4,.J q5,.B t7,b8]:=hG8.symm
  have hH:E8[j]? =some [.J kc,.J q0,.J q1,.J q2,.J q3,.J q4,.J q5,.B t7,b8]:=by rw [hP,iQ hg];exact List.getElem?_set_self l7
  have l8:j<E8.length:=(List.getElem?_eq_some_iff.1 hH).1
  try rw [e7]
  cbv
  refine Dy hg (by decide) ?_
  cbv
  rw [h9]
  cbv
  refine yz hg h0 hj l8 ?_
  cbv
  refine⟨[.J kc,.J q0,.J q1,.J q2,.J q3,.J q4,.J q5,.B t7,b8],hH,?_⟩
  cbv
  generalize hG9:g .st _ _ _=E9
  have hQ:E9=g .st E8 j [.J kc,.J q0,.J q1,.J q2,.J q3,.J q4,.J q5,.B t7,.B t8]:=hG9.symm
  have h2:E9[j]? =some [.J kc,.J q0,.J q1,.J q2,.J q3,.J q4,.J q5,.B t7,.B t8]:=by rw [hQ,iQ hg];exact List.getElem?_set_self l8
  have l9:j<E9.length:=(List.getElem?_eq_some_iff.1 h2).1
  try rw [e8]
  cbv
  rw [ez]
  have hh:E9=E.set j [.J kc,.J q0,.J q1,.J q2,.J q3,.J q4,.J q5,.B t7,.B t8]:=by rw [hQ,hP,hO,hN,hM,hL,hK,hJ,hI,hd];simp only [iQ hg,List.set_set]
  rw [hh]
  subst hY hZ
  have hX:=hs.step hc hj hy rfl rfl
  subst hm hn ho hq hr ht hu hv
  exact Hm hB (z+1,q8,_) [some 0] (wk1 ⟨⟨_,rfl,rfl,hX.pl⟩,trivial⟩ zr3) ⟨hX,g0⟩ g2
theorem qn(k0:Int)(n:Nat)(hl:n<=1048576)(hk0:0<=k0)(hk1:k0<=1000000000000):PC0 31 [.c (.view (vw af.c (fP k0 n))),ai k0] (.i (k0+9*(n:Int))):=by
 obtain⟨V,hV⟩:=nmE (vw af.c (fP k0 n))
 have hr:V.length=n:=by rw [hV,ar,fP];simp
 obtain⟨M,hM⟩:∃M:Int,M=(n:Int):=⟨_,rfl⟩
 have hn:aM V=M:=by rw [ah,hr,hM]
 have hw:M<=1048576:=by omega
 have hq:0<=M:=by omega
 rw [<-hV,<-hM]
 refine ae (aK f31) ay func31 fun g F hg hF=> ?_
 cbv
 refine bO hg ay (by kernel_rfl) (fun s:Int×Int=>[(0,.v V),(1,.i s.2),(5,.i s.1)]) (fun _=>[]) (fun s=>0<=s.1/\s.1<=M/\s.2=k0+9*s.1) (fun s=>M.toNat-s.1.toNat)
  (0,k0) [] ⟨Int.le_refl 0,hq,by simp only;omega⟩ (wk0 zr3) (fun s B hs hB=> ?_)
 obtain⟨z,kc⟩:=s
 obtain⟨h0,h1,h2⟩:=hs
 simp only at h0 h1 h2
 cbv
 cases hc:g .q .lss z (g .ln V)
 ·rw [bg hg,bA hg,hn,zqo]at hc
  cbv
  exact aU hF (by rw [h2,show z=M by omega])
 ·rw [bg hg,bA hg,hn,zqp]at hc
  cbv
  have hy:=pp hM h0 hc h2
  rw [<-hV]at hy
  have ha:0<=kc:=by omega
  have hb:kc+100<=1152921504606846976:=by omega
  obtain⟨q0,hd⟩:=nmE (kc+1)
  obtain⟨q1,he⟩:=nmE (kc+2)
  obtain⟨q2,hf⟩:=nmE (kc+3)
  obtain⟨q3,hh⟩:=nmE (kc+4)
  obtain⟨q4,hi⟩:=nmE (kc+5)
  obtain⟨q5,hj⟩:=nmE (kc+6)
  obtain⟨q6,hk⟩:=nmE (kc+7)
  obtain⟨q7,hm⟩:=nmE (kc+8)
  obtain⟨q8,ht⟩:=nmE (kc+9)
  rw [<-hd,<-he,<-hf,<-hh,<-hi,<-hj,<-hk,<-hm]at hy
  have e0:=fZ hg ha hb (Int.add_zero _).symm hd rfl (by decide) (by decide)
  have n0:g .q .neq kc kc=false:=by rw [bh hg];simp
  have e1:=fZ hg ha hb hd he rfl (by decide) (by decide)
  have n1:g .q .neq q0 q0=false:=by rw [bh hg];simp
  have e2:=fZ hg ha hb he hf rfl (by decide) (by decide)
  have n2:g .q .neq q1 q1=false:=by rw [bh hg];simp
  have e3:=fZ hg ha hb hf hh rfl (by decide) (by decide)
  have n3:g .q .neq q2 q2=false:=by rw [bh hg];simp
  have e4:=fZ hg ha hb hh hi rfl (by decide) (by decide)
  have n4:g .q .neq q3 q3=false:=by rw [bh hg];simp
  have e5:=fZ hg ha hb hi hj rfl (by decide) (by decide)
  have n5:g .q .neq q4 q4=false:=by rw [bh hg];simp
  have e6:=fZ hg ha hb hj hk rfl (by decide) (by decide)
  have n6:g .q .neq q5 q5=false:=by rw [bh hg];simp
  have e7:=fZ hg ha hb hk hm rfl (by decide) (by decide)
  obtain⟨t7,ho⟩:=nmE (m3 q6)
  have hu:g .q .eql (g .w .rem .i64 q6 3) 0=t7:=by rw [ho,xr hg,bm hg];rfl
  have n7:g .qb .neq t7 t7=false:=by rw [eY hg];simp
  rw [<-ho]at hy
  have e8:=fZ hg ha hb hm ht rfl (by decide) (by decide)
  obtain⟨t8,hp⟩:=nmE (m3 q7)
  have hv:g .q .eql (g .w .rem .i64 q7 3) 0=t8:=by rw [hp,xr hg,bm hg];rfl
  have n8:g .qb .neq t8 t8=false:=by rw [eY hg];simp
  rw [<-hp]at hy
  refine goX hg _ h0 hy rfl ?_
  cbv
  rw [n0]
  cbv
  rw [e0]
  cbv
  refine goX hg _ h0 hy rfl ?_
  cbv
  rw [n1]
  cbv
  rw [e1]
  cbv
  refine goX hg _ h0 hy rfl ?_
  cbv
  rw [n2]
  cbv
  rw [e2]
  cbv
  refine goX hg _ h0 hy rfl ?_
  cbv
  rw [n3]
  cbv
  rw [e3]
  cbv
  refine goX hg _ h0 hy rfl ?_
  cbv
  rw [n4]
  cbv
  rw [e4]
  cbv
  refine goX hg _ h0 hy rfl ?_
  cbv
  rw [n5]
  cbv
  rw [e5]
  cbv
  refine goX hg _ h0 hy rfl ?_
  cbv
  rw [n6]
  cbv
  rw [e6]
  cbv
  repeat'((first|refine goX hg _ h0 hy rfl ?_|refine Dy hg (by decide) ?_|rw [hu]);cbv)
  rw [n7]
  cbv
  rw [e7]
  cbv
  repeat'((first|refine goX hg _ h0 hy rfl ?_|refine Dy hg (by decide) ?_|rw [hv]);cbv)
  rw [n8]
  cbv
  rw [e8]
  cbv
  have ez:g .w .add .i64 z 1=z+1:=by rw [aJ hg,aq _ (by omega)]
  try rw [ez]
  exact hP hB (z+1,q8) [] (wk0 zr3) ⟨by simp only;omega,by simp only;omega,by simp only;omega⟩ (by show M.toNat-(z+1).toNat<M.toNat-z.toNat;omega)
theorem mQ.swap{lo:Nat}{as_ bs:List Nat}(h:mQ lo (as_++bs)):mQ lo (bs++as_):=by
 obtain⟨h1,h2,h3⟩:=List.nodup_append.1 h.1
 exact⟨List.nodup_append.2 ⟨h2,h1,fun a ha b hb he=>h3 b hb a ha he.symm⟩,fun b hb=>h.2 b (by rcases List.mem_append.1 hb with h|h;exact List.mem_append_right _ h;exact List.mem_append_left _ h)⟩
def ag.acT(x:ag)(b1 b63:List Nat):List AC:=
 match x with
 |⟨a0,a1,a2,a62,⟨a63⟩⟩=>(List.append [.imm (.int .i64 a0),.fv b1 (vw aj a1)] (List.append (lc (ak.c a2)) [.imm (.bool a62),.fv b63 (vw aI.c a63)]))
theorem s7(x:jK)(hs:x.small):Bl prog 146 [.agg x.ac] fun lo res hc=>(∃b,res= .t (.agg [.fv b (vw aI.c x.rules)])/\mQ lo b)/\dq res=true/\hc=[]:=by
 obtain⟨a0⟩:=x
 obtain⟨hl,-⟩:=hs
 show Bl _ _ [.agg [.view (vw aI.c a0)]] (fun lo res hc=>(∃b,res= .t (.agg [.fv b (vw aI.c a0)])/\mQ lo b)/\dq res=true/\hc=[])
 have c0:=DH (mJ a0 hl)
 obtain⟨he,ha⟩:=nmE (vw aI.c a0)
 have hf:=lmV ha
 have hb:=imV ha
 have hk:=kmV (k:=3) ha fun _=>rfl
 have hh:=dmV ha
 rw [<-ha]at c0
 rw [<-ha]
 refine qz ([]) ([]) (c:=aK f146) ay func146 (by kernel_rfl) (by kernel_rfl) (by rfl) (by kernel_rfl) fun β g hm hd F hj hn hg hF=> ?_
 cbv
 repeat'(refine bC hg c0 (br rfl) hb ?_;cbv)
 refine G8 hF fun bl hi=>⟨[.agg [.fv (hd1 (bl 3) he) he]],.agg (.cons (ri (r:=3) (ab:=⟨_,_,he⟩) rfl hb) .nil) .nil,⟨_,rfl,sn hi (r:=3) (ab:=⟨_,_,he⟩) rfl⟩,rfl,rfl⟩
theorem vr(x:ag)(hs:x.small):Bl prog 71 [.agg x.ac] fun lo res hb=>(∃b1 b63,res= .t (.agg (x.acT b1 b63))/\mQ lo (b1++b63))/\dq res=true/\hb=[]:=by
 obtain⟨a0,a1,a2,hk,⟨he⟩⟩:=x
 obtain⟨ht,hl,-⟩:=hs
 show Bl _ _ [.agg (List.append [.J a0,.view (vw aj a1)] (List.append (lc (ak.c a2)) [.B hk,.view (vw aI.c he)]))] (fun lo res hb=>(∃b1 b63,res= .t (.agg (List.append [.J a0,.fv b1 (vw aj a1)] (List.append (lc (ak.c a2)) [.B hk,.fv b63 (vw aI.c he)])))/\mQ lo (b1++b63))/\dq res=true/\hb=[])
 have c1:=DH (nX a1 ht)
 have hj:=s7 ⟨he⟩ ⟨hl,trivial⟩
 replace hj:Bl prog 146 [.agg [.view (vw aI.c he)]] (fun lo res hb=>(∃b,res= .t (.agg [.fv b (vw aI.c he)])/\mQ lo b)/\dq res=true/\hb=[]):=hj
 obtain⟨hi,ha⟩:=nmE (vw aj a1)
 have hm:=lmV ha
 have hh:=imV ha
 have hr:=kmV (k:=1) ha fun _=>rfl
 have ho:=dmV ha
 obtain⟨hf,hc⟩:=nmE (vw aI.c he)
 rw [<-ha]at c1
 rw [<-hc]at hj
 rw [<-ha,<-hc]
 refine qz ([]) ([]) (c:=aK f71) ay func71 (by kernel_rfl) (by kernel_rfl) (by rfl) (by kernel_rfl) fun β g hu hd F hq hv hg hF=> ?_
 cbv
 repeat'((first|refine bC hg c1 (br rfl) hh ?_|refine fW hg (jo (a2:ak)) rfl rfl ?_);cbv)
 refine Ah hg hj (gQ rfl) (fun lo res h1 h2 h3⟨b63,hres,hn⟩=> ?_)
 subst hres
 clear h2 h3
 cbv
 refine G8 hF fun bl hp=>⟨[.agg (List.append [.J a0,.fv (hd1 (bl 3) hi) hi] (List.append (lc (ak.c a2)) [.B hk,.fv b63 hf]))],.agg (by repeat'(first|exact .nil|refine .cons ?_ ?_|exact .imm _|exact .fv _ _|exact ri (r:=3) (ab:=⟨_,_,hi⟩) rfl hh)) .nil,⟨_,_,rfl,(EP hp (r:=3) (ab:=⟨_,_,hi⟩) rfl (List.mem_singleton.2 rfl) (ps:=b63) (ys:=hf) (by simp [AT.cells]) (hn.mono h1)).swap⟩,rfl,rfl⟩
theorem s9(xs:List ag)(hl:xs.length<=1048576)(hs:∀y∈xs,y.small):Bl prog 37 [.c (.view (vwA ag.ac xs))] fun lo res he=>(∃bs,res= .t (.c (.fv bs (vwA ag.ac xs)))/\mQ lo bs)/\dq res=true/\he=[]:=by
 obtain⟨V,hV⟩:=nmE (vwA ag.ac xs)
 have hw:V.length=xs.length:=by rw [hV,bB]
 have hy:aM V=(xs.length:Int):=by rw [ah];omega
 have hG:aM V<=1048576:=by omega
 rw [<-hV]
 refine qz ([]) ([]) (c:=aK f37) ay func37 (by kernel_rfl) (by kernel_rfl) (by rfl) (by kernel_rfl) fun β g hE hd F hr hA hg hF=> ?_
 cbv
 refine FO hg (by decide) (by rw [hw];exact hl) ?_
 cbv
 have hu:qx 64 V (List.replicate (g .ln V).toNat wB) 0 β.lo:=qx.start rfl rfl (bA hg V)
 refine gj [] [] hr hA hg ay (by kernel_rfl) (fun s:Int×LLA=>[(0,.v V),(3,.o 0),(4,.i s.1)]) (fun s=>[.rw ⟨119,64,s.2⟩]) (fun s=>qx 64 V s.2 s.1 β.lo) (fun s=>(aM V).toNat-s.1.toNat)
  (0,g .rp (g .ln V) wB) ?_ (Wk.weak (wkS [0] (by decide) ⟨⟨_,rfl,rfl,?_⟩,trivial⟩ zr3)) (fun s B ha hB=> ?_)
 ·simp only [yA hg];exact hu
 ·simp only [yA hg];exact bQ hu.bare
 ·obtain⟨z,es⟩:=s
  simp only at ha
  have h0:=ha.z0
  have h1:=ha.z1
  have hh:=ha.len
  cbv
  cases hc:g .q .lss z (g .ln V)
  ·cbv
   rw [bg hg,bA hg,zqo]at hc
   have hq:=ha.all hc
   refine G8 hF fun bl hz=>⟨[.c (.fv (hd1 (bl 0) es++fpE es) V)],.c (by have:=pi (bl:=bl) (h:=toH [.rw ⟨119,64,es⟩]) (r:=0) (ab:=⟨119,64,es⟩) rfl ha.bare;rw [hq]at this;exact this) .nil,⟨_,rfl,Hk hz (r:=0) (ab:=⟨_,_,es⟩) rfl ha.new⟩,rfl,rfl⟩
  ·cbv
   rw [bg hg,bA hg,zqp]at hc
   obtain⟨x,hx⟩:=pJ (xs:=xs) h0 (gg hy hc)
   have hD:=hs x (zqd hx)
   have hi:V[z.toNat]? =some x.ac:=by rw [hV];exact gR hx
   have cx:=vr x hD
   obtain⟨a0,a1,a2,hk,⟨hm⟩⟩:=x
   replace hi:V[z.toNat]? =some (List.append [.J a0,.view (vw aj a1)] (List.append (lc (ak.c a2)) [.B hk,.view (vw aI.c hm)])):=hi
   replace cx:Bl _ _ [.agg (List.append [.J a0,.view (vw aj a1)] (List.append (lc (ak.c a2)) [.B hk,.view (vw aI.c hm)]))] (fun lo res he=>(∃b1 b63,res= .t (.agg (List.append [.J a0,.fv b1 (vw aj a1)] (List.append (lc (ak.c a2)) [.B hk,.fv b63 (vw aI.c hm)])))/\mQ lo (b1++b63))/\dq res=true/\he=[]):=cx
   obtain⟨hv,hp⟩:=nmE (vw aj a1)
   obtain⟨ho,hf⟩:=nmE (vw aI.c hm)
   rw [<-hp,<-hf]at hi cx
   refine goX hg _ h0 hi rfl ?_
   cbv
   refine Ah hg cx (gQ rfl) (fun lo res q1 q2 q3⟨b1,b63,hres,hn⟩=> ?_)
   subst hres
   have hC:∀b∈fpE es,b<lo:=fun b hb=>q2 b (List.mem_append_left _ hb)
   clear q2 q3
   cbv
   obtain⟨j,hj⟩:=nmE z.toNat
   refine yy hg h0 hj (rK h0 (zM hh hc) hj) ?_
   cbv
   refine goN hg (ha.mem (rK h0 (zM hh hc) hj)) ?_
   cbv
   have h2:g .w .add .i64 z 1=z+1:=by rw [aJ hg,aq _ (by omega)]
   rw [h2,iQ hg]
   have ht:=ha.step (y:=(List.append [.J a0,.fv b1 hv] (List.append (lc (ak.c a2)) [.B hk,.fv b63 ho]))) hc hj hi rfl rfl rfl q1 (by simpa [fpL,fpC,show List.flatMap fpC (lc (ak.c a2))=[]from rfl]using hn) hC
   rw [hB]
   exact⟨(z+1,_),ht,by show(aM V).toNat-(z+1).toNat<(aM V).toNat-z.toNat;omega,Wk.weak (wkS [0] (by decide) ⟨⟨_,rfl,rfl,bQ ht.bare⟩,trivial⟩ zr3)⟩
theorem vo(x:iT)(hs:x.small):Bl prog 9 [.agg x.ac] fun lo res ha=>(∃b,res= .t (.agg [.fv b (vwA ag.ac x.nodes)])/\mQ lo b)/\dq res=true/\ha=[]:=by
 obtain⟨a0⟩:=x
 obtain⟨he,hf,-⟩:=hs
 show Bl _ _ [.agg [.view (vwA ag.ac a0)]] (fun lo res ha=>(∃b,res= .t (.agg [.fv b (vwA ag.ac a0)])/\mQ lo b)/\dq res=true/\ha=[])
 have c0:=s9 a0 he hf
 obtain⟨hh,hb⟩:=nmE (vwA ag.ac a0)
 rw [<-hb]at c0
 rw [<-hb]
 refine qz ([]) ([]) (c:=aK Tryz.f9) ay Tryz.func9 (by kernel_rfl) (by kernel_rfl) (by rfl) (by kernel_rfl) fun β g hi hd F hc hj hg hF=> ?_
 cbv
 refine Ah hg c0 (gQ rfl) (fun lo res h1 h2 h3⟨b,hres,hn⟩=> ?_)
 subst hres
 clear h2 h3
 cbv
 exact JG hF rfl ⟨⟨b,rfl,hn.mono h1⟩,rfl,rfl⟩
theorem kI(w:World)(a0:iT)(f0:a0.fit)(v0:Value)(r0:RT (fun b=>b<w.heap.size) w [] [] (.agg a0.ac) v0)(a1:Int)(a2:az)(a3:az)(a4:Bool):
  Calls prog 6 #[v0,.int .i64 a1,.agg #[.int .i64 a2.mode,.int .i64 a2.n],.agg #[.int .i64 a3.mode,.int .i64 a3.n],.bool a4] w fun e w'=>e= .returned (.bool true)/\Below w.heap.size w w':=by
 have cz:=vu a0 1048576 f0 (by decide) (by decide)
 have ck:a0.small->_:=fun hs=>vp a0 hs
 have ct:a0.small->_:=fun hs=>vo a0 hs
 have ce:a0.small->_:=fun hs=>vz a0 hs
 obtain⟨ns⟩:=a0
 obtain⟨p2,q2⟩:=a2
 obtain⟨p3,q3⟩:=a3
 have cm:iT.small ⟨ns⟩->_:=fun hs=>yn ns hs.1 hs.2.1
 have cs:iT.small ⟨ns⟩->_:=fun hs=>qT ns hs.1 hs.2.1 a1 p2 q2 p3 q3 a4
 have ci:iT.small ⟨ns⟩->_:=fun hs=>rZ ns hs.1 hs.2.1 a1 p2 q2 p3 q3 a4
 have hf:(kiO ns a1 ⟨p2,q2⟩ ⟨p3,q3⟩ a4).length<=1048576:=GX ..
 have eg:=tu (kiO ns a1 ⟨p2,q2⟩ ⟨p3,q3⟩ a4) (kiO ns a1 ⟨p2,q2⟩ ⟨p3,q3⟩ a4) hf
 rw [zqu rfl]at eg
 obtain⟨T,hT⟩:=nmE (vwA ag.ac ns)
 obtain⟨G,hG⟩:=nmE (vw af.c (kiO ns a1 ⟨p2,q2⟩ ⟨p3,q3⟩ a4))
 have iG:=imV hG
 have kG:=kmV (k:=9) hG fun _=>rfl
 have dG:=dmV hG
 have pG:=dQ iG
 have hh:G.length<=1048576:=by rw [hG,ar];exact hf
 replace r0:RT (fun b=>b<w.heap.size) w [] [] (.agg [.view T]) v0:=by rw [hT];exact r0
 obtain⟨S,hS⟩:∃S:Prop,S=iT.small ⟨ns⟩:=⟨_,rfl⟩
 rw [<-hS]at ck ct ce cs ci cm
 replace cz:da prog 7 [.agg [.view T],ai 1048576] (fun res ha=>∃R:Int,res= .i R/\ha=[]/\(R<=1048576\/R<0)/\(0<=R->S)):=by rw [hT,hS];exact cz
 replace ck:S->PC0 9 [.agg [.view T]] (.t (.agg [.view T])):=by rw [hT];exact ck
 replace ct:S->Bl prog 9 [.agg [.view T]] (fun lo res ha=>(∃b,res= .t (.agg [.fv b T])/\mQ lo b)/\dq res=true/\ha=[]):=by rw [hT];exact ct
 replace ce:S->PC0 13 [.agg [.view T],.agg [.view T]] (.t (abl true)):=by rw [hT];exact ce
 rw [<-hT]at cm
 rw [<-hT,<-hG]at cs ci
 rw [<-hG]at eg
 have t2:=mI (⟨p2,q2⟩:az)
 replace t2:PC0 10 [.agg [.J p2,.J q2]] (.t (.agg [.J p2,.J q2])):=t2
 have t3:=mI (⟨p3,q3⟩:az)
 replace t3:PC0 10 [.agg [.J p3,.J q3]] (.t (.agg [.J p3,.J q3])):=t3
 clear hS hT hG f0 hf
 refine GW 5 [(13,.hand)] [] (S) (args:=fun lo=>[.agg [.old lo T],ai a1,.agg [.J p2,.J q2],.agg [.J p3,.J q3],abl a4]) (c:=aK Tryz.f6) (fun lo=>[(1,.i a1),(4,.t (abl a4)),(5,.p 0),(7,.p 1),(8,.p 2),(12,.v G)]) (fun lo=>[.bx 24 1 [.old lo T],.bx 26 2 [.J p2,.J q2],.bx 26 2 [.J p3,.J q3]]) ay Tryz.func6 (by kernel_rfl) (by kernel_rfl) (fun _=>by rfl) (by kernel_rfl) (fun β g hk hd F B hi he hj hg hF hB=> ?_) (fun β lo g hk hd F hs hl hi he hj hg hF=> ?_) (vs:=[v0,.int .i64 a1,.agg #[.int .i64 p2,.int .i64 q2],.agg #[.int .i64 p3,.int .i64 q3],.bool a4]) rfl (jJ (HU (xs:=[.view T]) rfl r0) (jJ (rfl) (jJ (Fr (cs:= #[.int .i64 p2,.int .i64 q2]) rfl) (jJ (Fr (cs:= #[.int .i64 p3,.int .i64 q3]) rfl) (jJ (rfl) (Dg))))))
 ·clear r0
  cbv
  refine F6 hg cz ⟨zr1,rfl,trivial⟩ (fun res ha⟨R,hres,hrows,hR1,hR2⟩=> ?_)
  subst hres hrows
  refine⟨[],rfl,?_⟩
  cbv
  cases hlt:g .q .lss R 0
  case true=>
   cbv
   rw [hF]
  rw [bg hg,zqo]at hlt
  have hs:S:=hR2 (by omega)
  cbv
  repeat'((first|refine oA hg (ck hs) ⟨zr1,trivial⟩ rfl ?_|refine aa hg t2 ?_|refine aa hg t3 ?_|refine oA hg (cs hs) (gQ rfl) rfl ?_);cbv)
  skip
  exact hB hs _ _ (Wk.weak (wkG [some 0,some 1,some 2] zr6 ⟨wqE rfl rfl,wqE rfl rfl,wqE rfl rfl,trivial⟩ (by decide) aD))
 ·clear r0 cz
  replace ck:=ck hs
  replace ct:=ct hs
  replace ce:=ce hs
  replace cs:=cs hs
  replace ci:=ci hs
  replace cm:=cm hs
  cbv
  refine Ah hg ct ⟨zr1,trivial⟩ (fun lo0 res q1 q2 q3⟨b0,hres,hn⟩=> ?_)
  subst hres
  replace hn:=hn.mono q1
  clear q1 q2 q3
  cbv
  repeat'((first|refine xE hg ci (.agg (.cons (.fv _ _) .nil) (.c (.imm _) (.agg (.cons (.imm _) (.cons (.imm _) .nil)) (.agg (.cons (.imm _) (.cons (.imm _) .nil)) (.c (.imm _) .nil))))) iG ?_|refine aa hg t2 ?_|refine aa hg t3 ?_);cbv)
  refine xF hg eg (.c (bf (ab:=⟨_,_,G⟩) rfl kG dG) (.c (.old _ _) .nil)) rfl ?_
  cbv
  refine oA hg ck ⟨zr1,trivial⟩ rfl ?_
  cbv
  refine oA hg ce ⟨⟨.inl rfl,trivial⟩,zr1,trivial⟩ rfl ?_
  cbv
  obtain⟨R0,K,hp,hq,cm⟩:=cm
  have hm:=cm b0 hn.1
  clear cm
  refine ov hg hj ay 2 (by kernel_rfl) (fun mk ho=> ?_)
  cbv
  subst ho
  refine⟨_,_,_,[(b0,T,R0)],_,[(1,.i a1),(4,.t (abl a4)),(5,.p 0),(7,.p 1),(8,.p 2),(12,.t (.c (.old β.lo G))),(13,.p 3),(14,.o 4)],[.bx 24 1 [.old lo T],.bx 26 2 [.J p2,.J q2],.bx 26 2 [.J p3,.J q3],.bx 32 1 [.dead],.rw ⟨99,9,G⟩],rfl,rfl,rfl,rfl,rfl,hm,fun u hu b hb=> ?_,fun u hu=> ?_,
   ⟨.inr (.inl zr1),.inr (.inl zr1),.inr (.inl zr1),.inr (.inl zr1),.inr (.inl zr1),.inr (.inl ⟨rfl,fun u hu b hb=> ?_⟩),.inr (.inl zr1),.inr (.inl zr1),trivial⟩,
   ⟨⟨rfl,rfl,.inr (.inl ⟨rfl,fun u hu b hb=> ?_⟩),trivial⟩,⟨rfl,rfl,.inr (.inl zr1),.inr (.inl zr1),trivial⟩,⟨rfl,rfl,.inr (.inl zr1),.inr (.inl zr1),trivial⟩,⟨rfl,rfl,.inl rfl,trivial⟩,.inl ⟨rfl,iG⟩,trivial⟩,?_⟩
  ·rw [List.mem_singleton.1 hu]at hb;exact hi b (hn.2 b hb)
  ·rw [List.mem_singleton.1 hu];exact⟨_,List.mem_cons_self ..,List.mem_cons_self ..⟩
  ·rw [List.mem_singleton.1 hu]at hb;exact hn.2 b hb
  ·rw [List.mem_singleton.1 hu]at hb;exact Nat.le_trans hl (hn.2 b hb)
  clear hm hn
  have hc:=qm 1 G kG pG hh (by decide) (by decide)
  have ch:=qn 1 G.length hh (by decide) (by decide)
  rw [<-ah]at ch
  obtain⟨Y,hY⟩:=nmE (vw af.c (fP 1 G.length))
  have pY:=pmV hY
  have kY:=kmV (k:=9) hY fun _=>rfl
  have dY:=dmV hY
  rw [<-hY]at hc ch
  obtain⟨M,hM⟩:∃M:Int,M=1+9*aM G:=⟨_,rfl⟩
  have bM:¬M<0:=by rw [hM,ah];omega
  rw [<-hM]at hc ch
  clear hY hM
  have eK:g .q .lss K 0=false:=by rw [bg hg];exact zqt (by omega)
  have e4:g .q .lss M 0=false:=by rw [bg hg];exact zqt bM
  have e5:g .q .neq M M=false:=by rw [bh hg];simp
  cbv
  rw [eK]
  cbv
  refine xF hg eg (.c (bf (ab:=⟨_,_,G⟩) rfl kG dG) (.c (.old _ _) .nil)) rfl ?_
  cbv
  refine IV hg 4 hc rfl pG pY rfl ?_
  cbv
  refine xF hg ch (.c (bf (ab:=⟨_,_,Y⟩) rfl kY dY) (.c (.imm _) .nil)) rfl ?_
  cbv
  rw [e4]
  cbv
  rw [e5]
  cbv
  repeat'((first|refine oA hg ck ⟨zr1,trivial⟩ rfl ?_|refine aa hg t2 ?_|refine aa hg t3 ?_|refine xE hg ci (.agg (.cons (.view _) .nil) (.c (.imm _) (.agg (.cons (.imm _) (.cons (.imm _) .nil)) (.agg (.cons (.imm _) (.cons (.imm _) .nil)) (.c (.imm _) .nil))))) iG ?_);cbv)
  refine xF hg eg (.c (bf (ab:=⟨_,_,G⟩) rfl kG dG) (.c (.old _ _) .nil)) rfl ?_
  cbv
  refine xF hg ch (.c (bf (ab:=⟨_,_,Y⟩) rfl kY dY) (.c (.imm _) .nil)) rfl ?_
  cbv
  rw [e4]
  cbv
  rw [e5]
  cbv
  rw [hF]
end Go.Proofs.YtkicjdeddpihaaaGreat
