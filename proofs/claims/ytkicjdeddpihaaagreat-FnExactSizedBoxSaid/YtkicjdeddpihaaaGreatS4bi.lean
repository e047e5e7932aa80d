/- The layout without a state. -/
import Derived.Test.YtkicjdeddpihaaaGreatS4bh
set_option linter.unusedVariables false
set_option linter.unusedSimpArgs false
set_option maxHeartbeats 1600000
namespace Go.Proofs.YtkicjdeddpihaaaGreat
open Go.ChangeShapes Go.WideShapes Go.ChangeAt Go.RowKit Am Go.Proofs.Tryz
set_option maxRecDepth 100000
section
variable {P:Program}{n0 N:Nat}{g:Gd}
theorem CF(hg:g=G0 P n0 N){xs:LLA}{z:Int}{j k:Nat}{K:Nat->Prop}(hz:0<=z)(hj:j=z.toNat)(hy:j<xs.length)(hK:K j):g .Y k xs z K:=by subst hg hj;exact⟨hz,hy,hK⟩
theorem yf{es:LLA}{z:Int}{j:Nat}(h0:0<=z)(hc:z<aN es)(hj:j=z.toNat):j<es.length:=by subst hj;rw [ah]at hc;omega
theorem wk1{T:Nat->AV}{h h':AH}{l':List (Nat×AV)}(hs:DH h [0] h')(hk:rnK [some 0] h' T l'):Wk 1 T h l' h' [some 0]:=by
 match h',hs with
 | [e],hs=>
  have h1:=qO (h':=[e]) [0] [e] [] hs
  obtain⟨⟨ab,h2,rfl,h3⟩,_⟩:=hs
  refine⟨Nat.le_refl _,fun i hi hg=> ?_,by simp,?_,hk⟩
  ·obtain rfl:i=0:=by omega
   rw [h2]at hg;cases hg
  ·simp only [rnH,zqw,h2]
   exact⟨fun _=>by first|trivial|rfl|exact .inr trivial|exact .inr rfl,⟨by first|trivial|rfl,by first|trivial|rfl,.inl ⟨by first|trivial|rfl,h3⟩⟩,trivial⟩
variable {l:List (Nat×AV)}
theorem rB{tab:List (TypeId×TI)}(hg:g=G0 P 1 N)(hfit:fV P tab){S:Type}{c:Code}{Q:Exit->List (Nat×AV)->EH->Prop}{h:EH}(hok:fT N c=true)(Tf:S->List (Nat×AV))(hf:S->EH)(ok:S->Prop)(μ:S->Nat)(s0:S)(ρ0:List (Option Nat))(h0:ok s0)
  (hw:Wk 1 (lkT l) (toH h) (Tf s0) (toH (hf s0)) ρ0)
  (hb:∀(s:S)(B:List (Nat×AV)->EH->Prop),ok s->B=(fun l' h'=>∃s' ρ,ok s'/\μ s'<μ s/\Wk 1 (lkT l') (toH h') (Tf s') (toH (hf s')) ρ)->we g tab c (fun e l h=>match e with| .normal=>B l h|e=>Q e l h) (Tf s) (hf s)):g .L c Q l h:=
 bO hg hfit hok Tf hf ok μ s0 ρ0 h0 hw hb
theorem Hb{S:Type}{ok:S->Prop}{μ:S->Nat}{s:S}{Tf:S->List (Nat×AV)}{hf:S->EH}{B:List (Nat×AV)->EH->Prop}{h:EH}
  (hB:B=fun l' h'=>∃s' ρ,ok s'/\μ s'<μ s/\Wk 1 (lkT l') (toH h') (Tf s') (toH (hf s')) ρ) (s':S) (ρ:List (Option Nat)) (hw:Wk 1 (lkT l) (toH h) (Tf s') (toH (hf s')) ρ) (h1:ok s') (h2:μ s'<μ s):B l h:=by
 subst hB;exact⟨s',ρ,h1,h2,hw⟩
theorem Ej{F:List AT->EH->Prop}{Post:AV->AH->Prop}{x:AC}{ab:AB}(hF:F=m6 1 Post)(hp:aB ab.es=true)(hpost:Post (.t (.c x)) (toH [.rw ab]))(hx:dt x=true:=by rfl):F [.c x] [.rw ab]:=by
 subst hF
 refine .inl ⟨.t (.c x),toH [.rw ab],[some 0],?_,hpost⟩
 exact wk1 (h:=toH [.rw ab]) ⟨⟨ab,rfl,rfl,hp⟩,trivial⟩ ⟨iE (x:= .t (.c x)) hx,trivial⟩
theorem DU{c:AC}(hp:dt c=true)(s:Nat->Nat):c.mv s=c:=by cases c<;>first|rfl|cases hp
theorem Fj{ab:AB}(h:aB ab.es=true)(s:Nat->Nat):AB.mv s ab=ab:=by
 obtain⟨t,k,es⟩:=ab
 refine congrArg (AB.mk t k) ?_
 refine(List.map_congr_left fun x hx=> ?_).trans (List.map_id es)
 refine(List.map_congr_left fun c hc=> ?_).trans (List.map_id x)
 exact DU (List.all_eq_true.1 (List.all_eq_true.1 h x hx) c hc) s
theorem JC(hg:g=G0 P n0 N){H:EH}{f:FuncId}{args:List AT}{K:AV->EH->Prop}(r:Nat){ab ab':AB}{R k:Int}
  (hc:Con P f (toH [.rw ab]) [.c (.own 0),ai k] fun res h'=>∃eh,toH eh=h'/\(res= .i R/\eh=[.rw ab'])) (hr:nth H r=some (.rw ab)) (hp:aB ab.es=true) (hp':aB ab'.es=true) (ha:args=[.c (.own r),ai k])
  (hK:K (.t (.c (.J R))) (Ao H r (.rw ab'))):g .C f H args K:=by
 subst ha
 have hb:r<H.length:=by rw [fj]at hr;exact(List.getElem?_eq_some_iff.1 hr).1
 refine AY hg [r] hc (by simp) (by simpa using hb) ⟨⟨ab,ab,rfl,by rw [hr];rfl,rfl,rfl,.inl ⟨rfl,hp⟩⟩,trivial⟩ zr2 fun res eh⟨h1,h2⟩=> ?_
 subst h1 h2
 rw [lp]at hK
 simp only [dc,EE.mv,Fj hp',List.map_nil,List.append_nil]
 exact hK
end
def dm(k0:Int)(n:Nat):List aD:=(List.range n).map fun i:Nat=>⟨(k0+5*(i:Int)),(k0+5*(i:Int))+1,(k0+5*(i:Int))+2,(k0+5*(i:Int))+3,(k0+5*(i:Int))+4⟩
variable {k0 z kc:Int}{n:Nat}{M:Int}
theorem nM(hM:M=(n:Int))(h0:0<=z)(h1:z<M)(hk:kc=k0+5*z):(vw aD.c (dm k0 n))[z.toNat]? =some ([.J kc,.J (kc+1),.J (kc+2),.J (kc+3),.J (kc+4)]):=by
 subst hk
 have hz:z.toNat<n:=by rw [hM]at h1;omega
 refine(ba (x:=⟨(k0+5*z),(k0+5*z)+1,(k0+5*z)+2,(k0+5*z)+3,(k0+5*z)+4⟩) ?_).trans rfl
 rw [dm,zqi,List.getElem?_range hz,Option.map_some,Int.toNat_of_nonneg h0]
theorem oM(k0:Int)(es:LLA)(hk:∀e∈es,e.length=5)(hp:aB es=true)(hl:es.length<=1048576)(hk0:0<=k0)(hk1:k0<=1152921504606846976)(ty:TypeId:=156):
  Con prog 47 (toH [.rw ⟨ty,5,es⟩]) [.c (.own 0),ai k0] fun res h'=>∃eh,toH eh=h'/\(res= .i (k0+5*aN es)/\eh=[.rw ⟨ty,5,vw aD.c (dm k0 es.length)⟩]):=by
 obtain⟨V,hV⟩:=nmE (vw aD.c (dm k0 es.length))
 have hx:V.length=es.length:=by rw [hV,ar,dm];simp
 have hw:aN V=aN es:=by rw [ah,ah,hx]
 have hG:aN V<=1048576:=by rw [ah];omega
 have pV:=pmV hV
 have hE:0<=aN V:=by rw [ah];omega
 have hH:aN V=(es.length:Int):=by rw [hw,ah]
 have hN:qC 5 V es 0:=⟨Int.le_refl 0,hE,hx.symm,hk,hp,fun i hi=>by simp at hi⟩
 rw [<-hV,<-hw]
 refine mY (c:=aM f47) ay func47 (by kernel_rfl) (by kernel_rfl) (bl (by rfl)) (by kernel_rfl) fun g F hg hF=> ?_
 cbv
 refine rB hg ay (by kernel_rfl) (fun s:Int×Int×LLA=>[(0,.o 0),(1,.i s.2.1),(5,.i s.1)]) (fun s=>[.rw ⟨ty,5,s.2.2⟩]) (fun s=>qC 5 V s.2.2 s.1/\s.2.1=k0+5*s.1) (fun s=>(aN V).toNat-s.1.toNat)
  (0,k0,es) [some 0] ⟨hN,by simp only;omega⟩ (wk1 ⟨⟨_,rfl,rfl,hp⟩,trivial⟩ zr3) (fun s B hs hB=> ?_)
 obtain⟨z,kc,E⟩:=s
 obtain⟨hs,hA⟩:=hs
 simp only at hs hA
 have h0:=hs.z0
 have h1:=hs.z1
 have hO:=hs.len
 have hb:aN E=aN V:=by rw [ah,ah,hs.len]
 cbv
 cases hc:g .q .lss z (g .ln E)
 ·rw [bg hg,bz hg,hb,zqo]at hc
  cbv
  obtain rfl:=hs.done hc
  refine Ej hF pV ⟨_,rfl,?_,rfl⟩
  show AV.t (ai kc)=_
  rw [show kc=k0+5*aN E by omega]
 ·rw [bg hg,bz hg,hb,zqp]at hc
  cbv
  obtain⟨j,hj⟩:=nmE z.toNat
  have hz:j<E.length:=yf h0 (by rw [hb];exact hc) hj
  obtain⟨e,he,hI⟩:=hs.mem hz
  have hP:e.all dt=true:=List.all_eq_true.1 hs.pl e (zqd he)
  obtain⟨b0,b1,b2,b3,b4,rfl⟩:∃b0 b1 b2 b3 b4,e=[b0,b1,b2,b3,b4]:=by
   match e,hI with
   | [b0,b1,b2,b3,b4],_=>exact⟨b0,b1,b2,b3,b4,rfl⟩
  have hy:=nM hH h0 hc hA
  rw [<-hV]at hy
  obtain⟨E0,ha⟩:=nmE E
  have l0:j<E0.length:=by rw [ha];exact hz
  have hf:=he
  rw [<-ha]at hf⊢
  obtain⟨q0,hJ⟩:=nmE (kc+1)
  obtain⟨q1,hK⟩:=nmE (kc+2)
  obtain⟨q2,hL⟩:=nmE (kc+3)
  obtain⟨q3,hM⟩:=nmE (kc+4)
  obtain⟨q4,hQ⟩:=nmE (kc+5)
  have e0:g .w .add .i64 kc 1=q0:=by rw [aJ hg,ak _ (by omega)];omega
  have e1:g .w .add .i64 q0 1=q1:=by rw [aJ hg,ak _ (by omega)];omega
  have e2:g .w .add .i64 q1 1=q2:=by rw [aJ hg,ak _ (by omega)];omega
  have e3:g .w .add .i64 q2 1=q3:=by rw [aJ hg,ak _ (by omega)];omega
  have e4:g .w .add .i64 q3 1=q4:=by rw [aJ hg,ak _ (by omega)];omega
  refine CF hg h0 hj l0 ?_
  cbv
  refine⟨[b0,b1,b2,b3,b4],hf,?_⟩
  cbv
  generalize hG1:g .st _ _ _=E1
  have hq:E1=g .st E0 j [.J kc,b1,b2,b3,b4]:=hG1.symm
  have hh:E1[j]? =some [.J kc,b1,b2,b3,b4]:=by rw [hq,jr hg];exact List.getElem?_set_self l0
  have l1:j<E1.length:=(List.getElem?_eq_some_iff.1 hh).1
  try rw [e0]
  cbv
  refine CF hg h0 hj l1 ?_
  cbv
  refine⟨[.J kc,b1,b2,b3,b4],hh,?_⟩
  cbv
  generalize hG2:g .st _ _ _=E2
  have hr:E2=g .st E1 j [.J kc,.J q0,b2,b3,b4]:=hG2.symm
  have hm:E2[j]? =some [.J kc,.J q0,b2,b3,b4]:=by rw [hr,jr hg];exact List.getElem?_set_self l1
  have l2:j<E2.length:=(List.getElem?_eq_some_iff.1 hm).1
  try rw [e1]
  cbv
  refine CF hg h0 hj l2 ?_
  cbv
  refine⟨[.J kc,.J q0,b2,b3,b4],hm,?_⟩
  cbv
  generalize hG3:g .st _ _ _=E3
  have ht:E3=g .st E2 j [.J kc,.J q0,.J q1,b3,b4]:=hG3.symm
  have hn:E3[j]? =some [.J kc,.J q0,.J q1,b3,b4]:=by rw [ht,jr hg];exact List.getElem?_set_self l2
  have l3:j<E3.length:=(List.getElem?_eq_some_iff.1 hn).1
  try rw [e2]
  cbv
  refine CF hg h0 hj l3 ?_
  cbv
  refine⟨[.J kc,.J q0,.J q1,b3,b4],hn,?_⟩
  cbv
  generalize hG4:g .st _ _ _=E4
  have hu:E4=g .st E3 j [.J kc,.J q0,.J q1,.J q2,b4]:=hG4.symm
  have ho:E4[j]? =some [.J kc,.J q0,.J q1,.J q2,b4]:=by rw [hu,jr hg];exact List.getElem?_set_self l3
  have l4:j<E4.length:=(List.getElem?_eq_some_iff.1 ho).1
  try rw [e3]
  cbv
  refine CF hg h0 hj l4 ?_
  cbv
  refine⟨[.J kc,.J q0,.J q1,.J q2,b4],ho,?_⟩
  cbv
  generalize hG5:g .st _ _ _=E5
  have hv:E5=g .st E4 j [.J kc,.J q0,.J q1,.J q2,.J q3]:=hG5.symm
  have hD:E5[j]? =some [.J kc,.J q0,.J q1,.J q2,.J q3]:=by rw [hv,jr hg];exact List.getElem?_set_self l4
  have l5:j<E5.length:=(List.getElem?_eq_some_iff.1 hD).1
  try rw [e4]
  cbv
  have ez:g .w .add .i64 z 1=z+1:=by rw [aJ hg,ak _ (by omega)]
  rw [ez]
  have hd:E5=E.set j [.J kc,.J q0,.J q1,.J q2,.J q3]:=by rw [hv,hu,ht,hr,hq,ha];simp only [jr hg,List.set_set]
  rw [hd]
  have hC:=hs.step hc hj hy rfl rfl
  subst hJ hK hL hM
  exact Hb hB (z+1,q4,_) [some 0] (wk1 ⟨⟨_,rfl,rfl,hC.pl⟩,trivial⟩ zr3) ⟨hC,by simp only;omega⟩ (by show(aN V).toNat-(z+1).toNat<(aN V).toNat-z.toNat;omega)
theorem oO(k0:Int)(n:Nat)(hl:n<=1048576)(hk0:0<=k0)(hk1:k0<=1152921504606846976):PC0 48 [.c (.view (vw aD.c (dm k0 n))),ai k0] (.i (k0+5*(n:Int))):=by
 obtain⟨V,hV⟩:=nmE (vw aD.c (dm k0 n))
 have hd:V.length=n:=by rw [hV,ar,dm];simp
 obtain⟨M,hM⟩:∃M:Int,M=(n:Int):=⟨_,rfl⟩
 have ha:aN V=M:=by rw [ah,hd,hM]
 have hj:M<=1048576:=by omega
 have hb:0<=M:=by omega
 rw [<-hV,<-hM]
 refine ad (aM f48) ay func48 fun g F hg hF=> ?_
 cbv
 refine bO hg ay (by kernel_rfl) (fun s:Int×Int=>[(0,.v V),(1,.i s.2),(5,.i s.1)]) (fun _=>[]) (fun s=>0<=s.1/\s.1<=M/\s.2=k0+5*s.1) (fun s=>M.toNat-s.1.toNat)
  (0,k0) [] ⟨Int.le_refl 0,hb,by simp only;omega⟩ (wk0 zr3) (fun s B hs hB=> ?_)
 obtain⟨z,kc⟩:=s
 obtain⟨h0,h1,h2⟩:=hs
 simp only at h0 h1 h2
 cbv
 cases hc:g .q .lss z (g .ln V)
 ·rw [bg hg,bz hg,ha,zqo]at hc
  cbv
  exact aV hF (by rw [h2,show z=M by omega])
 ·rw [bg hg,bz hg,ha,zqp]at hc
  cbv
  have hy:=nM hM h0 hc h2
  rw [<-hV]at hy
  obtain⟨q0,he⟩:=nmE (kc+1)
  obtain⟨q1,hf⟩:=nmE (kc+2)
  obtain⟨q2,hh⟩:=nmE (kc+3)
  obtain⟨q3,hi⟩:=nmE (kc+4)
  obtain⟨q4,hk⟩:=nmE (kc+5)
  have e0:g .w .add .i64 kc 1=q0:=by rw [aJ hg,ak _ (by omega)];omega
  have n0:g .q .neq kc kc=false:=by rw [bj hg];simp
  have e1:g .w .add .i64 q0 1=q1:=by rw [aJ hg,ak _ (by omega)];omega
  have n1:g .q .neq q0 q0=false:=by rw [bj hg];simp
  have e2:g .w .add .i64 q1 1=q2:=by rw [aJ hg,ak _ (by omega)];omega
  have n2:g .q .neq q1 q1=false:=by rw [bj hg];simp
  have e3:g .w .add .i64 q2 1=q3:=by rw [aJ hg,ak _ (by omega)];omega
  have n3:g .q .neq q2 q2=false:=by rw [bj hg];simp
  have e4:g .w .add .i64 q3 1=q4:=by rw [aJ hg,ak _ (by omega)];omega
  have n4:g .q .neq q3 q3=false:=by rw [bj hg];simp
  rw [<-he,<-hf,<-hh,<-hi]at hy
  refine goX hg _ h0 hy rfl ?_
  cbv
  rw [n0]
  cbv
  rw [e0]
  cbv
  refine goX hg _ h0 hy rfl ?_
  cbv
  rw [n1]
  cbv
  rw [e1]
  cbv
  refine goX hg _ h0 hy rfl ?_
  cbv
  rw [n2]
  cbv
  rw [e2]
  cbv
  refine goX hg _ h0 hy rfl ?_
  cbv
  rw [n3]
  cbv
  rw [e3]
  cbv
  refine goX hg _ h0 hy rfl ?_
  cbv
  rw [n4]
  cbv
  rw [e4]
  have ez:g .w .add .i64 z 1=z+1:=by rw [aJ hg,ak _ (by omega)]
  rw [ez]
  exact gX hB (z+1,q4) [] (wk0 zr3) ⟨by simp only;omega,by simp only;omega,by simp only;omega⟩ (by show M.toNat-(z+1).toNat<M.toNat-z.toNat;omega)
def gC(k0:Int)(n:Nat):List Int:=(List.range n).map fun i:Nat=>k0+(i:Int)
theorem yc(hM:M=(n:Int))(h0:0<=z)(h1:z<M)(hk:kc=k0+1*z):(vw aj (gC k0 n))[z.toNat]? =some ([.J kc]):=by
 subst hk
 have hz:z.toNat<n:=by rw [hM]at h1;omega
 refine(ba (x:=k0+z) ?_).trans (by simp [lc,aj])
 rw [gC,zqi,List.getElem?_range hz,Option.map_some,Int.toNat_of_nonneg h0]
theorem rJ(k0:Int)(es:LLA)(hk:∀e∈es,e.length=1)(hp:aB es=true)(hl:es.length<=1048576)(hk0:0<=k0)(hk1:k0<=1152921504606846976)(ty:TypeId:=3):
  Con prog 15 (toH [.rw ⟨ty,1,es⟩]) [.c (.own 0),ai k0] fun res h'=>∃eh,toH eh=h'/\(res= .i (k0+1*aN es)/\eh=[.rw ⟨ty,1,vw aj (gC k0 es.length)⟩]):=by
 obtain⟨V,hV⟩:=nmE (vw aj (gC k0 es.length))
 have hd:V.length=es.length:=by rw [hV,ar,gC];simp
 have hb:aN V=aN es:=by rw [ah,ah,hd]
 have ho:aN V<=1048576:=by rw [ah];omega
 have pV:=pmV hV
 have hn:0<=aN V:=by rw [ah];omega
 have hq:aN V=(es.length:Int):=by rw [hb,ah]
 have ht:qC 1 V es 0:=⟨Int.le_refl 0,hn,hd.symm,hk,hp,fun i hi=>by simp at hi⟩
 rw [<-hV,<-hb]
 refine mY (c:=aM f15) ay func15 (by kernel_rfl) (by kernel_rfl) (bl (by rfl)) (by kernel_rfl) fun g F hg hF=> ?_
 cbv
 refine rB hg ay (by kernel_rfl) (fun s:Int×Int×LLA=>[(0,.o 0),(1,.i s.2.1),(5,.i s.1)]) (fun s=>[.rw ⟨ty,1,s.2.2⟩]) (fun s=>qC 1 V s.2.2 s.1/\s.2.1=k0+1*s.1) (fun s=>(aN V).toNat-s.1.toNat)
  (0,k0,es) [some 0] ⟨ht,by simp only;omega⟩ (wk1 ⟨⟨_,rfl,rfl,hp⟩,trivial⟩ zr3) (fun s B hs hB=> ?_)
 obtain⟨z,kc,E⟩:=s
 obtain⟨hs,hh⟩:=hs
 simp only at hs hh
 have h0:=hs.z0
 have h1:=hs.z1
 have hu:=hs.len
 have ha:aN E=aN V:=by rw [ah,ah,hs.len]
 cbv
 cases hc:g .q .lss z (g .ln E)
 ·rw [bg hg,bz hg,ha,zqo]at hc
  cbv
  obtain rfl:=hs.done hc
  refine Ej hF pV ⟨_,rfl,?_,rfl⟩
  show AV.t (ai kc)=_
  rw [show kc=k0+1*aN E by omega]
 ·rw [bg hg,bz hg,ha,zqp]at hc
  cbv
  obtain⟨j,hj⟩:=nmE z.toNat
  have hf:j<E.length:=yf h0 (by rw [ha];exact hc) hj
  obtain⟨e,he,hr⟩:=hs.mem hf
  have hv:e.all dt=true:=List.all_eq_true.1 hs.pl e (zqd he)
  obtain⟨b0,rfl⟩:∃b0,e=[b0]:=by
   match e,hr with
   | [b0],_=>exact⟨b0,rfl⟩
  have hy:=yc hq h0 hc hh
  rw [<-hV]at hy
  obtain⟨q0,hw⟩:=nmE (kc+1)
  have e0:g .w .add .i64 kc 1=q0:=by rw [aJ hg,ak _ (by omega)];omega
  refine CF hg h0 hj hf ?_
  cbv
  refine goN hg ⟨_,he,rfl⟩ ?_
  cbv
  rw [jr hg]
  rw [e0]
  have ez:g .w .add .i64 z 1=z+1:=by rw [aJ hg,ak _ (by omega)]
  rw [ez]
  have hm:=hs.step hc hj hy rfl rfl
  exact Hb hB (z+1,q0,_) [some 0] (wk1 ⟨⟨_,rfl,rfl,hm.pl⟩,trivial⟩ zr3) ⟨hm,by simp only;omega⟩ (by show(aN V).toNat-(z+1).toNat<(aN V).toNat-z.toNat;omega)
def fk(k0:Int)(n:Nat):List aK:=(List.range n).map fun i:Nat=>⟨(k0+3*(i:Int)),(k0+3*(i:Int))+1,(k0+3*(i:Int))+2⟩
theorem wY(hM:M=(n:Int))(h0:0<=z)(h1:z<M)(hk:kc=k0+3*z):(vw aK.c (fk k0 n))[z.toNat]? =some ([.J kc,.J (kc+1),.J (kc+2)]):=by
 subst hk
 have hz:z.toNat<n:=by rw [hM]at h1;omega
 refine(ba (x:=⟨(k0+3*z),(k0+3*z)+1,(k0+3*z)+2⟩) ?_).trans rfl
 rw [fk,zqi,List.getElem?_range hz,Option.map_some,Int.toNat_of_nonneg h0]
theorem p6(k0:Int)(es:LLA)(hk:∀e∈es,e.length=3)(hp:aB es=true)(hl:es.length<=1048576)(hk0:0<=k0)(hk1:k0<=1152921504606846976)(ty:TypeId:=193):
  Con prog 96 (toH [.rw ⟨ty,3,es⟩]) [.c (.own 0),ai k0] fun res h'=>∃eh,toH eh=h'/\(res= .i (k0+3*aN es)/\eh=[.rw ⟨ty,3,vw aK.c (fk k0 es.length)⟩]):=by
 obtain⟨V,hV⟩:=nmE (vw aK.c (fk k0 es.length))
 have ht:V.length=es.length:=by rw [hV,ar,fk];simp
 have hr:aN V=aN es:=by rw [ah,ah,ht]
 have hA:aN V<=1048576:=by rw [ah];omega
 have pV:=pmV hV
 have hz:0<=aN V:=by rw [ah];omega
 have hC:aN V=(es.length:Int):=by rw [hr,ah]
 have hH:qC 3 V es 0:=⟨Int.le_refl 0,hz,ht.symm,hk,hp,fun i hi=>by simp at hi⟩
 rw [<-hV,<-hr]
 refine mY (c:=aM f96) ay func96 (by kernel_rfl) (by kernel_rfl) (bl (by rfl)) (by kernel_rfl) fun g F hg hF=> ?_
 cbv
 refine rB hg ay (by kernel_rfl) (fun s:Int×Int×LLA=>[(0,.o 0),(1,.i s.2.1),(5,.i s.1)]) (fun s=>[.rw ⟨ty,3,s.2.2⟩]) (fun s=>qC 3 V s.2.2 s.1/\s.2.1=k0+3*s.1) (fun s=>(aN V).toNat-s.1.toNat)
  (0,k0,es) [some 0] ⟨hH,by simp only;omega⟩ (wk1 ⟨⟨_,rfl,rfl,hp⟩,trivial⟩ zr3) (fun s B hs hB=> ?_)
 obtain⟨z,kc,E⟩:=s
 obtain⟨hs,hv⟩:=hs
 simp only at hs hv
 have h0:=hs.z0
 have h1:=hs.z1
 have hI:=hs.len
 have hb:aN E=aN V:=by rw [ah,ah,hs.len]
 cbv
 cases hc:g .q .lss z (g .ln E)
 ·rw [bg hg,bz hg,hb,zqo]at hc
  cbv
  obtain rfl:=hs.done hc
  refine Ej hF pV ⟨_,rfl,?_,rfl⟩
  show AV.t (ai kc)=_
  rw [show kc=k0+3*aN E by omega]
 ·rw [bg hg,bz hg,hb,zqp]at hc
  cbv
  obtain⟨j,hj⟩:=nmE z.toNat
  have hu:j<E.length:=yf h0 (by rw [hb];exact hc) hj
  obtain⟨e,he,hD⟩:=hs.mem hu
  have hJ:e.all dt=true:=List.all_eq_true.1 hs.pl e (zqd he)
  obtain⟨b0,b1,b2,rfl⟩:∃b0 b1 b2,e=[b0,b1,b2]:=by
   match e,hD with
   | [b0,b1,b2],_=>exact⟨b0,b1,b2,rfl⟩
  have hy:=wY hC h0 hc hv
  rw [<-hV]at hy
  obtain⟨E0,ha⟩:=nmE E
  have l0:j<E0.length:=by rw [ha];exact hu
  have hf:=he
  rw [<-ha]at hf⊢
  obtain⟨q0,hE⟩:=nmE (kc+1)
  obtain⟨q1,hG⟩:=nmE (kc+2)
  obtain⟨q2,hK⟩:=nmE (kc+3)
  have e0:g .w .add .i64 kc 1=q0:=by rw [aJ hg,ak _ (by omega)];omega
  have e1:g .w .add .i64 q0 1=q1:=by rw [aJ hg,ak _ (by omega)];omega
  have e2:g .w .add .i64 q1 1=q2:=by rw [aJ hg,ak _ (by omega)];omega
  refine CF hg h0 hj l0 ?_
  cbv
  refine⟨[b0,b1,b2],hf,?_⟩
  cbv
  generalize hG1:g .st _ _ _=E1
  have hn:E1=g .st E0 j [.J kc,b1,b2]:=hG1.symm
  have hh:E1[j]? =some [.J kc,b1,b2]:=by rw [hn,jr hg];exact List.getElem?_set_self l0
  have l1:j<E1.length:=(List.getElem?_eq_some_iff.1 hh).1
  try rw [e0]
  cbv
  refine CF hg h0 hj l1 ?_
  cbv
  refine⟨[.J kc,b1,b2],hh,?_⟩
  cbv
  generalize hG2:g .st _ _ _=E2
  have ho:E2=g .st E1 j [.J kc,.J q0,b2]:=hG2.symm
  have hm:E2[j]? =some [.J kc,.J q0,b2]:=by rw [ho,jr hg];exact List.getElem?_set_self l1
  have l2:j<E2.length:=(List.getElem?_eq_some_iff.1 hm).1
  try rw [e1]
  cbv
  refine CF hg h0 hj l2 ?_
  cbv
  refine⟨[.J kc,.J q0,b2],hm,?_⟩
  cbv
  generalize hG3:g .st _ _ _=E3
  have hq:E3=g .st E2 j [.J kc,.J q0,.J q1]:=hG3.symm
  have hx:E3[j]? =some [.J kc,.J q0,.J q1]:=by rw [hq,jr hg];exact List.getElem?_set_self l2
  have l3:j<E3.length:=(List.getElem?_eq_some_iff.1 hx).1
  try rw [e2]
  cbv
  have ez:g .w .add .i64 z 1=z+1:=by rw [aJ hg,ak _ (by omega)]
  rw [ez]
  have hd:E3=E.set j [.J kc,.J q0,.J q1]:=by rw [hq,ho,hn,ha];simp only [jr hg,List.set_set]
  rw [hd]
  have hw:=hs.step hc hj hy rfl rfl
  subst hE hG
  exact Hb hB (z+1,q2,_) [some 0] (wk1 ⟨⟨_,rfl,rfl,hw.pl⟩,trivial⟩ zr3) ⟨hw,by simp only;omega⟩ (by show(aN V).toNat-(z+1).toNat<(aN V).toNat-z.toNat;omega)
def m3(k:Int):Bool:=k.tmod 3==0
variable {j:Nat}{y:List AC}
theorem DG{E:LLA}(h:E[j]? =some y):E.set j y=E:=by
 refine List.ext_getElem? fun i=> ?_
 rw [List.getElem?_set]
 by_cases hi:j=i
 ·subst hi;rw [if_pos rfl,if_pos (List.getElem?_eq_some_iff.1 h).1,h]
 ·rw [if_neg hi]
theorem eo{E:LLA}(h:aB E=true)(hy:y.all dt=true):aB (E.set j y)=true:=by
 rw [aB,zqf]at h⊢
 intro x hx
 rcases List.mem_or_eq_of_mem_set hx with hx|rfl
 ·exact h x hx
 ·exact hy
variable {E E1 E2:LLA}
theorem y9{x y:List AC}(h:E2=E1.set j x)(hs:E1=E.set j y)(hl:j<E.length):E2=E.set j x/\E2[j]? =some x/\j<E2.length:=by
 rw [hs,List.set_set]at h
 subst h
 exact⟨rfl,List.getElem?_set_self hl,by rw [List.length_set];exact hl⟩
variable {P:Program}
theorem gY{n0 N:Nat}{β:BP}{g:Gd}(hg:g=G0 P n0 N){x y:List AC}(h:g .st E1 j x=E2)(hs:E1=E.set j y)(hl:j<E.length):E2=E.set j x/\E2[j]? =some x/\j<E2.length:=by
 rw [jr hg,hs,List.set_set]at h
 subst h
 exact⟨rfl,List.getElem?_set_self hl,by rw [List.length_set];exact hl⟩
theorem Jn{n0 N:Nat}{β:BP}{g:Gd}(hg:g=G0 P n0 N){a b d c e C:Int}(h0:0<=a)(hM:a+C<=1152921504606846976)(hb:b=a+c)(hd:d=a+e)(he:e=c+1)(h1:0<=c)(h2:c<=C):g .w .add .i64 b 1=d:=by
 rw [aJ hg,ak _ (by omega)];omega
theorem rK(k0:Int):PC0 15 [.c (.view []),ai k0] (.i k0):=by
 refine iI ([]) ([]) (c:=aM f15) ay func15 (by kernel_rfl) (by kernel_rfl) (by rfl) (by kernel_rfl) fun g hc hd F ha hb hg hF=> ?_
 cbv
 refine gd [] [] ha hb hg ay (by kernel_rfl) (fun _:Unit=>[(0,.t (.c (.view []))),(1,.i k0),(5,.i 0)]) (fun _=>[]) (fun _=>True) (fun _=>0) () trivial (Wk.weak (wk0 zr3)) (fun s B _ hB=> ?_)
 cbv
 have e:g .q .lss 0 (g .ln [])=false:=by rw [bg hg,bz hg];rfl
 rw [e]
 cbv
 exact aV hF rfl
theorem rH(k0:Int)(bs:List Nat)(V:LLA)(hl:V.length<=1048576)(hk:∀y∈V,y.length=1)(hi:pc V=true)(hnd:bs.Nodup)(hk0:0<=k0)(hk1:k0<=1152921504606846976):
  Du prog 15 [.c (.fv bs V),ai k0] [(bs,V,vw aj (gC k0 V.length))] (.int .i64 (k0+1*(V.length:Int))):=by
 by_cases hne:V=[]
 ·subst hne
  have:k0+1*(([]:LLA).length:Int)=k0:=by simp
  rw [this]
  exact va (rK k0)
 ·rw [<-ah]
  exact wX (by kernel_rfl) hne hk hi (wt _ _) hnd (by rw [ar];simp [gC]) fun ty=>rJ k0 V hk (eU hi) hl hk0 hk1 ty
theorem p7(k0:Int):PC0 96 [.c (.view []),ai k0] (.i k0):=by
 refine iI ([]) ([]) (c:=aM f96) ay func96 (by kernel_rfl) (by kernel_rfl) (by rfl) (by kernel_rfl) fun g hc hd F ha hb hg hF=> ?_
 cbv
 refine gd [] [] ha hb hg ay (by kernel_rfl) (fun _:Unit=>[(0,.t (.c (.view []))),(1,.i k0),(5,.i 0)]) (fun _=>[]) (fun _=>True) (fun _=>0) () trivial (Wk.weak (wk0 zr3)) (fun s B _ hB=> ?_)
 cbv
 have e:g .q .lss 0 (g .ln [])=false:=by rw [bg hg,bz hg];rfl
 rw [e]
 cbv
 exact aV hF rfl
theorem pU(k0:Int)(bs:List Nat)(V:LLA)(hl:V.length<=1048576)(hk:∀y∈V,y.length=3)(hi:pc V=true)(hnd:bs.Nodup)(hk0:0<=k0)(hk1:k0<=1152921504606846976):
  Du prog 96 [.c (.fv bs V),ai k0] [(bs,V,vw aK.c (fk k0 V.length))] (.int .i64 (k0+3*(V.length:Int))):=by
 by_cases hne:V=[]
 ·subst hne
  have:k0+3*(([]:LLA).length:Int)=k0:=by simp
  rw [this]
  exact va (p7 k0)
 ·rw [<-ah]
  exact wX (by kernel_rfl) hne hk hi (wt _ _) hnd (by rw [ar];simp [fk]) fun ty=>p6 k0 V hk (eU hi) hl hk0 hk1 ty
section
variable {P:Program}{n0 N:Nat}{g:Gd}
theorem rV{F:List AT->EH->Prop}{w h b:Int}{r:Nat}{eh:EH}{ab:AB}(hF:F=m6 0 (fun res h'=>∃rows,h'=rows.map .live/\(res= .t (.agg [.J w,.J h,.J b,.own 0])/\rows=[ab])))(hr:nth eh r=some (.rw ab))(hp:aB ab.es=true):
  F [.agg [.J w,.J h,.J b,.own r]] eh:=by
 subst hF
 refine .inl ⟨.t (.agg [.J w,.J h,.J b,.own 0]),[.live ab],[some r],⟨Nat.zero_le _,fun i hi=>absurd hi (Nat.not_lt_zero _),by simp,?_,?_⟩,[ab],rfl,rfl,rfl⟩
 ·simp only [rnH,zqw,fM hr]
  exact⟨fun h=>absurd h (Nat.not_lt_zero _),⟨by first|trivial|rfl,by first|trivial|rfl,.inl ⟨by first|trivial|rfl,hp⟩⟩,trivial⟩
 ·exact⟨.inr zr4,trivial⟩
theorem qA{β:BP}(hg:g=G0 P n0 N){h:EH}{f:FuncId}{args:List AT}{K:AV->EH->Prop}{a b c:Int}{ab:AB}(hc:da P f args fun res hb=>res= .t (.agg [.J a,.J b,.J c,.own 0])/\hb=[ab])(hd:jt args=true)(hp:aB ab.es=true)
  (hK:K (.t (.agg [.J a,.J b,.J c,.own (l6 h)])) (h++[.rw ab])):g .C f h args K:=
 r6 hg (fC hc hd fun res hb ha=>by
  obtain⟨rfl,rfl⟩:=ha
  rw [du]at hK
  refine⟨[.rw ab],by simp only [zqA,List.map_nil,fL hp];rfl,?_⟩
  rw [bT];exact hK)
end
def HU(n:Int)(w h:az)(rtl:Bool)(m:oY):Bool:=(m.node==n)&&decide (m.wide=w)&&decide (m.high=h)&&(m.rtl==rtl)
def Gz(n:Int)(w h:az)(rtl:Bool):List oY->jc×Bool
 | []=>(⟨0,0,0,[]⟩,false)
 |m::ms=>if HU n w h rtl m then(m.box,true)else Gz n w h rtl ms
theorem s5(k0 a b c:Int)(es:LLA)(hk:∀e∈es,e.length=5)(hp:aB es=true)(hl:es.length<=1048576)(hk0:0<=k0)(hk1:k0<=1152921504606846976)(ty:TypeId:=156):
  Con prog 20 (toH [.rw ⟨ty,5,es⟩]) [.agg [.J a,.J b,.J c,.own 0],ai k0] fun res h'=>∃eh,toH eh=h'/\(res= .i (k0+5*aN es)/\eh=[.rw ⟨ty,5,vw aD.c (dm k0 es.length)⟩]):=by
 have cm:=oM k0 es hk hp hl hk0 hk1 ty
 obtain⟨V,hV⟩:=nmE (vw aD.c (dm k0 es.length))
 have pV:=pmV hV
 obtain⟨K,hK⟩:∃K:Int,K=k0+5*aN es:=⟨_,rfl⟩
 rw [<-hV,<-hK]at cm
 rw [<-hV,<-hK]
 refine mY (c:=aM f20) ay func20 (by kernel_rfl) (by kernel_rfl) (bl (by rfl)) (by kernel_rfl) fun g F hg hF=> ?_
 cbv
 refine JC hg 0 cm rfl hp pV rfl ?_
 cbv
 subst hF
 exact .inl ⟨.i K,toH [.rw ⟨ty,5,V⟩],[some 0],wk1 ⟨⟨_,rfl,rfl,pV⟩,trivial⟩ zr1,_,rfl,rfl,rfl⟩
theorem s6(k0 a b c:Int)(n:Nat)(hl:n<=1048576)(hk0:0<=k0)(hk1:k0<=1152921504606846976):PC0 21 [.agg [.J a,.J b,.J c,.view (vw aD.c (dm k0 n))],ai k0] (.i (k0+5*(n:Int))):=by
 have ch:=oO k0 n hl hk0 hk1
 obtain⟨V,hV⟩:=nmE (vw aD.c (dm k0 n))
 obtain⟨K,hK⟩:∃K:Int,K=k0+5*(n:Int):=⟨_,rfl⟩
 have ha:¬K<0:=by omega
 rw [<-hV,<-hK]at ch
 rw [<-hV,<-hK]
 refine ad (aM f21) ay func21 fun g F hg hF=> ?_
 cbv
 refine ae hg ch ?_
 cbv
 have e:g .q .lss K 0=false:=by rw [bg hg];exact zqt ha
 rw [e]
 cbv
 exact aV hF rfl
structure Pl where
 s:ao
 row:Bool
 w:az
 h:az
 wide:az
 high:az
 al:az
 ac:az
 kids:List Int
def JJ:ao:=ao.of (fun _=>0) (fun _=>false)
def kst(ns:List ag)(k:Int):ao:=match ns[(k-1).toNat]? with|some y=>y.style|none=>JJ
def plO(ns:List ag)(n:Int)(w h:az):Pl:=
 ⟨kst ns n,jO (kst ns n),w,h,inW (kst ns n) w,inH (kst ns n) h,if jO (kst ns n)then inW (kst ns n) w else inH (kst ns n) h,if jO (kst ns n)then inH (kst ns n) h else inW (kst ns n) w,flK ns n⟩
abbrev St:=List oY×List kz
abbrev Bx:=Int->az->az->St->jc×St
def kcX(p:Pl)(k:ao)(rtl:Bool):az:=G3 p.s k rtl p.row p.ac (knS p.wide)
def zf(p:Pl)(k:ao)(rtl main:Bool):av:=sdB p.s k rtl main (knS p.wide)
def Hc(p:Pl)(k:ao)(rtl:Bool):az:=if p.row then DX (qu p.al (wrap64 ((zf p k rtl true).before+(zf p k rtl true).behind)))else⟨1,0⟩
def EJ(p:Pl)(k:ao)(rtl:Bool):Int:=
 if tN k.basis (knS p.al)≠ -1 then tN k.basis (knS p.al)else if rU k p.row (knS p.al)≠ -1 then rU k p.row (knS p.al)
 else if(kcX p k rtl).mode=3 then sM k p.row (kcX p k rtl).n else-1
def uw(bx:Bx)(row:Bool)(kid:Int)(al ac:az)(st:St):jc×St:=if row then bx kid al ac st else bx kid ac al st
def alB(row:Bool)(b:jc):Int:=if row then b.wide else b.high
def xx(bx:Bx)(p:Pl)(rtl:Bool)(ns:List ag)(kid:Int)(st:St):Int×St:=
 if EJ p (kst ns kid) rtl≠ -1 then(EJ p (kst ns kid) rtl,st)else
 (alB p.row (uw bx p.row kid (Hc p (kst ns kid) rtl) (kcX p (kst ns kid) rtl) st).1,(uw bx p.row kid (Hc p (kst ns kid) rtl) (kcX p (kst ns kid) rtl) st).2)
def Ib(p:Pl)(k:ao)(rtl:Bool)(b:Int):af:=
 ⟨b,Ch k p.row (knS p.al),Di k p.row (knS p.al),k.grow,k.shrink,(zf p k rtl true).before,(zf p k rtl true).behind,(zf p k rtl true).autoBefore,(zf p k rtl true).autoBehind⟩
def l7(bx:Bx)(p:Pl)(rtl:Bool)(ns:List ag):List Int->St->List af×St
 | [],st=>([],st)
 |k::r,st=>(Ib p (kst ns k) rtl (xx bx p rtl ns k st).1::(l7 bx p rtl ns r (xx bx p rtl ns k st).2).1,(l7 bx p rtl ns r (xx bx p rtl ns k st).2).2)
def Dm(p:Pl):Int:=ju p.s p.row
def uh(p:Pl):Int:=ju p.s (!p.row)
def wrP(p:Pl):Bool:= !decide (p.s.wrap=1)
def Dl(p:Pl)(xs:List af):Int:=tak p.al (lng xs (Dm p) (kC p.al) (wrP p))
def sn(p:Pl)(xs:List af):List Int:=lsz xs (Dm p) (kC p.al) (wrP p) (Dl p xs)
def mg(p:Pl)(xs:List af):List (List Int):=lns xs (Dm p) (kC p.al) (wrP p)
def Bh(p:Pl)(k:ao)(rtl:Bool)(size:Int):az:=
 if(kcX p k rtl).mode≠3/\rU k (!p.row) (knS p.ac)= -1/\sM k (!p.row) size≠ -1 then⟨3,pi k (!p.row) (knS p.ac) (sM k (!p.row) size)⟩else kcX p k rtl
def sQ(a b:Int):Int:=if b<a then b else a
def IW(p:Pl)(k:ao)(rtl:Bool)(b:jc):av:=
 ⟨pi k (!p.row) (knS p.ac) (alB (!p.row) b),(zf p k rtl false).before,(zf p k rtl false).behind,(zf p k rtl false).autoBefore,(zf p k rtl false).autoBehind,Bg p.s k,sQ b.base (pi k (!p.row) (knS p.ac) (alB (!p.row) b))⟩
def uM(bx:Bx)(p:Pl)(rtl:Bool)(ns:List ag):List (Int×Int)->St->List av×St
 | [],st=>([],st)
 |(k,z)::r,st=>
  (IW p (kst ns k) rtl (uw bx p.row k ⟨3,z⟩ (Bh p (kst ns k) rtl z) st).1::(uM bx p rtl ns r (uw bx p.row k ⟨3,z⟩ (Bh p (kst ns k) rtl z) st).2).1,(uM bx p rtl ns r (uw bx p.row k ⟨3,z⟩ (Bh p (kst ns k) rtl z) st).2).2)
def pck(sides:List av)(ln:List Int):List av:=ln.filterMap fun i=>if 0<=i then sides[i.toNat]? else none
def Jc(p:Pl)(sides:List av)(ln:List Int):Int:=if p.s.wrap=1/\p.ac.mode=3 then p.ac.n else cro (pck sides ln)
def yy(p:Pl)(lines:List (List Int))(sides:List av):List Int:=
 if¬p.s.wrap=1/\p.ac.mode=3 then xD (lines.map (Jc p sides)) (uh p) p.ac.n p.s.content else lines.map (Jc p sides)
def Af(p:Pl)(cs:List Int):Int:=tak p.ac (crt cs (uh p))
def ctP(p:Pl):Int:=if p.s.wrap=1 then 2 else p.s.content
def Hi(p:Pl)(cs:List Int):List Int:=pll cs (uh p) (Af p cs) (ctP p)
def sdZ(sides:List av)(i:Int):av:=(if 0<=i then sides[i.toNat]? else none).getD ⟨0,0,0,false,false,0,0⟩
def CM(x:av)(z:Int):av:=⟨z,x.before,x.behind,x.autoBefore,x.autoBehind,x.align,sQ x.base z⟩
def yu(p:Pl)(ns:List ag)(sides:List av)(sizes:List Int)(c i:Int):av:=
 if zQ (sdZ sides i)=true/\rU (kst ns (elZ p.kids i)) (!p.row) (knS p.ac)= -1/\sM (kst ns (elZ p.kids i)) (!p.row) (elZ sizes i)= -1 then
  CM (sdZ sides i) (pi (kst ns (elZ p.kids i)) (!p.row) (knS p.ac) (wrap64 (c-wrap64 ((sdZ sides i).before+(sdZ sides i).behind))))
 else sdZ sides i
def CO(p:Pl)(ns:List ag)(sides:List av)(sizes:List Int)(ls:List (List Int×Int)):List av:=ls.flatMap fun q=>q.1.map (yu p ns sides sizes q.2)
def GM(p:Pl)(rtl:Bool)(inner across:Int)(sizes:List Int)(sides:List av)(st c lb a0 i:Int):aD:=
 let a:=Fl inner a0 (elZ sizes i) (lv p.s rtl)
 let b:=Fl across (wrap64 (st+Gw (sdZ sides i) c lb)) (sdZ sides i).size (lN p.s rtl)
 if p.row then⟨elZ p.kids i,wrap64 (a+(oc p.s).left),wrap64 (b+(oc p.s).top),elZ sizes i,(sdZ sides i).size⟩
 else⟨elZ p.kids i,wrap64 (b+(oc p.s).left),wrap64 (a+(oc p.s).top),(sdZ sides i).size,elZ sizes i⟩
def sk(p:Pl)(rtl:Bool)(inner across:Int)(sizes:List Int)(sides:List av)(st c lb:Int)(ps:List Int):Int->List Int->List aD
 |_,[]=>[]
 |j,i::r=>GM p rtl inner across sizes sides st c lb (elZ ps j) i::sk p rtl inner across sizes sides st c lb ps (j+1) r
def HN(p:Pl)(items:List af)(inner:Int)(sizes:List Int)(ln:List Int):List Int:=alg (lit items ln) (ln.map (elZ sizes)) (Dm p) inner p.s.justify
def xh(p:Pl)(rtl:Bool)(items:List af)(inner across:Int)(sizes:List Int)(sides:List av)(sts:List Int):Int->List (List Int×Int)->List aD
 |_,[]=>[]
 |k,(ln,c)::r=>sk p rtl inner across sizes sides (elZ sts k) c (bas (pck sides ln)) (HN p items inner sizes ln) 0 ln++xh p rtl items inner across sizes sides sts (k+1) r
def FO(p:Pl)(inner across:Int)(frames:List aD)(sides:List av):jc:=
 ⟨tak p.w (wrap64 ((if p.row then inner else across)+adE (oc p.s).left (oc p.s).right)),tak p.h (wrap64 ((if p.row then across else inner)+adE (oc p.s).top (oc p.s).bottom)),
  cl (wrap64 ((match frames with|f::_=>f.y| []=>0)+(sdZ sides 0).base)),frames⟩
def I8(p:Pl)(rtl:Bool)(ns:List ag)(items:List af)(sides0:List av):jc:=
 let lines:=mg p items
 let sizes:=sn p items
 let cs:=yy p lines sides0
 let sides:=CO p ns sides0 sizes (lines.zip cs)
 FO p (Dl p items) (Af p cs) (xh p rtl items (Dl p items) (Af p cs) sizes sides (Hi p cs) 0 (lines.zip cs)) sides
def Ei(bx:Bx)(p:Pl)(rtl:Bool)(ns:List ag)(st:St):jc×St:=
 let a:=l7 bx p rtl ns p.kids st
 let b:=uM bx p rtl ns (p.kids.zip (sn p a.1)) a.2
 (I8 p rtl ns a.1 b.1,b.2)
def AJ(s:ao)(w h:az)(q:Int×Int):jc:=
 ⟨tak w (wrap64 (q.1+adE (oc s).left (oc s).right)),tak h (wrap64 (q.2+adE (oc s).top (oc s).bottom)),tak h (wrap64 (q.2+adE (oc s).top (oc s).bottom)),[]⟩
def wnt(rs:List aK)(room:Int):Int×Int:=
 match rs.find? fun r=>decide (room= -1)||decide (r.room<=room)with|some r=>(cl r.wide,cl r.high)|none=>(0,0)
def nod(ns:List ag)(n:Int):ag:=(ns[(n-1).toNat]?).getD ⟨0,[],JJ,false,⟨[]⟩⟩
def ye(bx:Bx)(ns:List ag)(rtl:Bool)(n:Int)(w h:az)(st:St):jc×St:=
 if(nod ns n).measured then(AJ (kst ns n) w h (wnt (nod ns n).table.rules (kC (inW (kst ns n) w))),(st.1,st.2++[⟨n,w,h,rtl⟩]))
 else if flK ns n=[]then(AJ (kst ns n) w h (0,0),st)else Ei bx (plO ns n w h) rtl ns st
def kpF(keeps:Bool)(rtl:Bool)(bx:Bx):Bx:=fun n w h st=>
 if keeps=false then bx n w h st else
 if(Gz n w h rtl st.1).2 then((Gz n w h rtl st.1).1,st)else((bx n w h st).1,((bx n w h st).2.1++[⟨n,w,h,rtl,(bx n w h st).1⟩],(bx n w h st).2.2))
def z9(keeps:Bool)(ns:List ag)(rtl:Bool):Nat->Bx
 |0=>fun _ _ _ st=>(⟨0,0,0,[]⟩,st)
 |f+1=>kpF keeps rtl (ye (z9 keeps ns rtl f) ns rtl)
abbrev Bv:=Int->az->az->jc
def Ds(b:Bv)(row:Bool)(kid:Int)(al ac:az):jc:=if row then b kid al ac else b kid ac al
def EI(b:Bv)(p:Pl)(rtl:Bool)(ns:List ag)(kid:Int):Int:=
 if EJ p (kst ns kid) rtl≠ -1 then EJ p (kst ns kid) rtl else alB p.row (Ds b p.row kid (Hc p (kst ns kid) rtl) (kcX p (kst ns kid) rtl))
def Dk(b:Bv)(p:Pl)(rtl:Bool)(ns:List ag)(kids:List Int):List af:=kids.map fun k=>Ib p (kst ns k) rtl (EI b p rtl ns k)
def E9(b:Bv)(p:Pl)(rtl:Bool)(ns:List ag)(ks:List (Int×Int)):List av:=ks.map fun q=>IW p (kst ns q.1) rtl (Ds b p.row q.1 ⟨3,q.2⟩ (Bh p (kst ns q.1) rtl q.2))
def Iq(b:Bv)(p:Pl)(rtl:Bool)(ns:List ag):jc:=
 I8 p rtl ns (Dk b p rtl ns p.kids) (E9 b p rtl ns (p.kids.zip (sn p (Dk b p rtl ns p.kids))))
def GB(b:Bv)(ns:List ag)(rtl:Bool):Bv:=fun n w h=>
 if(nod ns n).measured then AJ (kst ns n) w h (wnt (nod ns n).table.rules (kC (inW (kst ns n) w)))
 else if flK ns n=[]then AJ (kst ns n) w h (0,0)else Iq b (plO ns n w h) rtl ns
def C1(ns:List ag)(rtl:Bool):Nat->Bv
 |0=>fun _ _ _=>⟨0,0,0,[]⟩
 |f+1=>GB (C1 ns rtl f) ns rtl
def FQ(bx:Bx)(b:Bv):Prop:=∀k w h st,(bx k w h st).1=b k w h
variable {b:Bv}
theorem Ac{bx:Bx}(hf:FQ bx b)(row:Bool)(kid:Int)(al ac:az)(st:St):(uw bx row kid al ac st).1=Ds b row kid al ac:=by
 unfold uw Ds
 split<;>exact hf ..
theorem EG{bx:Bx}(hf:FQ bx b)(p:Pl)(rtl:Bool)(ns:List ag)(kid:Int)(st:St):(xx bx p rtl ns kid st).1=EI b p rtl ns kid:=by
 unfold xx EI
 split
 ·rfl
 ·dsimp only;rw [Ac hf]
theorem zE{bx:Bx}{b:Bv}(hf:FQ bx b)(p:Pl)(rtl:Bool)(ns:List ag):∀(ks:List Int)(st:St),(l7 bx p rtl ns ks st).1=Dk b p rtl ns ks
 | [],_=>rfl
 |k::r,st=>by
  simp only [l7,Dk,zqA]
  rw [EG hf,zE hf p rtl ns r];rfl
theorem ze{bx:Bx}{b:Bv}(hf:FQ bx b)(p:Pl)(rtl:Bool)(ns:List ag):∀(ks:List (Int×Int))(st:St),(uM bx p rtl ns ks st).1=E9 b p rtl ns ks
 | [],_=>rfl
 |(k,z)::r,st=>by
  simp only [uM,E9,zqA]
  rw [Ac hf,ze hf p rtl ns r];rfl
theorem Eh{bx:Bx}(hf:FQ bx b)(p:Pl)(rtl:Bool)(ns:List ag)(st:St):(Ei bx p rtl ns st).1=Iq b p rtl ns:=by
 simp only [Ei,Iq]
 rw [zE hf,ze hf]
theorem DW{bx:Bx}(hf:FQ bx b)(ns:List ag)(rtl:Bool):FQ (ye bx ns rtl) (GB b ns rtl):=fun k w h st=>by
 unfold ye GB
 split
 ·rfl
 ·split
  ·rfl
  ·exact Eh hf ..
theorem z8(ns:List ag)(rtl:Bool):∀f:Nat,FQ (z9 false ns rtl f) (C1 ns rtl f)
 |0=>fun _ _ _ _=>rfl
 |f+1=>fun k w h st=>by
  have:=DW (z8 ns rtl f) ns rtl k w h st
  simpa [z9,C1,kpF]using this
end Go.Proofs.YtkicjdeddpihaaaGreat
