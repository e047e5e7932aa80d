/- The layout without a state. -/
import Derived.Test.YtkicjdeddpihaaaGreatS2bh
set_option linter.unusedVariables false
set_option linter.unusedSimpArgs false
set_option maxHeartbeats 1600000
namespace Go.Proofs.YtkicjdeddpihaaaGreat
open Go.ChangeShapes Go.WideShapes Go.ChangeAt Go.RowKit Am Go.Proofs.Tryz
set_option maxRecDepth 100000
section
variable {P:Program}{n0 N:Nat}{g:Gd}
theorem G8(hg:g=G0 P n0 N){xs:LLA}{z:Int}{j k:Nat}{K:Nat->Prop}(hz:0<=z)(hj:j=z.toNat)(hy:j<xs.length)(hK:K j):g .Y k xs z K:=by subst hg hj;exact⟨hz,hy,hK⟩
theorem B9{es:LLA}{z:Int}{j:Nat}(h0:0<=z)(hc:z<aQ es)(hj:j=z.toNat):j<es.length:=by subst hj;rw [aj]at hc;omega
theorem wk1{T:Nat->AV}{h h':AH}{l':List (Nat×AV)}(hs:Dy h [0] h')(hk:rnK [some 0] h' T l'):Wk 1 T h l' h' [some 0]:=by
 match h',hs with
 | [e],hs=>
  have h1:=qM (h':=[e]) [0] [e] [] hs
  obtain⟨⟨ab,h2,rfl,h3⟩,_⟩:=hs
  refine⟨Nat.le_refl _,fun i hi hg=> ?_,by simp,?_,hk⟩
  ·obtain rfl:i=0:=by omega
   rw [h2]at hg;cases hg
  ·simp only [rnH,zqw,h2]
   exact⟨fun _=>by first|trivial|rfl|exact .inr trivial|exact .inr rfl,⟨by first|trivial|rfl,by first|trivial|rfl,.inl ⟨by first|trivial|rfl,h3⟩⟩,trivial⟩
variable {l:List (Nat×AV)}
theorem wU{tab:List (TypeId×TI)}(hg:g=G0 P 1 N)(hfit:fV P tab){S:Type}{c:Code}{Q:Exit->List (Nat×AV)->EH->Prop}{h:EH}(hok:fT N c=true)(Tf:S->List (Nat×AV))(hf:S->EH)(ok:S->Prop)(μ:S->Nat)(s0:S)(ρ0:List (Option Nat))(h0:ok s0)
  (hw:Wk 1 (lkT l) (toH h) (Tf s0) (toH (hf s0)) ρ0)
  (hb:∀(s:S)(B:List (Nat×AV)->EH->Prop),ok s->B=(fun l' h'=>∃s' ρ,ok s'/\μ s'<μ s/\Wk 1 (lkT l') (toH h') (Tf s') (toH (hf s')) ρ)->wb g tab c (fun e l h=>match e with| .normal=>B l h|e=>Q e l h) (Tf s) (hf s)):g .L c Q l h:=
 bP hg hfit hok Tf hf ok μ s0 ρ0 h0 hw hb
theorem Iy{S:Type}{ok:S->Prop}{μ:S->Nat}{s:S}{Tf:S->List (Nat×AV)}{hf:S->EH}{B:List (Nat×AV)->EH->Prop}{h:EH}
  (hB:B=fun l' h'=>∃s' ρ,ok s'/\μ s'<μ s/\Wk 1 (lkT l') (toH h') (Tf s') (toH (hf s')) ρ) (s':S) (ρ:List (Option Nat)) (hw:Wk 1 (lkT l) (toH h) (Tf s') (toH (hf s')) ρ) (h1:ok s') (h2:μ s'<μ s):B l h:=by
 subst hB;exact⟨s',ρ,h1,h2,hw⟩
theorem Gy{F:List AT->EH->Prop}{Post:AV->AH->Prop}{x:AC}{ab:AB}(hF:F=mN 1 Post)(hp:aB ab.es=true)(hpost:Post (.t (.c x)) (toH [.rw ab]))(hx:dy x=true:=by rfl):F [.c x] [.rw ab]:=by
 subst hF
 refine .inl ⟨.t (.c x),toH [.rw ab],[some 0],?_,hpost⟩
 exact wk1 (h:=toH [.rw ab]) ⟨⟨ab,rfl,rfl,hp⟩,trivial⟩ ⟨iP (x:= .t (.c x)) hx,trivial⟩
theorem DK{c:AC}(hp:dy c=true)(s:Nat->Nat):c.mv s=c:=by cases c<;>first|rfl|cases hp
theorem HA{ab:AB}(h:aB ab.es=true)(s:Nat->Nat):AB.mv s ab=ab:=by
 obtain⟨t,k,es⟩:=ab
 refine congrArg (AB.mk t k) ?_
 refine(List.map_congr_left fun x hx=> ?_).trans (List.map_id es)
 refine(List.map_congr_left fun c hc=> ?_).trans (List.map_id x)
 exact DK (List.all_eq_true.1 (List.all_eq_true.1 h x hx) c hc) s
end
def eX(k0:Int)(n:Nat):List Int:=(List.range n).map fun i:Nat=>k0+(i:Int)
variable {k0 z kc:Int}
theorem rx{n:Nat}{M:Int}(hM:M=(n:Int))(h0:0<=z)(h1:z<M)(hk:kc=k0+1*z):(vw ah (eX k0 n))[z.toNat]? =some ([.J kc]):=by
 subst hk
 have hz:z.toNat<n:=by rw [hM]at h1;omega
 refine(bd (x:=k0+z) ?_).trans (by simp [lc,ah])
 rw [eX,zqi,List.getElem?_range hz,Option.map_some,Int.toNat_of_nonneg h0]
theorem lD(k0:Int)(es:LLA)(hk:∀e∈es,e.length=1)(hp:aB es=true)(hl:es.length<=1048576)(hk0:0<=k0)(hk1:k0<=1152921504606846976)(ty:TypeId:=3):
  Con prog 15 (toH [.rw ⟨ty,1,es⟩]) [.c (.own 0),ai k0] fun res h'=>∃eh,toH eh=h'/\(res= .i (k0+1*aQ es)/\eh=[.rw ⟨ty,1,vw ah (eX k0 es.length)⟩]):=by
 obtain⟨V,hV⟩:=nmE (vw ah (eX k0 es.length))
 have hd:V.length=es.length:=by rw [hV,ar,eX];simp
 have hb:aQ V=aQ es:=by rw [aj,aj,hd]
 have ho:aQ V<=1048576:=by rw [aj];omega
 have pV:=pmV hV
 have hn:0<=aQ V:=by rw [aj];omega
 have hq:aQ V=(es.length:Int):=by rw [hb,aj]
 have ht:sk 1 V es 0:=⟨Int.le_refl 0,hn,hd.symm,hk,hp,fun i hi=>by simp at hi⟩
 rw [<-hV,<-hb]
 refine rZ (c:=aK f15) ay func15 (by kernel_rfl) (by kernel_rfl) (bl (by rfl)) (by kernel_rfl) fun g F hg hF=> ?_
 cbv
 refine wU hg ay (by kernel_rfl) (fun s:Int×Int×LLA=>[(0,.o 0),(1,.i s.2.1),(5,.i s.1)]) (fun s=>[.rw ⟨ty,1,s.2.2⟩]) (fun s=>sk 1 V s.2.2 s.1/\s.2.1=k0+1*s.1) (fun s=>(aQ V).toNat-s.1.toNat)
  (0,k0,es) [some 0] ⟨ht,by simp only;omega⟩ (wk1 ⟨⟨_,rfl,rfl,hp⟩,trivial⟩ zr3) (fun s B hs hB=> ?_)
 obtain⟨z,kc,E⟩:=s
 obtain⟨hs,hh⟩:=hs
 simp only at hs hh
 have h0:=hs.z0
 have h1:=hs.z1
 have hu:=hs.len
 have ha:aQ E=aQ V:=by rw [aj,aj,hs.len]
 cbv
 cases hc:g .q .lss z (g .ln E)
 ·rw [bg hg,bB hg,ha,zqo]at hc
  cbv
  obtain rfl:=hs.done hc
  refine Gy hF pV ⟨_,rfl,?_,rfl⟩
  show AV.t (ai kc)=_
  rw [show kc=k0+1*aQ E by omega]
 ·rw [bg hg,bB hg,ha,zqp]at hc
  cbv
  obtain⟨j,hj⟩:=nmE z.toNat
  have hf:j<E.length:=B9 h0 (by rw [ha];exact hc) hj
  obtain⟨e,he,hr⟩:=hs.mem hf
  have hv:e.all dy=true:=List.all_eq_true.1 hs.pl e (zqd he)
  obtain⟨b0,rfl⟩:∃b0,e=[b0]:=by
   match e,hr with
   | [b0],_=>exact⟨b0,rfl⟩
  have hy:=rx hq h0 hc hh
  rw [<-hV]at hy
  obtain⟨q0,hw⟩:=nmE (kc+1)
  have e0:g .w .add .i64 kc 1=q0:=by rw [aJ hg,aq _ (by omega)];omega
  refine G8 hg h0 hj hf ?_
  cbv
  refine goN hg ⟨_,he,rfl⟩ ?_
  cbv
  rw [kI hg]
  rw [e0]
  have ez:g .w .add .i64 z 1=z+1:=by rw [aJ hg,aq _ (by omega)]
  rw [ez]
  have hm:=hs.step hc hj hy rfl rfl
  exact Iy hB (z+1,q0,_) [some 0] (wk1 ⟨⟨_,rfl,rfl,hm.pl⟩,trivial⟩ zr3) ⟨hm,by simp only;omega⟩ (by show(aQ V).toNat-(z+1).toNat<(aQ V).toNat-z.toNat;omega)
theorem rJ(k0:Int)(n:Nat)(hl:n<=1048576)(hk0:0<=k0)(hk1:k0<=1152921504606846976):PC0 16 [.c (.view (vw ah (eX k0 n))),ai k0] (.i (k0+1*(n:Int))):=by
 obtain⟨V,hV⟩:=nmE (vw ah (eX k0 n))
 have hd:V.length=n:=by rw [hV,ar,eX];simp
 obtain⟨M,hM⟩:∃M:Int,M=(n:Int):=⟨_,rfl⟩
 have ha:aQ V=M:=by rw [aj,hd,hM]
 have he:M<=1048576:=by omega
 have hb:0<=M:=by omega
 rw [<-hV,<-hM]
 refine ae (aK f16) ay func16 fun g F hg hF=> ?_
 cbv
 refine bP hg ay (by kernel_rfl) (fun s:Int×Int=>[(0,.v V),(1,.i s.2),(5,.i s.1)]) (fun _=>[]) (fun s=>0<=s.1/\s.1<=M/\s.2=k0+1*s.1) (fun s=>M.toNat-s.1.toNat)
  (0,k0) [] ⟨Int.le_refl 0,hb,by simp only;omega⟩ (wk0 zr3) (fun s B hs hB=> ?_)
 obtain⟨z,kc⟩:=s
 obtain⟨h0,h1,h2⟩:=hs
 simp only at h0 h1 h2
 cbv
 cases hc:g .q .lss z (g .ln V)
 ·rw [bg hg,bB hg,ha,zqo]at hc
  cbv
  exact aU hF (by rw [h2,show z=M by omega])
 ·rw [bg hg,bB hg,ha,zqp]at hc
  cbv
  have hy:=rx hM h0 hc h2
  rw [<-hV]at hy
  obtain⟨q0,hf⟩:=nmE (kc+1)
  have e0:g .w .add .i64 kc 1=q0:=by rw [aJ hg,aq _ (by omega)];omega
  have n0:g .q .neq kc kc=false:=by rw [bz hg];simp
  refine goX hg _ h0 hy rfl ?_
  cbv
  rw [n0]
  cbv
  rw [e0]
  have ez:g .w .add .i64 z 1=z+1:=by rw [aJ hg,aq _ (by omega)]
  rw [ez]
  exact ip hB (z+1,q0) [] (wk0 zr3) ⟨by simp only;omega,by simp only;omega,by simp only;omega⟩ (by show M.toNat-(z+1).toNat<M.toNat-z.toNat;omega)
def fo(k0:Int)(n:Nat):List aI:=(List.range n).map fun i:Nat=>⟨(k0+3*(i:Int)),(k0+3*(i:Int))+1,(k0+3*(i:Int))+2⟩
theorem wT{n:Nat}{M:Int}(hM:M=(n:Int))(h0:0<=z)(h1:z<M)(hk:kc=k0+3*z):(vw aI.c (fo k0 n))[z.toNat]? =some ([.J kc,.J (kc+1),.J (kc+2)]):=by
 subst hk
 have hz:z.toNat<n:=by rw [hM]at h1;omega
 refine(bd (x:=⟨(k0+3*z),(k0+3*z)+1,(k0+3*z)+2⟩) ?_).trans rfl
 rw [fo,zqi,List.getElem?_range hz,Option.map_some,Int.toNat_of_nonneg h0]
theorem p7(k0:Int)(es:LLA)(hk:∀e∈es,e.length=3)(hp:aB es=true)(hl:es.length<=1048576)(hk0:0<=k0)(hk1:k0<=1152921504606846976)(ty:TypeId:=193):
  Con prog 96 (toH [.rw ⟨ty,3,es⟩]) [.c (.own 0),ai k0] fun res h'=>∃eh,toH eh=h'/\(res= .i (k0+3*aQ es)/\eh=[.rw ⟨ty,3,vw aI.c (fo k0 es.length)⟩]):=by
 obtain⟨V,hV⟩:=nmE (vw aI.c (fo k0 es.length))
 have ht:V.length=es.length:=by rw [hV,ar,fo];simp
 have hr:aQ V=aQ es:=by rw [aj,aj,ht]
 have hA:aQ V<=1048576:=by rw [aj];omega
 have pV:=pmV hV
 have hz:0<=aQ V:=by rw [aj];omega
 have hC:aQ V=(es.length:Int):=by rw [hr,aj]
 have hH:sk 3 V es 0:=⟨Int.le_refl 0,hz,ht.symm,hk,hp,fun i hi=>by simp at hi⟩
 rw [<-hV,<-hr]
 refine rZ (c:=aK f96) ay func96 (by kernel_rfl) (by kernel_rfl) (bl (by rfl)) (by kernel_rfl) fun g F hg hF=> ?_
 cbv
 refine wU hg ay (by kernel_rfl) (fun s:Int×Int×LLA=>[(0,.o 0),(1,.i s.2.1),(5,.i s.1)]) (fun s=>[.rw ⟨ty,3,s.2.2⟩]) (fun s=>sk 3 V s.2.2 s.1/\s.2.1=k0+3*s.1) (fun s=>(aQ V).toNat-s.1.toNat)
  (0,k0,es) [some 0] ⟨hH,by simp only;omega⟩ (wk1 ⟨⟨_,rfl,rfl,hp⟩,trivial⟩ zr3) (fun s B hs hB=> ?_)
 obtain⟨z,kc,E⟩:=s
 obtain⟨hs,hv⟩:=hs
 simp only at hs hv
 have h0:=hs.z0
 have h1:=hs.z1
 have hI:=hs.len
 have hb:aQ E=aQ V:=by rw [aj,aj,hs.len]
 cbv
 cases hc:g .q .lss z (g .ln E)
 ·rw [bg hg,bB hg,hb,zqo]at hc
  cbv
  obtain rfl:=hs.done hc
  refine Gy hF pV ⟨_,rfl,?_,rfl⟩
  show AV.t (ai kc)=_
  rw [show kc=k0+3*aQ E by omega]
 ·rw [bg hg,bB hg,hb,zqp]at hc
  cbv
  obtain⟨j,hj⟩:=nmE z.toNat
  have hu:j<E.length:=B9 h0 (by rw [hb];exact hc) hj
  obtain⟨e,he,hD⟩:=hs.mem hu
  have hJ:e.all dy=true:=List.all_eq_true.1 hs.pl e (zqd he)
  obtain⟨b0,b1,b2,rfl⟩:∃b0 b1 b2,e=[b0,b1,b2]:=by
   match e,hD with
   | [b0,b1,b2],_=>exact⟨b0,b1,b2,rfl⟩
  have hy:=wT hC h0 hc hv
  rw [<-hV]at hy
  obtain⟨E0,ha⟩:=nmE E
  have l0:j<E0.length:=by rw [ha];exact hu
  have hf:=he
  rw [<-ha]at hf⊢
  obtain⟨q0,hE⟩:=nmE (kc+1)
  obtain⟨q1,hG⟩:=nmE (kc+2)
  obtain⟨q2,hK⟩:=nmE (kc+3)
  have e0:g .w .add .i64 kc 1=q0:=by rw [aJ hg,aq _ (by omega)];omega
  have e1:g .w .add .i64 q0 1=q1:=by rw [aJ hg,aq _ (by omega)];omega
  have e2:g .w .add .i64 q1 1=q2:=by rw [aJ hg,aq _ (by omega)];omega
  refine G8 hg h0 hj l0 ?_
  cbv
  refine⟨[b0,b1,b2],hf,?_⟩
  cbv
  generalize hG1:g .st _ _ _=E1
  have hn:E1=g .st E0 j [.J kc,b1,b2]:=hG1.symm
  have hh:E1[j]? =some [.J kc,b1,b2]:=by rw [hn,kI hg];exact List.getElem?_set_self l0
  have l1:j<E1.length:=(List.getElem?_eq_some_iff.1 hh).1
  try rw [e0]
  cbv
  refine G8 hg h0 hj l1 ?_
  cbv
  refine⟨[.J kc,b1,b2],hh,?_⟩
  cbv
  generalize hG2:g .st _ _ _=E2
  have ho:E2=g .st E1 j [.J kc,.J q0,b2]:=hG2.symm
  have hm:E2[j]? =some [.J kc,.J q0,b2]:=by rw [ho,kI hg];exact List.getElem?_set_self l1
  have l2:j<E2.length:=(List.getElem?_eq_some_iff.1 hm).1
  try rw [e1]
  cbv
  refine G8 hg h0 hj l2 ?_
  cbv
  refine⟨[.J kc,.J q0,b2],hm,?_⟩
  cbv
  generalize hG3:g .st _ _ _=E3
  have hq:E3=g .st E2 j [.J kc,.J q0,.J q1]:=hG3.symm
  have hx:E3[j]? =some [.J kc,.J q0,.J q1]:=by rw [hq,kI hg];exact List.getElem?_set_self l2
  have l3:j<E3.length:=(List.getElem?_eq_some_iff.1 hx).1
  try rw [e2]
  cbv
  have ez:g .w .add .i64 z 1=z+1:=by rw [aJ hg,aq _ (by omega)]
  rw [ez]
  have hd:E3=E.set j [.J kc,.J q0,.J q1]:=by rw [hq,ho,hn,ha];simp only [kI hg,List.set_set]
  rw [hd]
  have hw:=hs.step hc hj hy rfl rfl
  subst hE hG
  exact Iy hB (z+1,q2,_) [some 0] (wk1 ⟨⟨_,rfl,rfl,hw.pl⟩,trivial⟩ zr3) ⟨hw,by simp only;omega⟩ (by show(aQ V).toNat-(z+1).toNat<(aQ V).toNat-z.toNat;omega)
def m3(k:Int):Bool:=k.tmod 3==0
variable {j:Nat}{y:List AC}
theorem Dx{E:LLA}(h:E[j]? =some y):E.set j y=E:=by
 refine List.ext_getElem? fun i=> ?_
 rw [List.getElem?_set]
 by_cases hi:j=i
 ·subst hi;rw [if_pos rfl,if_pos (List.getElem?_eq_some_iff.1 h).1,h]
 ·rw [if_neg hi]
theorem eo{E:LLA}(h:aB E=true)(hy:y.all dy=true):aB (E.set j y)=true:=by
 rw [aB,zqf]at h⊢
 intro x hx
 rcases List.mem_or_eq_of_mem_set hx with hx|rfl
 ·exact h x hx
 ·exact hy
variable {E E1 E2:LLA}
theorem yT{x y:List AC}(h:E2=E1.set j x)(hs:E1=E.set j y)(hl:j<E.length):E2=E.set j x/\E2[j]? =some x/\j<E2.length:=by
 rw [hs,List.set_set]at h
 subst h
 exact⟨rfl,List.getElem?_set_self hl,by rw [List.length_set];exact hl⟩
variable {P:Program}
theorem hP{n0 N:Nat}{β:BP}{g:Gd}(hg:g=G0 P n0 N){x y:List AC}(h:g .st E1 j x=E2)(hs:E1=E.set j y)(hl:j<E.length):E2=E.set j x/\E2[j]? =some x/\j<E2.length:=by
 rw [kI hg,hs,List.set_set]at h
 subst h
 exact⟨rfl,List.getElem?_set_self hl,by rw [List.length_set];exact hl⟩
theorem Jf{n0 N:Nat}{β:BP}{g:Gd}(hg:g=G0 P n0 N){a b d c e C:Int}(h0:0<=a)(hM:a+C<=1152921504606846976)(hb:b=a+c)(hd:d=a+e)(he:e=c+1)(h1:0<=c)(h2:c<=C):g .w .add .i64 b 1=d:=by
 rw [aJ hg,aq _ (by omega)];omega
theorem rH(k0:Int):PC0 15 [.c (.view []),ai k0] (.i k0):=by
 refine fN ([]) ([]) (c:=aK f15) ay func15 (by kernel_rfl) (by kernel_rfl) (by rfl) (by kernel_rfl) fun g hc hd F ha hb hg hF=> ?_
 cbv
 refine gf [] [] ha hb hg ay (by kernel_rfl) (fun _:Unit=>[(0,.t (.c (.view []))),(1,.i k0),(5,.i 0)]) (fun _=>[]) (fun _=>True) (fun _=>0) () trivial (Wk.weak (wk0 zr3)) (fun s B _ hB=> ?_)
 cbv
 have e:g .q .lss 0 (g .ln [])=false:=by rw [bg hg,bB hg];rfl
 rw [e]
 cbv
 exact aU hF rfl
theorem rG(k0:Int)(bs:List Nat)(V:LLA)(hl:V.length<=1048576)(hk:∀y∈V,y.length=1)(hi:oz V=true)(hnd:bs.Nodup)(hk0:0<=k0)(hk1:k0<=1152921504606846976):
  Di prog 15 [.c (.fv bs V),ai k0] [(bs,V,vw ah (eX k0 V.length))] (.int .i64 (k0+1*(V.length:Int))):=by
 by_cases hne:V=[]
 ·subst hne
  have:k0+1*(([]:LLA).length:Int)=k0:=by simp
  rw [this]
  exact uT (rH k0)
 ·rw [<-aj]
  exact wS (by kernel_rfl) hne hk hi (qC _ _) hnd (by rw [ar];simp [eX]) fun ty=>lD k0 V hk (db hi) hl hk0 hk1 ty
theorem p8(k0:Int):PC0 96 [.c (.view []),ai k0] (.i k0):=by
 refine fN ([]) ([]) (c:=aK f96) ay func96 (by kernel_rfl) (by kernel_rfl) (by rfl) (by kernel_rfl) fun g hc hd F ha hb hg hF=> ?_
 cbv
 refine gf [] [] ha hb hg ay (by kernel_rfl) (fun _:Unit=>[(0,.t (.c (.view []))),(1,.i k0),(5,.i 0)]) (fun _=>[]) (fun _=>True) (fun _=>0) () trivial (Wk.weak (wk0 zr3)) (fun s B _ hB=> ?_)
 cbv
 have e:g .q .lss 0 (g .ln [])=false:=by rw [bg hg,bB hg];rfl
 rw [e]
 cbv
 exact aU hF rfl
theorem p6(k0:Int)(bs:List Nat)(V:LLA)(hl:V.length<=1048576)(hk:∀y∈V,y.length=3)(hi:oz V=true)(hnd:bs.Nodup)(hk0:0<=k0)(hk1:k0<=1152921504606846976):
  Di prog 96 [.c (.fv bs V),ai k0] [(bs,V,vw aI.c (fo k0 V.length))] (.int .i64 (k0+3*(V.length:Int))):=by
 by_cases hne:V=[]
 ·subst hne
  have:k0+3*(([]:LLA).length:Int)=k0:=by simp
  rw [this]
  exact uT (p8 k0)
 ·rw [<-aj]
  exact wS (by kernel_rfl) hne hk hi (qC _ _) hnd (by rw [ar];simp [fo]) fun ty=>p7 k0 V hk (db hi) hl hk0 hk1 ty
section
variable {P:Program}{n0 N:Nat}{g:Gd}
theorem vH{F:List AT->EH->Prop}{w h b:Int}{r:Nat}{eh:EH}{ab:AB}(hF:F=mN 0 (fun res h'=>∃rows,h'=rows.map .live/\(res= .t (.agg [.J w,.J h,.J b,.own 0])/\rows=[ab])))(hr:nth eh r=some (.rw ab))(hp:aB ab.es=true):
  F [.agg [.J w,.J h,.J b,.own r]] eh:=by
 subst hF
 refine .inl ⟨.t (.agg [.J w,.J h,.J b,.own 0]),[.live ab],[some r],⟨Nat.zero_le _,fun i hi=>absurd hi (Nat.not_lt_zero _),by simp,?_,?_⟩,[ab],rfl,rfl,rfl⟩
 ·simp only [rnH,zqw,fF hr]
  exact⟨fun h=>absurd h (Nat.not_lt_zero _),⟨by first|trivial|rfl,by first|trivial|rfl,.inl ⟨by first|trivial|rfl,hp⟩⟩,trivial⟩
 ·exact⟨.inr zr4,trivial⟩
theorem vX{β:BP}(hg:g=G0 P n0 N){h:EH}{f:FuncId}{args:List AT}{K:AV->EH->Prop}{a b c:Int}{ab:AB}(hc:cY P f args fun res hb=>res= .t (.agg [.J a,.J b,.J c,.own 0])/\hb=[ab])(hd:jt args=true)(hp:aB ab.es=true)
  (hK:K (.t (.agg [.J a,.J b,.J c,.own (lB h)])) (h++[.rw ab])):g .C f h args K:=
 r5 hg (fE hc hd fun res hb ha=>by
  obtain⟨rfl,rfl⟩:=ha
  rw [dh]at hK
  refine⟨[.rw ab],by simp only [zqA,List.map_nil,fc hp];rfl,?_⟩
  rw [bU];exact hK)
end
def HC(n:Int)(w h:az)(rtl:Bool)(m:o3):Bool:=(m.node==n)&&decide (m.wide=w)&&decide (m.high=h)&&(m.rtl==rtl)
def Gj(n:Int)(w h:az)(rtl:Bool):List o3->kg×Bool
 | []=>(⟨0,0,0,[]⟩,false)
 |m::ms=>if HC n w h rtl m then(m.box,true)else Gj n w h rtl ms
structure Pl where
 s:ak
 row:Bool
 w:az
 h:az
 wide:az
 high:az
 al:az
 ac:az
 kids:List Int
def JC:ak:=ak.of (fun _=>0) (fun _=>false)
def kst(ns:List ag)(k:Int):ak:=match ns[(k-1).toNat]? with|some y=>y.style|none=>JC
def plO(ns:List ag)(n:Int)(w h:az):Pl:=
 ⟨kst ns n,jN (kst ns n),w,h,inW (kst ns n) w,inH (kst ns n) h,if jN (kst ns n)then inW (kst ns n) w else inH (kst ns n) h,if jN (kst ns n)then inH (kst ns n) h else inW (kst ns n) w,flK ns n⟩
abbrev St:=List o3×List kC
abbrev Bx:=Int->az->az->St->kg×St
def kcX(p:Pl)(k:ak)(rtl:Bool):az:=GH p.s k rtl p.row p.ac (knS p.wide)
def yZ(p:Pl)(k:ak)(rtl main:Bool):av:=sdB p.s k rtl main (knS p.wide)
def GS(p:Pl)(k:ak)(rtl:Bool):az:=if p.row then DN (qv p.al (wrap64 ((yZ p k rtl true).before+(yZ p k rtl true).behind)))else⟨1,0⟩
def Ev(p:Pl)(k:ak)(rtl:Bool):Int:=
 if tG k.basis (knS p.al)≠ -1 then tG k.basis (knS p.al)else if rT k p.row (knS p.al)≠ -1 then rT k p.row (knS p.al)
 else if(kcX p k rtl).mode=3 then sL k p.row (kcX p k rtl).n else-1
def uq(bx:Bx)(row:Bool)(kid:Int)(al ac:az)(st:St):kg×St:=if row then bx kid al ac st else bx kid ac al st
def alB(row:Bool)(b:kg):Int:=if row then b.wide else b.high
def xp(bx:Bx)(p:Pl)(rtl:Bool)(ns:List ag)(kid:Int)(st:St):Int×St:=
 if Ev p (kst ns kid) rtl≠ -1 then(Ev p (kst ns kid) rtl,st)else
 (alB p.row (uq bx p.row kid (GS p (kst ns kid) rtl) (kcX p (kst ns kid) rtl) st).1,(uq bx p.row kid (GS p (kst ns kid) rtl) (kcX p (kst ns kid) rtl) st).2)
def HU(p:Pl)(k:ak)(rtl:Bool)(b:Int):af:=
 ⟨b,Ca k p.row (knS p.al),Da k p.row (knS p.al),k.grow,k.shrink,(yZ p k rtl true).before,(yZ p k rtl true).behind,(yZ p k rtl true).autoBefore,(yZ p k rtl true).autoBehind⟩
def kP(bx:Bx)(p:Pl)(rtl:Bool)(ns:List ag):List Int->St->List af×St
 | [],st=>([],st)
 |k::r,st=>(HU p (kst ns k) rtl (xp bx p rtl ns k st).1::(kP bx p rtl ns r (xp bx p rtl ns k st).2).1,(kP bx p rtl ns r (xp bx p rtl ns k st).2).2)
def Dd(p:Pl):Int:=gp p.s p.row
def uc(p:Pl):Int:=gp p.s (!p.row)
def wrP(p:Pl):Bool:= !decide (p.s.wrap=1)
def Dc(p:Pl)(xs:List af):Int:=tak p.al (lng xs (Dd p) (iq p.al) (wrP p))
def qm(p:Pl)(xs:List af):List Int:=lsz xs (Dd p) (iq p.al) (wrP p) (Dc p xs)
def mZ(p:Pl)(xs:List af):List (List Int):=lns xs (Dd p) (iq p.al) (wrP p)
def AW(p:Pl)(k:ak)(rtl:Bool)(size:Int):az:=
 if(kcX p k rtl).mode≠3/\rT k (!p.row) (knS p.ac)= -1/\sL k (!p.row) size≠ -1 then⟨3,po k (!p.row) (knS p.ac) (sL k (!p.row) size)⟩else kcX p k rtl
def sP(a b:Int):Int:=if b<a then b else a
def IJ(p:Pl)(k:ak)(rtl:Bool)(b:kg):av:=
 ⟨po k (!p.row) (knS p.ac) (alB (!p.row) b),(yZ p k rtl false).before,(yZ p k rtl false).behind,(yZ p k rtl false).autoBefore,(yZ p k rtl false).autoBehind,AU p.s k,sP b.base (po k (!p.row) (knS p.ac) (alB (!p.row) b))⟩
def uG(bx:Bx)(p:Pl)(rtl:Bool)(ns:List ag):List (Int×Int)->St->List av×St
 | [],st=>([],st)
 |(k,z)::r,st=>
  (IJ p (kst ns k) rtl (uq bx p.row k ⟨3,z⟩ (AW p (kst ns k) rtl z) st).1::(uG bx p rtl ns r (uq bx p.row k ⟨3,z⟩ (AW p (kst ns k) rtl z) st).2).1,(uG bx p rtl ns r (uq bx p.row k ⟨3,z⟩ (AW p (kst ns k) rtl z) st).2).2)
def pck(sides:List av)(ln:List Int):List av:=ln.filterMap fun i=>if 0<=i then sides[i.toNat]? else none
def I4(p:Pl)(sides:List av)(ln:List Int):Int:=if p.s.wrap=1/\p.ac.mode=3 then p.ac.n else cro (pck sides ln)
def yo(p:Pl)(lines:List (List Int))(sides:List av):List Int:=
 if¬p.s.wrap=1/\p.ac.mode=3 then xv (lines.map (I4 p sides)) (uc p) p.ac.n p.s.content else lines.map (I4 p sides)
def z6(p:Pl)(cs:List Int):Int:=tak p.ac (crt cs (uc p))
def ctP(p:Pl):Int:=if p.s.wrap=1 then 2 else p.s.content
def G4(p:Pl)(cs:List Int):List Int:=pll cs (uc p) (z6 p cs) (ctP p)
def sdZ(sides:List av)(i:Int):av:=(if 0<=i then sides[i.toNat]? else none).getD ⟨0,0,0,false,false,0,0⟩
def CE(x:av)(z:Int):av:=⟨z,x.before,x.behind,x.autoBefore,x.autoBehind,x.align,sP x.base z⟩
def yk(p:Pl)(ns:List ag)(sides:List av)(sizes:List Int)(c i:Int):av:=
 if zI (sdZ sides i)=true/\rT (kst ns (elZ p.kids i)) (!p.row) (knS p.ac)= -1/\sL (kst ns (elZ p.kids i)) (!p.row) (elZ sizes i)= -1 then
  CE (sdZ sides i) (po (kst ns (elZ p.kids i)) (!p.row) (knS p.ac) (wrap64 (c-wrap64 ((sdZ sides i).before+(sdZ sides i).behind))))
 else sdZ sides i
def CG(p:Pl)(ns:List ag)(sides:List av)(sizes:List Int)(ls:List (List Int×Int)):List av:=ls.flatMap fun q=>q.1.map (yk p ns sides sizes q.2)
def Gv(p:Pl)(rtl:Bool)(inner across:Int)(sizes:List Int)(sides:List av)(st c lb a0 i:Int):aX:=
 let a:=E9 inner a0 (elZ sizes i) (lz p.s rtl)
 let b:=E9 across (wrap64 (st+Gg (sdZ sides i) c lb)) (sdZ sides i).size (lV p.s rtl)
 if p.row then⟨elZ p.kids i,wrap64 (a+(oh p.s).left),wrap64 (b+(oh p.s).top),elZ sizes i,(sdZ sides i).size⟩
 else⟨elZ p.kids i,wrap64 (b+(oh p.s).left),wrap64 (a+(oh p.s).top),(sdZ sides i).size,elZ sizes i⟩
def sj(p:Pl)(rtl:Bool)(inner across:Int)(sizes:List Int)(sides:List av)(st c lb:Int)(ps:List Int):Int->List Int->List aX
 |_,[]=>[]
 |j,i::r=>Gv p rtl inner across sizes sides st c lb (elZ ps j) i::sj p rtl inner across sizes sides st c lb ps (j+1) r
def Hx(p:Pl)(items:List af)(inner:Int)(sizes:List Int)(ln:List Int):List Int:=alg (lit items ln) (ln.map (elZ sizes)) (Dd p) inner p.s.justify
def xx(p:Pl)(rtl:Bool)(items:List af)(inner across:Int)(sizes:List Int)(sides:List av)(sts:List Int):Int->List (List Int×Int)->List aX
 |_,[]=>[]
 |k,(ln,c)::r=>sj p rtl inner across sizes sides (elZ sts k) c (bas (pck sides ln)) (Hx p items inner sizes ln) 0 ln++xx p rtl items inner across sizes sides sts (k+1) r
def Fz(p:Pl)(inner across:Int)(frames:List aX)(sides:List av):kg:=
 ⟨tak p.w (wrap64 ((if p.row then inner else across)+adE (oh p.s).left (oh p.s).right)),tak p.h (wrap64 ((if p.row then across else inner)+adE (oh p.s).top (oh p.s).bottom)),
  cl (wrap64 ((match frames with|f::_=>f.y| []=>0)+(sdZ sides 0).base)),frames⟩
def IY(p:Pl)(rtl:Bool)(ns:List ag)(items:List af)(sides0:List av):kg:=
 let lines:=mZ p items
 let sizes:=qm p items
 let cs:=yo p lines sides0
 let sides:=CG p ns sides0 sizes (lines.zip cs)
 Fz p (Dc p items) (z6 p cs) (xx p rtl items (Dc p items) (z6 p cs) sizes sides (G4 p cs) 0 (lines.zip cs)) sides
def D9(bx:Bx)(p:Pl)(rtl:Bool)(ns:List ag)(st:St):kg×St:=
 let a:=kP bx p rtl ns p.kids st
 let b:=uG bx p rtl ns (p.kids.zip (qm p a.1)) a.2
 (IY p rtl ns a.1 b.1,b.2)
def Av(s:ak)(w h:az)(q:Int×Int):kg:=
 ⟨tak w (wrap64 (q.1+adE (oh s).left (oh s).right)),tak h (wrap64 (q.2+adE (oh s).top (oh s).bottom)),tak h (wrap64 (q.2+adE (oh s).top (oh s).bottom)),[]⟩
def wnt(rs:List aI)(room:Int):Int×Int:=
 match rs.find? fun r=>decide (room= -1)||decide (r.room<=room)with|some r=>(cl r.wide,cl r.high)|none=>(0,0)
def nod(ns:List ag)(n:Int):ag:=(ns[(n-1).toNat]?).getD ⟨0,[],JC,false,⟨[]⟩⟩
def xW(bx:Bx)(ns:List ag)(rtl:Bool)(n:Int)(w h:az)(st:St):kg×St:=
 if(nod ns n).measured then(Av (kst ns n) w h (wnt (nod ns n).table.rules (iq (inW (kst ns n) w))),(st.1,st.2++[⟨n,w,h,rtl⟩]))
 else if flK ns n=[]then(Av (kst ns n) w h (0,0),st)else D9 bx (plO ns n w h) rtl ns st
def kpF(keeps:Bool)(rtl:Bool)(bx:Bx):Bx:=fun n w h st=>
 if keeps=false then bx n w h st else
 if(Gj n w h rtl st.1).2 then((Gj n w h rtl st.1).1,st)else((bx n w h st).1,((bx n w h st).2.1++[⟨n,w,h,rtl,(bx n w h st).1⟩],(bx n w h st).2.2))
def xy(keeps:Bool)(ns:List ag)(rtl:Bool):Nat->Bx
 |0=>fun _ _ _ st=>(⟨0,0,0,[]⟩,st)
 |f+1=>kpF keeps rtl (xW (xy keeps ns rtl f) ns rtl)
abbrev Bv:=Int->az->az->kg
def Dh(b:Bv)(row:Bool)(kid:Int)(al ac:az):kg:=if row then b kid al ac else b kid ac al
def Eu(b:Bv)(p:Pl)(rtl:Bool)(ns:List ag)(kid:Int):Int:=
 if Ev p (kst ns kid) rtl≠ -1 then Ev p (kst ns kid) rtl else alB p.row (Dh b p.row kid (GS p (kst ns kid) rtl) (kcX p (kst ns kid) rtl))
def yd(b:Bv)(p:Pl)(rtl:Bool)(ns:List ag)(kids:List Int):List af:=kids.map fun k=>HU p (kst ns k) rtl (Eu b p rtl ns k)
def ER(b:Bv)(p:Pl)(rtl:Bool)(ns:List ag)(ks:List (Int×Int)):List av:=ks.map fun q=>IJ p (kst ns q.1) rtl (Dh b p.row q.1 ⟨3,q.2⟩ (AW p (kst ns q.1) rtl q.2))
def IX(b:Bv)(p:Pl)(rtl:Bool)(ns:List ag):kg:=
 IY p rtl ns (yd b p rtl ns p.kids) (ER b p rtl ns (p.kids.zip (qm p (yd b p rtl ns p.kids))))
def HE(b:Bv)(ns:List ag)(rtl:Bool):Bv:=fun n w h=>
 if(nod ns n).measured then Av (kst ns n) w h (wnt (nod ns n).table.rules (iq (inW (kst ns n) w)))
 else if flK ns n=[]then Av (kst ns n) w h (0,0)else IX b (plO ns n w h) rtl ns
def AJ(ns:List ag)(rtl:Bool):Nat->Bv
 |0=>fun _ _ _=>⟨0,0,0,[]⟩
 |f+1=>HE (AJ ns rtl f) ns rtl
def FC(bx:Bx)(b:Bv):Prop:=∀k w h st,(bx k w h st).1=b k w h
variable {b:Bv}
theorem zX{bx:Bx}(hf:FC bx b)(row:Bool)(kid:Int)(al ac:az)(st:St):(uq bx row kid al ac st).1=Dh b row kid al ac:=by
 unfold uq Dh
 split<;>exact hf ..
theorem Et{bx:Bx}(hf:FC bx b)(p:Pl)(rtl:Bool)(ns:List ag)(kid:Int)(st:St):(xp bx p rtl ns kid st).1=Eu b p rtl ns kid:=by
 unfold xp Eu
 split
 ·rfl
 ·dsimp only;rw [zX hf]
theorem vo{bx:Bx}{b:Bv}(hf:FC bx b)(p:Pl)(rtl:Bool)(ns:List ag):∀(ks:List Int)(st:St),(kP bx p rtl ns ks st).1=yd b p rtl ns ks
 | [],_=>rfl
 |k::r,st=>by
  simp only [kP,yd,zqA]
  rw [Et hf,vo hf p rtl ns r];rfl
theorem yY{bx:Bx}{b:Bv}(hf:FC bx b)(p:Pl)(rtl:Bool)(ns:List ag):∀(ks:List (Int×Int))(st:St),(uG bx p rtl ns ks st).1=ER b p rtl ns ks
 | [],_=>rfl
 |(k,z)::r,st=>by
  simp only [uG,ER,zqA]
  rw [zX hf,yY hf p rtl ns r];rfl
theorem D8{bx:Bx}(hf:FC bx b)(p:Pl)(rtl:Bool)(ns:List ag)(st:St):(D9 bx p rtl ns st).1=IX b p rtl ns:=by
 simp only [D9,IX]
 rw [vo hf,yY hf]
theorem DM{bx:Bx}(hf:FC bx b)(ns:List ag)(rtl:Bool):FC (xW bx ns rtl) (HE b ns rtl):=fun k w h st=>by
 unfold xW HE
 split
 ·rfl
 ·split
  ·rfl
  ·exact D8 hf ..
theorem zU(ns:List ag)(rtl:Bool):∀f:Nat,FC (xy false ns rtl f) (AJ ns rtl f)
 |0=>fun _ _ _ _=>rfl
 |f+1=>fun k w h st=>by
  have:=DM (zU ns rtl f) ns rtl k w h st
  simpa [xy,AJ,kpF]using this
end Go.Proofs.YtkicjdeddpihaaaGreat
