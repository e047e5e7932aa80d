/- The layout without a state. -/
import Derived.Test.YtkicjdeddpihaaaGreatS3bh
set_option linter.unusedVariables false
set_option linter.unusedSimpArgs false
set_option maxHeartbeats 1600000
namespace Go.Proofs.YtkicjdeddpihaaaGreat
open Go.ChangeShapes Go.WideShapes Go.ChangeAt Go.RowKit Am Go.Proofs.Tryz
set_option maxRecDepth 100000
section
variable {P:Program}{n0 N:Nat}{g:Gd}
theorem Bf(hg:g=G0 P n0 N){xs:LLA}{z:Int}{j k:Nat}{K:Nat->Prop}(hz:0<=z)(hj:j=z.toNat)(hy:j<xs.length)(hK:K j):g .Y k xs z K:=by subst hg hj;exact⟨hz,hy,hK⟩
theorem yx{es:LLA}{z:Int}{j:Nat}(h0:0<=z)(hc:z<aM es)(hj:j=z.toNat):j<es.length:=by subst hj;rw [aj]at hc;omega
theorem wk1{T:Nat->AV}{h h':AH}{l':List (Nat×AV)}(hs:DU h [0] h')(hk:rnK [some 0] h' T l'):Wk 1 T h l' h' [some 0]:=by
 match h',hs with
 | [e],hs=>
  have h1:=ri (h':=[e]) [0] [e] [] hs
  obtain⟨⟨ab,h2,rfl,h3⟩,_⟩:=hs
  refine⟨Nat.le_refl _,fun i hi hg=> ?_,by simp,?_,hk⟩
  ·obtain rfl:i=0:=by omega
   rw [h2]at hg;cases hg
  ·simp only [rnH,zqw,h2]
   exact⟨fun _=>by first|trivial|rfl|exact .inr trivial|exact .inr rfl,⟨by first|trivial|rfl,by first|trivial|rfl,.inl ⟨by first|trivial|rfl,h3⟩⟩,trivial⟩
variable {l:List (Nat×AV)}
theorem rR{tab:List (TypeId×TI)}(hg:g=G0 P 1 N)(hfit:fY P tab){S:Type}{c:Code}{Q:Exit->List (Nat×AV)->EH->Prop}{h:EH}(hok:fW N c=true)(Tf:S->List (Nat×AV))(hf:S->EH)(ok:S->Prop)(μ:S->Nat)(s0:S)(ρ0:List (Option Nat))(h0:ok s0)
  (hw:Wk 1 (lkT l) (toH h) (Tf s0) (toH (hf s0)) ρ0)
  (hb:∀(s:S)(B:List (Nat×AV)->EH->Prop),ok s->B=(fun l' h'=>∃s' ρ,ok s'/\μ s'<μ s/\Wk 1 (lkT l') (toH h') (Tf s') (toH (hf s')) ρ)->wB g tab c (fun e l h=>match e with| .normal=>B l h|e=>Q e l h) (Tf s) (hf s)):g .L c Q l h:=
 bO hg hfit hok Tf hf ok μ s0 ρ0 h0 hw hb
theorem Hk{S:Type}{ok:S->Prop}{μ:S->Nat}{s:S}{Tf:S->List (Nat×AV)}{hf:S->EH}{B:List (Nat×AV)->EH->Prop}{h:EH}
  (hB:B=fun l' h'=>∃s' ρ,ok s'/\μ s'<μ s/\Wk 1 (lkT l') (toH h') (Tf s') (toH (hf s')) ρ) (s':S) (ρ:List (Option Nat)) (hw:Wk 1 (lkT l) (toH h) (Tf s') (toH (hf s')) ρ) (h1:ok s') (h2:μ s'<μ s):B l h:=by
 subst hB;exact⟨s',ρ,h1,h2,hw⟩
theorem Eu{F:List AT->EH->Prop}{Post:AV->AH->Prop}{x:AC}{ab:AB}(hF:F=mZ 1 Post)(hp:aB ab.es=true)(hpost:Post (.t (.c x)) (toH [.rw ab]))(hx:du x=true:=by rfl):F [.c x] [.rw ab]:=by
 subst hF
 refine .inl ⟨.t (.c x),toH [.rw ab],[some 0],?_,hpost⟩
 exact wk1 (h:=toH [.rw ab]) ⟨⟨ab,rfl,rfl,hp⟩,trivial⟩ ⟨iR (x:= .t (.c x)) hx,trivial⟩
theorem D7{c:AC}(hp:du c=true)(s:Nat->Nat):c.mv s=c:=by cases c<;>first|rfl|cases hp
theorem H7{ab:AB}(h:aB ab.es=true)(s:Nat->Nat):AB.mv s ab=ab:=by
 obtain⟨t,k,es⟩:=ab
 refine congrArg (AB.mk t k) ?_
 refine(List.map_congr_left fun x hx=> ?_).trans (List.map_id es)
 refine(List.map_congr_left fun c hc=> ?_).trans (List.map_id x)
 exact D7 (List.all_eq_true.1 (List.all_eq_true.1 h x hx) c hc) s
end
def gH(k0:Int)(n:Nat):List Int:=(List.range n).map fun i:Nat=>k0+(i:Int)
variable {k0 z kc:Int}
theorem yu{n:Nat}{M:Int}(hM:M=(n:Int))(h0:0<=z)(h1:z<M)(hk:kc=k0+1*z):(vw ah (gH k0 n))[z.toNat]? =some ([.J kc]):=by
 subst hk
 have hz:z.toNat<n:=by rw [hM]at h1;omega
 refine(ba (x:=k0+z) ?_).trans (by simp [lc,ah])
 rw [gH,zqi,List.getElem?_range hz,Option.map_some,Int.toNat_of_nonneg h0]
theorem r5(k0:Int)(es:LLA)(hk:∀e∈es,e.length=1)(hp:aB es=true)(hl:es.length<=1048576)(hk0:0<=k0)(hk1:k0<=1152921504606846976)(ty:TypeId:=3):
  Con prog 15 (toH [.rw ⟨ty,1,es⟩]) [.c (.own 0),ai k0] fun res h'=>∃eh,toH eh=h'/\(res= .i (k0+1*aM es)/\eh=[.rw ⟨ty,1,vw ah (gH k0 es.length)⟩]):=by
 obtain⟨V,hV⟩:=nmE (vw ah (gH k0 es.length))
 have hd:V.length=es.length:=by rw [hV,av,gH];simp
 have hb:aM V=aM es:=by rw [aj,aj,hd]
 have ho:aM V<=1048576:=by rw [aj];omega
 have pV:=pmV hV
 have hn:0<=aM V:=by rw [aj];omega
 have hq:aM V=(es.length:Int):=by rw [hb,aj]
 have ht:qT 1 V es 0:=⟨Int.le_refl 0,hn,hd.symm,hk,hp,fun i hi=>by simp at hi⟩
 rw [<-hV,<-hb]
 refine pi (c:=aK f15) ay func15 (by kernel_rfl) (by kernel_rfl) (bl (by rfl)) (by kernel_rfl) fun g F hg hF=> ?_
 cbv
 refine rR hg ay (by kernel_rfl) (fun s:Int×Int×LLA=>[(0,.o 0),(1,.i s.2.1),(5,.i s.1)]) (fun s=>[.rw ⟨ty,1,s.2.2⟩]) (fun s=>qT 1 V s.2.2 s.1/\s.2.1=k0+1*s.1) (fun s=>(aM V).toNat-s.1.toNat)
  (0,k0,es) [some 0] ⟨ht,by simp only;omega⟩ (wk1 ⟨⟨_,rfl,rfl,hp⟩,trivial⟩ zr3) (fun s B hs hB=> ?_)
 obtain⟨z,kc,E⟩:=s
 obtain⟨hs,hh⟩:=hs
 simp only at hs hh
 have h0:=hs.z0
 have h1:=hs.z1
 have hu:=hs.len
 have ha:aM E=aM V:=by rw [aj,aj,hs.len]
 cbv
 cases hc:g .q .lss z (g .ln E)
 ·rw [bg hg,bA hg,ha,zqo]at hc
  cbv
  obtain rfl:=hs.done hc
  refine Eu hF pV ⟨_,rfl,?_,rfl⟩
  show AV.t (ai kc)=_
  rw [show kc=k0+1*aM E by omega]
 ·rw [bg hg,bA hg,ha,zqp]at hc
  cbv
  obtain⟨j,hj⟩:=nmE z.toNat
  have hf:j<E.length:=yx h0 (by rw [ha];exact hc) hj
  obtain⟨e,he,hr⟩:=hs.mem hf
  have hv:e.all du=true:=List.all_eq_true.1 hs.pl e (zqd he)
  obtain⟨b0,rfl⟩:∃b0,e=[b0]:=by
   match e,hr with
   | [b0],_=>exact⟨b0,rfl⟩
  have hy:=yu hq h0 hc hh
  rw [<-hV]at hy
  obtain⟨q0,hw⟩:=nmE (kc+1)
  have e0:g .w .add .i64 kc 1=q0:=by rw [aJ hg,aq _ (by omega)];omega
  refine Bf hg h0 hj hf ?_
  cbv
  refine goN hg ⟨_,he,rfl⟩ ?_
  cbv
  rw [i7 hg]
  rw [e0]
  have ez:g .w .add .i64 z 1=z+1:=by rw [aJ hg,aq _ (by omega)]
  rw [ez]
  have hm:=hs.step hc hj hy rfl rfl
  exact Hk hB (z+1,q0,_) [some 0] (wk1 ⟨⟨_,rfl,rfl,hm.pl⟩,trivial⟩ zr3) ⟨hm,by simp only;omega⟩ (by show(aM V).toNat-(z+1).toNat<(aM V).toNat-z.toNat;omega)
def fq(k0:Int)(n:Nat):List aI:=(List.range n).map fun i:Nat=>⟨(k0+3*(i:Int)),(k0+3*(i:Int))+1,(k0+3*(i:Int))+2⟩
theorem xo{n:Nat}{M:Int}(hM:M=(n:Int))(h0:0<=z)(h1:z<M)(hk:kc=k0+3*z):(vw aI.c (fq k0 n))[z.toNat]? =some ([.J kc,.J (kc+1),.J (kc+2)]):=by
 subst hk
 have hz:z.toNat<n:=by rw [hM]at h1;omega
 refine(ba (x:=⟨(k0+3*z),(k0+3*z)+1,(k0+3*z)+2⟩) ?_).trans rfl
 rw [fq,zqi,List.getElem?_range hz,Option.map_some,Int.toNat_of_nonneg h0]
theorem qt(k0:Int)(es:LLA)(hk:∀e∈es,e.length=3)(hp:aB es=true)(hl:es.length<=1048576)(hk0:0<=k0)(hk1:k0<=1152921504606846976)(ty:TypeId:=193):
  Con prog 96 (toH [.rw ⟨ty,3,es⟩]) [.c (.own 0),ai k0] fun res h'=>∃eh,toH eh=h'/\(res= .i (k0+3*aM es)/\eh=[.rw ⟨ty,3,vw aI.c (fq k0 es.length)⟩]):=by
 obtain⟨V,hV⟩:=nmE (vw aI.c (fq k0 es.length))
 have ht:V.length=es.length:=by rw [hV,av,fq];simp
 have hr:aM V=aM es:=by rw [aj,aj,ht]
 have hA:aM V<=1048576:=by rw [aj];omega
 have pV:=pmV hV
 have hz:0<=aM V:=by rw [aj];omega
 have hC:aM V=(es.length:Int):=by rw [hr,aj]
 have hH:qT 3 V es 0:=⟨Int.le_refl 0,hz,ht.symm,hk,hp,fun i hi=>by simp at hi⟩
 rw [<-hV,<-hr]
 refine pi (c:=aK f96) ay func96 (by kernel_rfl) (by kernel_rfl) (bl (by rfl)) (by kernel_rfl) fun g F hg hF=> ?_
 cbv
 refine rR hg ay (by kernel_rfl) (fun s:Int×Int×LLA=>[(0,.o 0),(1,.i s.2.1),(5,.i s.1)]) (fun s=>[.rw ⟨ty,3,s.2.2⟩]) (fun s=>qT 3 V s.2.2 s.1/\s.2.1=k0+3*s.1) (fun s=>(aM V).toNat-s.1.toNat)
  (0,k0,es) [some 0] ⟨hH,by simp only;omega⟩ (wk1 ⟨⟨_,rfl,rfl,hp⟩,trivial⟩ zr3) (fun s B hs hB=> ?_)
 obtain⟨z,kc,E⟩:=s
 obtain⟨hs,hv⟩:=hs
 simp only at hs hv
 have h0:=hs.z0
 have h1:=hs.z1
 have hI:=hs.len
 have hb:aM E=aM V:=by rw [aj,aj,hs.len]
 cbv
 cases hc:g .q .lss z (g .ln E)
 ·rw [bg hg,bA hg,hb,zqo]at hc
  cbv
  obtain rfl:=hs.done hc
  refine Eu hF pV ⟨_,rfl,?_,rfl⟩
  show AV.t (ai kc)=_
  rw [show kc=k0+3*aM E by omega]
 ·rw [bg hg,bA hg,hb,zqp]at hc
  cbv
  obtain⟨j,hj⟩:=nmE z.toNat
  have hu:j<E.length:=yx h0 (by rw [hb];exact hc) hj
  obtain⟨e,he,hD⟩:=hs.mem hu
  have hJ:e.all du=true:=List.all_eq_true.1 hs.pl e (zqd he)
  obtain⟨b0,b1,b2,rfl⟩:∃b0 b1 b2,e=[b0,b1,b2]:=by
   match e,hD with
   | [b0,b1,b2],_=>exact⟨b0,b1,b2,rfl⟩
  have hy:=xo hC h0 hc hv
  rw [<-hV]at hy
  obtain⟨E0,ha⟩:=nmE E
  have l0:j<E0.length:=by rw [ha];exact hu
  have hf:=he
  rw [<-ha]at hf⊢
  obtain⟨q0,hE⟩:=nmE (kc+1)
  obtain⟨q1,hG⟩:=nmE (kc+2)
  obtain⟨q2,hK⟩:=nmE (kc+3)
  have e0:g .w .add .i64 kc 1=q0:=by rw [aJ hg,aq _ (by omega)];omega
  have e1:g .w .add .i64 q0 1=q1:=by rw [aJ hg,aq _ (by omega)];omega
  have e2:g .w .add .i64 q1 1=q2:=by rw [aJ hg,aq _ (by omega)];omega
  refine Bf hg h0 hj l0 ?_
  cbv
  refine⟨[b0,b1,b2],hf,?_⟩
  cbv
  generalize hG1:g .st _ _ _=E1
  have hn:E1=g .st E0 j [.J kc,b1,b2]:=hG1.symm
  have hh:E1[j]? =some [.J kc,b1,b2]:=by rw [hn,i7 hg];exact List.getElem?_set_self l0
  have l1:j<E1.length:=(List.getElem?_eq_some_iff.1 hh).1
  try rw [e0]
  cbv
  refine Bf hg h0 hj l1 ?_
  cbv
  refine⟨[.J kc,b1,b2],hh,?_⟩
  cbv
  generalize hG2:g .st _ _ _=E2
  have ho:E2=g .st E1 j [.J kc,.J q0,b2]:=hG2.symm
  have hm:E2[j]? =some [.J kc,.J q0,b2]:=by rw [ho,i7 hg];exact List.getElem?_set_self l1
  have l2:j<E2.length:=(List.getElem?_eq_some_iff.1 hm).1
  try rw [e1]
  cbv
  refine Bf hg h0 hj l2 ?_
  cbv
  refine⟨[.J kc,.J q0,b2],hm,?_⟩
  cbv
  generalize hG3:g .st _ _ _=E3
  have hq:E3=g .st E2 j [.J kc,.J q0,.J q1]:=hG3.symm
  have hx:E3[j]? =some [.J kc,.J q0,.J q1]:=by rw [hq,i7 hg];exact List.getElem?_set_self l2
  have l3:j<E3.length:=(List.getElem?_eq_some_iff.1 hx).1
  try rw [e2]
  cbv
  have ez:g .w .add .i64 z 1=z+1:=by rw [aJ hg,aq _ (by omega)]
  rw [ez]
  have hd:E3=E.set j [.J kc,.J q0,.J q1]:=by rw [hq,ho,hn,ha];simp only [i7 hg,List.set_set]
  rw [hd]
  have hw:=hs.step hc hj hy rfl rfl
  subst hE hG
  exact Hk hB (z+1,q2,_) [some 0] (wk1 ⟨⟨_,rfl,rfl,hw.pl⟩,trivial⟩ zr3) ⟨hw,by simp only;omega⟩ (by show(aM V).toNat-(z+1).toNat<(aM V).toNat-z.toNat;omega)
def m3(k:Int):Bool:=k.tmod 3==0
variable {j:Nat}{y:List AC}
theorem DT{E:LLA}(h:E[j]? =some y):E.set j y=E:=by
 refine List.ext_getElem? fun i=> ?_
 rw [List.getElem?_set]
 by_cases hi:j=i
 ·subst hi;rw [if_pos rfl,if_pos (List.getElem?_eq_some_iff.1 h).1,h]
 ·rw [if_neg hi]
theorem ep{E:LLA}(h:aB E=true)(hy:y.all du=true):aB (E.set j y)=true:=by
 rw [aB,zqf]at h⊢
 intro x hx
 rcases List.mem_or_eq_of_mem_set hx with hx|rfl
 ·exact h x hx
 ·exact hy
variable {E E1 E2:LLA}
theorem zr{x y:List AC}(h:E2=E1.set j x)(hs:E1=E.set j y)(hl:j<E.length):E2=E.set j x/\E2[j]? =some x/\j<E2.length:=by
 rw [hs,List.set_set]at h
 subst h
 exact⟨rfl,List.getElem?_set_self hl,by rw [List.length_set];exact hl⟩
variable {P:Program}
theorem ic{n0 N:Nat}{β:BP}{g:Gd}(hg:g=G0 P n0 N){x y:List AC}(h:g .st E1 j x=E2)(hs:E1=E.set j y)(hl:j<E.length):E2=E.set j x/\E2[j]? =some x/\j<E2.length:=by
 rw [i7 hg,hs,List.set_set]at h
 subst h
 exact⟨rfl,List.getElem?_set_self hl,by rw [List.length_set];exact hl⟩
theorem JB{n0 N:Nat}{β:BP}{g:Gd}(hg:g=G0 P n0 N){a b d c e C:Int}(h0:0<=a)(hM:a+C<=1152921504606846976)(hb:b=a+c)(hd:d=a+e)(he:e=c+1)(h1:0<=c)(h2:c<=C):g .w .add .i64 b 1=d:=by
 rw [aJ hg,aq _ (by omega)];omega
theorem r6(k0:Int):PC0 15 [.c (.view []),ai k0] (.i k0):=by
 refine fP ([]) ([]) (c:=aK f15) ay func15 (by kernel_rfl) (by kernel_rfl) (by rfl) (by kernel_rfl) fun g hc hd F ha hb hg hF=> ?_
 cbv
 refine gj [] [] ha hb hg ay (by kernel_rfl) (fun _:Unit=>[(0,.t (.c (.view []))),(1,.i k0),(5,.i 0)]) (fun _=>[]) (fun _=>True) (fun _=>0) () trivial (Wk.weak (wk0 zr3)) (fun s B _ hB=> ?_)
 cbv
 have e:g .q .lss 0 (g .ln [])=false:=by rw [bg hg,bA hg];rfl
 rw [e]
 cbv
 exact aU hF rfl
theorem rZ(k0:Int)(bs:List Nat)(V:LLA)(hl:V.length<=1048576)(hk:∀y∈V,y.length=1)(hi:oQ V=true)(hnd:bs.Nodup)(hk0:0<=k0)(hk1:k0<=1152921504606846976):
  DG prog 15 [.c (.fv bs V),ai k0] [(bs,V,vw ah (gH k0 V.length))] (.int .i64 (k0+1*(V.length:Int))):=by
 by_cases hne:V=[]
 ·subst hne
  have:k0+1*(([]:LLA).length:Int)=k0:=by simp
  rw [this]
  exact vp (r6 k0)
 ·rw [<-aj]
  exact xn (by kernel_rfl) hne hk hi (qV _ _) hnd (by rw [av];simp [gH]) fun ty=>r5 k0 V hk (cu hi) hl hk0 hk1 ty
theorem qu(k0:Int):PC0 96 [.c (.view []),ai k0] (.i k0):=by
 refine fP ([]) ([]) (c:=aK f96) ay func96 (by kernel_rfl) (by kernel_rfl) (by rfl) (by kernel_rfl) fun g hc hd F ha hb hg hF=> ?_
 cbv
 refine gj [] [] ha hb hg ay (by kernel_rfl) (fun _:Unit=>[(0,.t (.c (.view []))),(1,.i k0),(5,.i 0)]) (fun _=>[]) (fun _=>True) (fun _=>0) () trivial (Wk.weak (wk0 zr3)) (fun s B _ hB=> ?_)
 cbv
 have e:g .q .lss 0 (g .ln [])=false:=by rw [bg hg,bA hg];rfl
 rw [e]
 cbv
 exact aU hF rfl
theorem qr(k0:Int)(bs:List Nat)(V:LLA)(hl:V.length<=1048576)(hk:∀y∈V,y.length=3)(hi:oQ V=true)(hnd:bs.Nodup)(hk0:0<=k0)(hk1:k0<=1152921504606846976):
  DG prog 96 [.c (.fv bs V),ai k0] [(bs,V,vw aI.c (fq k0 V.length))] (.int .i64 (k0+3*(V.length:Int))):=by
 by_cases hne:V=[]
 ·subst hne
  have:k0+3*(([]:LLA).length:Int)=k0:=by simp
  rw [this]
  exact vp (qu k0)
 ·rw [<-aj]
  exact xn (by kernel_rfl) hne hk hi (qV _ _) hnd (by rw [av];simp [fq]) fun ty=>qt k0 V hk (cu hi) hl hk0 hk1 ty
section
variable {P:Program}{n0 N:Nat}{g:Gd}
theorem wh{F:List AT->EH->Prop}{w h b:Int}{r:Nat}{eh:EH}{ab:AB}(hF:F=mZ 0 (fun res h'=>∃rows,h'=rows.map .live/\(res= .t (.agg [.J w,.J h,.J b,.own 0])/\rows=[ab])))(hr:nth eh r=some (.rw ab))(hp:aB ab.es=true):
  F [.agg [.J w,.J h,.J b,.own r]] eh:=by
 subst hF
 refine .inl ⟨.t (.agg [.J w,.J h,.J b,.own 0]),[.live ab],[some r],⟨Nat.zero_le _,fun i hi=>absurd hi (Nat.not_lt_zero _),by simp,?_,?_⟩,[ab],rfl,rfl,rfl⟩
 ·simp only [rnH,zqw,fH hr]
  exact⟨fun h=>absurd h (Nat.not_lt_zero _),⟨by first|trivial|rfl,by first|trivial|rfl,.inl ⟨by first|trivial|rfl,hp⟩⟩,trivial⟩
 ·exact⟨.inr zr4,trivial⟩
theorem wu{β:BP}(hg:g=G0 P n0 N){h:EH}{f:FuncId}{args:List AT}{K:AV->EH->Prop}{a b c:Int}{ab:AB}(hc:cV P f args fun res hb=>res= .t (.agg [.J a,.J b,.J c,.own 0])/\hb=[ab])(hd:jA args=true)(hp:aB ab.es=true)
  (hK:K (.t (.agg [.J a,.J b,.J c,.own (lJ h)])) (h++[.rw ab])):g .C f h args K:=
 sx hg (fG hc hd fun res hb ha=>by
  obtain⟨rfl,rfl⟩:=ha
  rw [dh]at hK
  refine⟨[.rw ab],by simp only [zqA,List.map_nil,fd hp];rfl,?_⟩
  rw [bU];exact hK)
end
def H9(n:Int)(w h:az)(rtl:Bool)(m:pp):Bool:=(m.node==n)&&decide (m.wide=w)&&decide (m.high=h)&&(m.rtl==rtl)
def GL(n:Int)(w h:az)(rtl:Bool):List pp->km×Bool
 | []=>(⟨0,0,0,[]⟩,false)
 |m::ms=>if H9 n w h rtl m then(m.box,true)else GL n w h rtl ms
structure Pl where
 s:ak
 row:Bool
 w:az
 h:az
 wide:az
 high:az
 al:az
 ac:az
 kids:List Int
def JX:ak:=ak.of (fun _=>0) (fun _=>false)
def kst(ns:List af)(k:Int):ak:=match ns[(k-1).toNat]? with|some y=>y.style|none=>JX
def plO(ns:List af)(n:Int)(w h:az):Pl:=
 ⟨kst ns n,jS (kst ns n),w,h,inW (kst ns n) w,inH (kst ns n) h,if jS (kst ns n)then inW (kst ns n) w else inH (kst ns n) h,if jS (kst ns n)then inH (kst ns n) h else inW (kst ns n) w,flK ns n⟩
abbrev St:=List pp×List kO
abbrev Bx:=Int->az->az->St->km×St
def kcX(p:Pl)(k:ak)(rtl:Bool):az:=Hc p.s k rtl p.row p.ac (knS p.wide)
def zC(p:Pl)(k:ak)(rtl main:Bool):ar:=sdB p.s k rtl main (knS p.wide)
def Hl(p:Pl)(k:ak)(rtl:Bool):az:=if p.row then Ea (qN p.al (wrap64 ((zC p k rtl true).before+(zC p k rtl true).behind)))else⟨1,0⟩
def EY(p:Pl)(k:ak)(rtl:Bool):Int:=
 if ud k.basis (knS p.al)≠ -1 then ud k.basis (knS p.al)else if sq k p.row (knS p.al)≠ -1 then sq k p.row (knS p.al)
 else if(kcX p k rtl).mode=3 then s9 k p.row (kcX p k rtl).n else-1
def uL(bx:Bx)(row:Bool)(kid:Int)(al ac:az)(st:St):km×St:=if row then bx kid al ac st else bx kid ac al st
def alB(row:Bool)(b:km):Int:=if row then b.wide else b.high
def xN(bx:Bx)(p:Pl)(rtl:Bool)(ns:List af)(kid:Int)(st:St):Int×St:=
 if EY p (kst ns kid) rtl≠ -1 then(EY p (kst ns kid) rtl,st)else
 (alB p.row (uL bx p.row kid (Hl p (kst ns kid) rtl) (kcX p (kst ns kid) rtl) st).1,(uL bx p.row kid (Hl p (kst ns kid) rtl) (kcX p (kst ns kid) rtl) st).2)
def Ip(p:Pl)(k:ak)(rtl:Bool)(b:Int):ag:=
 ⟨b,Cz k p.row (knS p.al),Dy k p.row (knS p.al),k.grow,k.shrink,(zC p k rtl true).before,(zC p k rtl true).behind,(zC p k rtl true).autoBefore,(zC p k rtl true).autoBehind⟩
def k9(bx:Bx)(p:Pl)(rtl:Bool)(ns:List af):List Int->St->List ag×St
 | [],st=>([],st)
 |k::r,st=>(Ip p (kst ns k) rtl (xN bx p rtl ns k st).1::(k9 bx p rtl ns r (xN bx p rtl ns k st).2).1,(k9 bx p rtl ns r (xN bx p rtl ns k st).2).2)
def DB(p:Pl):Int:=gu p.s p.row
def uz(p:Pl):Int:=gu p.s (!p.row)
def wrP(p:Pl):Bool:= !decide (p.s.wrap=1)
def Dz(p:Pl)(xs:List ag):Int:=tak p.al (lng xs (DB p) (iv p.al) (wrP p))
def pv(p:Pl)(xs:List ag):List Int:=lsz xs (DB p) (iv p.al) (wrP p) (Dz p xs)
def nj(p:Pl)(xs:List ag):List (List Int):=lns xs (DB p) (iv p.al) (wrP p)
def BA(p:Pl)(k:ak)(rtl:Bool)(size:Int):az:=
 if(kcX p k rtl).mode≠3/\sq k (!p.row) (knS p.ac)= -1/\s9 k (!p.row) size≠ -1 then⟨3,qa k (!p.row) (knS p.ac) (s9 k (!p.row) size)⟩else kcX p k rtl
def tf(a b:Int):Int:=if b<a then b else a
def Ja(p:Pl)(k:ak)(rtl:Bool)(b:km):ar:=
 ⟨qa k (!p.row) (knS p.ac) (alB (!p.row) b),(zC p k rtl false).before,(zC p k rtl false).behind,(zC p k rtl false).autoBefore,(zC p k rtl false).autoBehind,Bz p.s k,tf b.base (qa k (!p.row) (knS p.ac) (alB (!p.row) b))⟩
def s8(bx:Bx)(p:Pl)(rtl:Bool)(ns:List af):List (Int×Int)->St->List ar×St
 | [],st=>([],st)
 |(k,z)::r,st=>
  (Ja p (kst ns k) rtl (uL bx p.row k ⟨3,z⟩ (BA p (kst ns k) rtl z) st).1::(s8 bx p rtl ns r (uL bx p.row k ⟨3,z⟩ (BA p (kst ns k) rtl z) st).2).1,(s8 bx p rtl ns r (uL bx p.row k ⟨3,z⟩ (BA p (kst ns k) rtl z) st).2).2)
def pck(sides:List ar)(ln:List Int):List ar:=ln.filterMap fun i=>if 0<=i then sides[i.toNat]? else none
def Jp(p:Pl)(sides:List ar)(ln:List Int):Int:=if p.s.wrap=1/\p.ac.mode=3 then p.ac.n else cro (pck sides ln)
def yM(p:Pl)(lines:List (List Int))(sides:List ar):List Int:=
 if¬p.s.wrap=1/\p.ac.mode=3 then xS (lines.map (Jp p sides)) (uz p) p.ac.n p.s.content else lines.map (Jp p sides)
def Aw(p:Pl)(cs:List Int):Int:=tak p.ac (crt cs (uz p))
def ctP(p:Pl):Int:=if p.s.wrap=1 then 2 else p.s.content
def Hr(p:Pl)(cs:List Int):List Int:=pll cs (uz p) (Aw p cs) (ctP p)
def sdZ(sides:List ar)(i:Int):ar:=(if 0<=i then sides[i.toNat]? else none).getD ⟨0,0,0,false,false,0,0⟩
def CZ(x:ar)(z:Int):ar:=⟨z,x.before,x.behind,x.autoBefore,x.autoBehind,x.align,tf x.base z⟩
def yI(p:Pl)(ns:List af)(sides:List ar)(sizes:List Int)(c i:Int):ar:=
 if Ad (sdZ sides i)=true/\sq (kst ns (elZ p.kids i)) (!p.row) (knS p.ac)= -1/\s9 (kst ns (elZ p.kids i)) (!p.row) (elZ sizes i)= -1 then
  CZ (sdZ sides i) (qa (kst ns (elZ p.kids i)) (!p.row) (knS p.ac) (wrap64 (c-wrap64 ((sdZ sides i).before+(sdZ sides i).behind))))
 else sdZ sides i
def C1(p:Pl)(ns:List af)(sides:List ar)(sizes:List Int)(ls:List (List Int×Int)):List ar:=ls.flatMap fun q=>q.1.map (yI p ns sides sizes q.2)
def G3(p:Pl)(rtl:Bool)(inner across:Int)(sizes:List Int)(sides:List ar)(st c lb a0 i:Int):aX:=
 let a:=Fz inner a0 (elZ sizes i) (lG p.s rtl)
 let b:=Fz across (wrap64 (st+GH (sdZ sides i) c lb)) (sdZ sides i).size (l8 p.s rtl)
 if p.row then⟨elZ p.kids i,wrap64 (a+(oE p.s).left),wrap64 (b+(oE p.s).top),elZ sizes i,(sdZ sides i).size⟩
 else⟨elZ p.kids i,wrap64 (b+(oE p.s).left),wrap64 (a+(oE p.s).top),(sdZ sides i).size,elZ sizes i⟩
def sI(p:Pl)(rtl:Bool)(inner across:Int)(sizes:List Int)(sides:List ar)(st c lb:Int)(ps:List Int):Int->List Int->List aX
 |_,[]=>[]
 |j,i::r=>G3 p rtl inner across sizes sides st c lb (elZ ps j) i::sI p rtl inner across sizes sides st c lb ps (j+1) r
def H4(p:Pl)(items:List ag)(inner:Int)(sizes:List Int)(ln:List Int):List Int:=alg (lit items ln) (ln.map (elZ sizes)) (DB p) inner p.s.justify
def xU(p:Pl)(rtl:Bool)(items:List ag)(inner across:Int)(sizes:List Int)(sides:List ar)(sts:List Int):Int->List (List Int×Int)->List aX
 |_,[]=>[]
 |k,(ln,c)::r=>sI p rtl inner across sizes sides (elZ sts k) c (bas (pck sides ln)) (H4 p items inner sizes ln) 0 ln++xU p rtl items inner across sizes sides sts (k+1) r
def F6(p:Pl)(inner across:Int)(frames:List aX)(sides:List ar):km:=
 ⟨tak p.w (wrap64 ((if p.row then inner else across)+adE (oE p.s).left (oE p.s).right)),tak p.h (wrap64 ((if p.row then across else inner)+adE (oE p.s).top (oE p.s).bottom)),
  cl (wrap64 ((match frames with|f::_=>f.y| []=>0)+(sdZ sides 0).base)),frames⟩
def Jl(p:Pl)(rtl:Bool)(ns:List af)(items:List ag)(sides0:List ar):km:=
 let lines:=nj p items
 let sizes:=pv p items
 let cs:=yM p lines sides0
 let sides:=C1 p ns sides0 sizes (lines.zip cs)
 F6 p (Dz p items) (Aw p cs) (xU p rtl items (Dz p items) (Aw p cs) sizes sides (Hr p cs) 0 (lines.zip cs)) sides
def Et(bx:Bx)(p:Pl)(rtl:Bool)(ns:List af)(st:St):km×St:=
 let a:=k9 bx p rtl ns p.kids st
 let b:=s8 bx p rtl ns (p.kids.zip (pv p a.1)) a.2
 (Jl p rtl ns a.1 b.1,b.2)
def Bb(s:ak)(w h:az)(q:Int×Int):km:=
 ⟨tak w (wrap64 (q.1+adE (oE s).left (oE s).right)),tak h (wrap64 (q.2+adE (oE s).top (oE s).bottom)),tak h (wrap64 (q.2+adE (oE s).top (oE s).bottom)),[]⟩
def wnt(rs:List aI)(room:Int):Int×Int:=
 match rs.find? fun r=>decide (room= -1)||decide (r.room<=room)with|some r=>(cl r.wide,cl r.high)|none=>(0,0)
def nod(ns:List af)(n:Int):af:=(ns[(n-1).toNat]?).getD ⟨0,[],JX,false,⟨[]⟩⟩
def yw(bx:Bx)(ns:List af)(rtl:Bool)(n:Int)(w h:az)(st:St):km×St:=
 if(nod ns n).measured then(Bb (kst ns n) w h (wnt (nod ns n).table.rules (iv (inW (kst ns n) w))),(st.1,st.2++[⟨n,w,h,rtl⟩]))
 else if flK ns n=[]then(Bb (kst ns n) w h (0,0),st)else Et bx (plO ns n w h) rtl ns st
def kpF(keeps:Bool)(rtl:Bool)(bx:Bx):Bx:=fun n w h st=>
 if keeps=false then bx n w h st else
 if(GL n w h rtl st.1).2 then((GL n w h rtl st.1).1,st)else((bx n w h st).1,((bx n w h st).2.1++[⟨n,w,h,rtl,(bx n w h st).1⟩],(bx n w h st).2.2))
def uI(keeps:Bool)(ns:List af)(rtl:Bool):Nat->Bx
 |0=>fun _ _ _ st=>(⟨0,0,0,[]⟩,st)
 |f+1=>kpF keeps rtl (yw (uI keeps ns rtl f) ns rtl)
abbrev Bv:=Int->az->az->km
def DF(b:Bv)(row:Bool)(kid:Int)(al ac:az):km:=if row then b kid al ac else b kid ac al
def EW(b:Bv)(p:Pl)(rtl:Bool)(ns:List af)(kid:Int):Int:=
 if EY p (kst ns kid) rtl≠ -1 then EY p (kst ns kid) rtl else alB p.row (DF b p.row kid (Hl p (kst ns kid) rtl) (kcX p (kst ns kid) rtl))
def xu(b:Bv)(p:Pl)(rtl:Bool)(ns:List af)(kids:List Int):List ag:=kids.map fun k=>Ip p (kst ns k) rtl (EW b p rtl ns k)
def AG(b:Bv)(p:Pl)(rtl:Bool)(ns:List af)(ks:List (Int×Int)):List ar:=ks.map fun q=>Ja p (kst ns q.1) rtl (DF b p.row q.1 ⟨3,q.2⟩ (BA p (kst ns q.1) rtl q.2))
def Jk(b:Bv)(p:Pl)(rtl:Bool)(ns:List af):km:=
 Jl p rtl ns (xu b p rtl ns p.kids) (AG b p rtl ns (p.kids.zip (pv p (xu b p rtl ns p.kids))))
def Ib(b:Bv)(ns:List af)(rtl:Bool):Bv:=fun n w h=>
 if(nod ns n).measured then Bb (kst ns n) w h (wnt (nod ns n).table.rules (iv (inW (kst ns n) w)))
 else if flK ns n=[]then Bb (kst ns n) w h (0,0)else Jk b (plO ns n w h) rtl ns
def tX(ns:List af)(rtl:Bool):Nat->Bv
 |0=>fun _ _ _=>⟨0,0,0,[]⟩
 |f+1=>Ib (tX ns rtl f) ns rtl
def F8(bx:Bx)(b:Bv):Prop:=∀k w h st,(bx k w h st).1=b k w h
variable {b:Bv}
theorem Ar{bx:Bx}(hf:F8 bx b)(row:Bool)(kid:Int)(al ac:az)(st:St):(uL bx row kid al ac st).1=DF b row kid al ac:=by
 unfold uL DF
 split<;>exact hf ..
theorem EV{bx:Bx}(hf:F8 bx b)(p:Pl)(rtl:Bool)(ns:List af)(kid:Int)(st:St):(xN bx p rtl ns kid st).1=EW b p rtl ns kid:=by
 unfold xN EW
 split
 ·rfl
 ·dsimp only;rw [Ar hf]
theorem vR{bx:Bx}{b:Bv}(hf:F8 bx b)(p:Pl)(rtl:Bool)(ns:List af):∀(ks:List Int)(st:St),(k9 bx p rtl ns ks st).1=xu b p rtl ns ks
 | [],_=>rfl
 |k::r,st=>by
  simp only [k9,xu,zqA]
  rw [EV hf,vR hf p rtl ns r];rfl
theorem va{bx:Bx}{b:Bv}(hf:F8 bx b)(p:Pl)(rtl:Bool)(ns:List af):∀(ks:List (Int×Int))(st:St),(s8 bx p rtl ns ks st).1=AG b p rtl ns ks
 | [],_=>rfl
 |(k,z)::r,st=>by
  simp only [s8,AG,zqA]
  rw [Ar hf,va hf p rtl ns r];rfl
theorem Es{bx:Bx}(hf:F8 bx b)(p:Pl)(rtl:Bool)(ns:List af)(st:St):(Et bx p rtl ns st).1=Jk b p rtl ns:=by
 simp only [Et,Jk]
 rw [vR hf,va hf]
theorem D9{bx:Bx}(hf:F8 bx b)(ns:List af)(rtl:Bool):F8 (yw bx ns rtl) (Ib b ns rtl):=fun k w h st=>by
 unfold yw Ib
 split
 ·rfl
 ·split
  ·rfl
  ·exact Es hf ..
theorem wv(ns:List af)(rtl:Bool):∀f:Nat,F8 (uI false ns rtl f) (tX ns rtl f)
 |0=>fun _ _ _ _=>rfl
 |f+1=>fun k w h st=>by
  have:=D9 (wv ns rtl f) ns rtl k w h st
  simpa [uI,tX,kpF]using this
end Go.Proofs.YtkicjdeddpihaaaGreat
