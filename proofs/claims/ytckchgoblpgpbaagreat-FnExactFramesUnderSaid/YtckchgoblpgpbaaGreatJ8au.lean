/- Valid trees, as the reference tells them. -/
import Derived.Shelf.GgSortMore.Stable
import Derived.Below
import Derived.Test.YtckchgoblpgpbaaGreatJ8at
set_option linter.unusedVariables false
set_option linter.unusedSimpArgs false
set_option maxHeartbeats 16000000
namespace Go.Proofs.YtckchgoblpgpbaaGreat
open Go.ChangeShapes Go.WideShapes Go.ChangeAt Go.RowKit Am Go.Proofs.Tryz
set_option maxRecDepth 100000
theorem tX(x:jW)(hs:x.small):PC0 119 [.agg x.ac] (.t (.agg x.ac)):=by
 obtain⟨a0⟩:=x
 obtain⟨hh,-⟩:=hs
 show PC0 _ [.agg [.view (vw aC.c a0)]] (.t (.agg [.view (vw aC.c a0)]))
 have c0:=Eu (np a0 hh)
 obtain⟨he,ha⟩:=nmE (vw aC.c a0)
 have hf:=lmV ha
 have hb:=imV ha
 have hd:=kmV (k:=3) ha fun _=>rfl
 have hc:=dmV ha
 rw [<-ha]at c0
 rw [<-ha]
 refine aV func119 fun g F hg hF=> ?_
 cbv
 repeat'(refine bH hg c0 (bn rfl) hb ?_;cbv)
 exact vg [.agg [.view he]] hF (.agg (by repeat'(first|exact .nil|refine .cons ?_ ?_|exact .imm _|exact .view _|exact aX (ab:=⟨_,_,he⟩) rfl hd hc)) .nil) ⟨rfl,rfl⟩
theorem ud(x:jW)(hs:x.small):PC0 137 [.agg x.ac,.agg x.ac] (.t (abl true)):=by
 obtain⟨a0⟩:=x
 obtain⟨hc,-⟩:=hs
 show PC0 _ [.agg [.view (vw aC.c a0)],.agg [.view (vw aC.c a0)]] (.t (abl true))
 have c0:=ug a0 a0 hc
 rw [zqu rfl]at c0
 obtain⟨hd,ha⟩:=nmE (vw aC.c a0)
 have hb:=lmV ha
 rw [<-ha]at c0
 rw [<-ha]
 refine aV func137 fun g F hg hF=> ?_
 cbv
 have q:∀a:Int,g .q .neq a a=false:=fun a=>by rw [bC hg];simp
 have qb:∀a:Bool,g .qb .neq a a=false:=fun a=>by rw [gk hg];simp
 repeat'(refine ad hg c0 ?_;cbv)
 exact bm hF rfl
theorem ua(x:jW)(L:Int)(hf:x.fit)(h0:0<=L)(h1:L<=1048576):bS prog 102 [.agg x.ac,ai L] fun res ha=>∃R:Int,res= .i R/\ha=[]/\(R<=L\/R<0)/\(0<=R->x.small):=by
 obtain⟨a0⟩:=x
 obtain⟨hj,-⟩:=hf
 show bS _ _ [.agg [.view (vw aC.c a0)],ai L] (fun res ha=>∃R:Int,res= .i R/\ha=[]/\(R<=L\/R<0)/\(0<=R->jW.small ⟨a0⟩))
 have c0:=fun(M:Int)(h0:0<=M)(h1:M<=1048576)=>szZ (ub (vw aC.c a0) M (by rw [ar];exact hj) h0 h1)
 obtain⟨hd,hb⟩:=nmE (vw aC.c a0)
 have hc:=lmV hb
 have hh:∀(M:Int),0<=M->M<=1048576->bS _ _ [.c (.view hd),ai M] (fun res ha=>∃R:Int,res= .i R/\ha=[]/\(R<=M\/R<0)/\(0<=R->((hd.length:Nat):Int)<=M)):=fun M h0 h1=>by have:=c0 M h0 h1;rw [<-hb]at this;exact this
 rw [<-hb]
 refine aV func102 fun g F hg hF=> ?_
 cbv
 refine DY hg (hh L h0 h1) rfl (fun R0 he=> ?_)
 obtain⟨he,hi⟩:=he
 cbv
 cases e0:g .q .lss R0 0
 case true=>
  cbv
  exact En hF ⟨.inr (by decide),fun h=>absurd h (by decide)⟩
 rw [ba hg,zqo]at e0
 have p0:0<=R0:=by omega
 have r0:R0<=1048576:=by omega
 cbv
 exact En hF ⟨.inl (by omega),fun _=>⟨Ai hc (hi p0) h1,zpt⟩⟩
theorem wx(x:ae)(hs:x.small):PC0 80 [.agg x.ac] (.t (.agg x.ac)):=by
 obtain⟨a0,a1,a2,hi,⟨hc⟩⟩:=x
 obtain⟨hq,hn,-⟩:=hs
 show PC0 _ [.agg (List.append [.J a0,.view (vw ak a1)] (List.append (lc (ah.c a2)) [.B hi,.view (vw aC.c hc)]))] (.t (.agg (List.append [.J a0,.view (vw ak a1)] (List.append (lc (ah.c a2)) [.B hi,.view (vw aC.c hc)]))))
 have c1:=Eu (oC a1 hq)
 have hj:PC0 119 [.agg [.view (vw aC.c hc)]] (.t (.agg [.view (vw aC.c hc)])):=tX ⟨hc⟩ ⟨hn,zpt⟩
 obtain⟨ho,hb⟩:=nmE (vw ak a1)
 have hp:=lmV hb
 have hf:=imV hb
 have hm:=kmV (k:=1) hb fun _=>rfl
 have hk:=dmV hb
 obtain⟨hd,ha⟩:=nmE (vw aC.c hc)
 have hl:=lmV ha
 have hh:=kmV (k:=3) ha fun _=>rfl
 have he:=dmV ha
 rw [<-hb]at c1
 rw [<-ha]at hj
 rw [<-hb,<-ha]
 refine aV func80 fun g F hg hF=> ?_
 cbv
 repeat'((first|refine bH hg c1 (bn rfl) hf ?_|refine fV hg (jx (a2:ah)) rfl rfl ?_|refine ad hg hj ?_);cbv)
 exact vg [.agg (List.append [.J a0,.view ho] (List.append (lc (ah.c a2)) [.B hi,.view hd]))] hF (.agg (by repeat'(first|exact .nil|refine .cons ?_ ?_|exact .imm _|exact .view _|exact aX (ab:=⟨_,_,ho⟩) rfl hm hk|exact aX (ab:=⟨_,_,hd⟩) rfl hh he)) .nil) ⟨rfl,rfl⟩
theorem wD(x:ae)(hs:x.small):PC0 88 [.agg x.ac,.agg x.ac] (.t (abl true)):=by
 obtain⟨a0,a1,a2,hh,⟨hc⟩⟩:=x
 obtain⟨hk,hf,-⟩:=hs
 show PC0 _ [.agg (List.append [.J a0,.view (vw ak a1)] (List.append (lc (ah.c a2)) [.B hh,.view (vw aC.c hc)])),.agg (List.append [.J a0,.view (vw ak a1)] (List.append (lc (ah.c a2)) [.B hh,.view (vw aC.c hc)]))] (.t (abl true))
 have c1:=wE a1 a1 hk
 rw [zqu rfl]at c1
 have c2:PC0 136 [.agg (lc (ah.c a2)),.agg (lc (ah.c a2))] (.t (abl (decide ((a2:ah)=a2)))):=ue a2 a2
 rw [zqu rfl]at c2
 have hd:PC0 137 [.agg [.view (vw aC.c hc)],.agg [.view (vw aC.c hc)]] (.t (abl true)):=ud ⟨hc⟩ ⟨hf,zpt⟩
 obtain⟨hl,hb⟩:=nmE (vw ak a1)
 have hi:=lmV hb
 obtain⟨hj,ha⟩:=nmE (vw aC.c hc)
 have he:=lmV ha
 rw [<-hb]at c1
 rw [<-ha]at hd
 rw [<-hb,<-ha]
 refine aV func88 fun g F hg hF=> ?_
 cbv
 have q:∀a:Int,g .q .neq a a=false:=fun a=>by rw [bC hg];simp
 have qb:∀a:Bool,g .qb .neq a a=false:=fun a=>by rw [gk hg];simp
 repeat'((first|rw [q]|rw [qb]|refine ad hg c1 ?_|refine ad hg c2 ?_|refine ad hg hd ?_);cbv)
 exact bm hF rfl
theorem wz(x:ae)(L:Int)(hf:x.fit)(h0:0<=L)(h1:L<=1048576):bS prog 73 [.agg x.ac,ai L] fun res ha=>∃R:Int,res= .i R/\ha=[]/\(R<=L\/R<0)/\(0<=R->x.small):=by
 obtain⟨a0,a1,a2,hk,⟨hd⟩⟩:=x
 obtain⟨hs,hi,-⟩:=hf
 show bS _ _ [.agg (List.append [.J a0,.view (vw ak a1)] (List.append (lc (ah.c a2)) [.B hk,.view (vw aC.c hd)])),ai L] (fun res ha=>∃R:Int,res= .i R/\ha=[]/\(R<=L\/R<0)/\(0<=R->ae.small ⟨a0,a1,a2,hk,⟨hd⟩⟩))
 have c1:=fun(M:Int)(h0:0<=M)(h1:M<=1048576)=>szZ (wA (vw ak a1) M (by rw [ar];exact hs) h0 h1)
 have hl:∀(M:Int)(h0:0<=M)(h1:M<=1048576),bS prog 102 [.agg [.view (vw aC.c hd)],ai M] (fun res ha=>∃R:Int,res= .i R/\ha=[]/\(R<=M\/R<0)/\(0<=R->jW.small ⟨hd⟩)):=fun M h0 h1=>ua ⟨hd⟩ M ⟨hi,zpt⟩ h0 h1
 obtain⟨hj,hc⟩:=nmE (vw ak a1)
 have he:=lmV hc
 obtain⟨ho,hb⟩:=nmE (vw aC.c hd)
 have hh:=lmV hb
 have hp:∀(M:Int),0<=M->M<=1048576->bS _ _ [.c (.view hj),ai M] (fun res ha=>∃R:Int,res= .i R/\ha=[]/\(R<=M\/R<0)/\(0<=R->((hj.length:Nat):Int)<=M)):=fun M h0 h1=>by have:=c1 M h0 h1;rw [<-hc]at this;exact this
 simp only [<-hb]at hl
 rw [<-hc,<-hb]
 refine aV func73 fun g F hg hF=> ?_
 cbv
 refine DY hg (hp L h0 h1) rfl (fun R0 hm=> ?_)
 obtain⟨hm,hq⟩:=hm
 cbv
 cases e0:g .q .lss R0 0
 case true=>
  cbv
  exact En hF ⟨.inr (by decide),fun h=>absurd h (by decide)⟩
 rw [ba hg,zqo]at e0
 have p0:0<=R0:=by omega
 have r0:R0<=1048576:=by omega
 cbv
 refine DY hg (hl R0 p0 r0) rfl (fun R1 hn=> ?_)
 obtain⟨hn,hr⟩:=hn
 cbv
 cases e1:g .q .lss R1 0
 case true=>
  cbv
  exact En hF ⟨.inr (by decide),fun h=>absurd h (by decide)⟩
 rw [ba hg,zqo]at e1
 have p1:0<=R1:=by omega
 have r1:R1<=1048576:=by omega
 cbv
 exact En hF ⟨.inl (by omega),fun _=>⟨Ai he (hq p0) h1,(hr p1).1,zpt⟩⟩
theorem tZ(xs:List ae)(hl:xs.length<=1048576)(hs:∀y∈xs,y.small):PC0 51 [.c (.view (vwA ae.ac xs))] (.t (.c (.view (vwA ae.ac xs)))):=by
 obtain⟨V,hV⟩:=nmE (vwA ae.ac xs)
 have ho:V.length=xs.length:=by rw [hV,bu]
 have kV:∀y∈V,y.length=64:=by rw [hV];exact BQ ae.len
 have dV:∀y∈V,y.all dat=true:=by rw [hV];exact o3 ae.dat
 have hp:aN V=(xs.length:Int):=by rw [ao];omega
 have hu:aN V<=1048576:=by omega
 have ht:0<=aN V:=by omega
 rw [<-hV]
 refine aV func51 fun g F hg hF=> ?_
 cbv
 refine GI hg (by decide) (by rw [ho];exact hl) ?_
 cbv
 have hm:rj 64 V (List.replicate (g .ln V).toNat xq) 0:=rj.start (k:=64) (z:=xq) rfl rfl (bz hg V)
 refine bQ hg bq (by kernel_rfl) (fun s:Int×LLA=>[(0,.v V),(3,.o 0),(4,.i s.1)]) (fun s=>[.rw ⟨69,64,s.2⟩]) (fun s=>rj 64 V s.2 s.1) (fun s=>(aN V).toNat-s.1.toNat)
  (0,g .rp (g .ln V) xq) [some 0] ?_ (wkS [0] (by decide) ⟨⟨_,rfl,rfl,?_⟩,zpt⟩ zr3) (fun s B ha hB=> ?_)
 ·simp only [zy hg];exact hm
 ·simp only [zy hg];exact hm.pl
 ·obtain⟨z,es⟩:=s
  simp only at ha
  have h0:=ha.z0
  have h1:=ha.z1
  have hd:=ha.len
  cbv
  cases hc:g .q .lss z (g .ln V)
  ·cbv
   rw [ba hg,bz hg,zqo]at hc
   obtain rfl:=ha.done hc
   exact vg [.c (.view es)] hF (.c (aX (ab:=⟨_,_,es⟩) rfl kV dV) .nil) ⟨rfl,rfl⟩
  ·cbv
   rw [ba hg,bz hg,zqp]at hc
   obtain⟨x,hx⟩:=qM (xs:=xs) h0 (ii hp hc)
   have hq:=hs x (zqd hx)
   have he:V[z.toNat]? =some x.ac:=by rw [hV];exact iq hx
   have cx:=wx x hq
   obtain⟨a0,a1,a2,hh,⟨hf⟩⟩:=x
   replace he:V[z.toNat]? =some (List.append [.J a0,.view (vw ak a1)] (List.append (lc (ah.c a2)) [.B hh,.view (vw aC.c hf)])):=he
   replace cx:PC0 _ [.agg (List.append [.J a0,.view (vw ak a1)] (List.append (lc (ah.c a2)) [.B hh,.view (vw aC.c hf)]))] (.t (.agg (List.append [.J a0,.view (vw ak a1)] (List.append (lc (ah.c a2)) [.B hh,.view (vw aC.c hf)])))):=cx
   obtain⟨hr,hi⟩:=nmE (vw ak a1)
   obtain⟨hn,hb⟩:=nmE (vw aC.c hf)
   rw [<-hi,<-hb]at he cx
   refine goX hg _ h0 he rfl ?_
   cbv
   refine ad hg cx ?_
   cbv
   obtain⟨j,hj⟩:=nmE z.toNat
   refine KZ hg h0 hj (sj h0 (AY hd hc) hj) ?_
   cbv
   refine goN hg (ha.mem (sj h0 (AY hd hc) hj)) ?_
   cbv
   have h2:g .w .add .i64 z 1=z+1:=by rw [aG hg,aq _ (by omega)]
   rw [h2,jC hg]
   have hk:=ha.step hc hj he rfl rfl
   exact iE hB (z+1,_) [some 0] (wkS [0] (by decide) ⟨⟨_,rfl,rfl,hk.pl⟩,zpt⟩ zr3) hk (by show(aN V).toNat-(z+1).toNat<(aN V).toNat-z.toNat;omega)
theorem uh(xs:List ae)(hl:xs.length<=1048576)(hs:∀y∈xs,y.small):PC0 56 [.c (.view (vwA ae.ac xs)),.c (.view (vwA ae.ac xs))] (.t (abl true)):=by
 obtain⟨V,hV⟩:=nmE (vwA ae.ac xs)
 have hp:V.length=xs.length:=by rw [hV,bu]
 have hj:aN V=(xs.length:Int):=by rw [ao];omega
 have ho:aN V<=1048576:=by omega
 have hi:0<=aN V:=by omega
 rw [<-hV]
 refine aV func56 fun g F hg hF=> ?_
 cbv
 have q:∀a:Int,g .q .neq a a=false:=fun a=>by rw [bC hg];simp
 rw [q]
 cbv
 refine bQ hg bq (by kernel_rfl) (fun z:Int=>[(0,.v V),(1,.v V),(5,.i z)]) (fun _=>[]) (fun z=>0<=z/\z<=aN V) (fun z=>(aN V).toNat-z.toNat)
  0 [] ⟨zpc 0,hi⟩ (wk0 zr3) (fun z B hk hB=> ?_)
 obtain⟨h0,h1⟩:=hk
 cbv
 cases hc:g .q .lss z (g .ln V)
 ·cbv
  exact bm hF rfl
 ·rw [ba hg,bz hg,zqp]at hc
  cbv
  obtain⟨x,hx⟩:=qM (xs:=xs) h0 (ii hj hc)
  have hm:=hs x (zqd hx)
  have hb:V[z.toNat]? =some x.ac:=by rw [hV];exact iq hx
  have cx:=wD x hm
  obtain⟨a0,a1,a2,he,⟨hd⟩⟩:=x
  replace hb:V[z.toNat]? =some (List.append [.J a0,.view (vw ak a1)] (List.append (lc (ah.c a2)) [.B he,.view (vw aC.c hd)])):=hb
  replace cx:PC0 _ [.agg (List.append [.J a0,.view (vw ak a1)] (List.append (lc (ah.c a2)) [.B he,.view (vw aC.c hd)])),.agg (List.append [.J a0,.view (vw ak a1)] (List.append (lc (ah.c a2)) [.B he,.view (vw aC.c hd)]))] (.t (abl true)):=cx
  obtain⟨hn,hf⟩:=nmE (vw ak a1)
  obtain⟨hh,ha⟩:=nmE (vw aC.c hd)
  rw [<-hf,<-ha]at hb cx
  refine goX hg _ h0 hb rfl ?_
  cbv
  refine goX hg _ h0 hb rfl ?_
  cbv
  (refine aa hg cx ?_)
  cbv
  have h3:g .w .add .i64 z 1=z+1:=by rw [aG hg,aq _ (by omega)]
  rw [h3]
  exact iE hB (z+1) [] (wk0 zr3) ⟨by omega,by omega⟩ (by show(aN V).toNat-(z+1).toNat<(aN V).toNat-z.toNat;omega)
theorem uc(xs:List ae)(L:Int)(hl:xs.length<=9223372036854775807)(hf:∀y∈xs,y.fit)(h0L:0<=L)(h1L:L<=1048576):bS prog 46 [.c (.view (vwA ae.ac xs)),ai L] fun res ha=>∃R:Int,res= .i R/\ha=[]/\(R<=L\/R<0)/\(0<=R->xs.length<=1048576/\∀y∈xs,y.small):=by
 obtain⟨V,hV⟩:=nmE (vwA ae.ac xs)
 have hz:V.length=xs.length:=by rw [hV,bu]
 have hn:aN V=(xs.length:Int):=by rw [ao];omega
 have hw:aN V<=9223372036854775807:=by omega
 have hs:0<=aN V:=by omega
 have hu:aN V<=1048576->xs.length<=1048576:=by omega
 rw [<-hV]
 refine aV func46 fun g F hg hF=> ?_
 cbv
 obtain⟨D,hD⟩:=nmE (L-aN V)
 have e1:g .w .sub .i64 L (g .ln V)=D:=by rw [cu hg,bz hg,aq _ (by omega),hD]
 rw [e1]
 cases e:g .q .lss D 0
 case true=>
  cbv
  exact En hF ⟨.inr (by decide),fun h=>absurd h (by decide)⟩
 rw [ba hg,zqo]at e
 have hk:=hu (by omega)
 cbv
 refine bQ hg bq (by kernel_rfl) (fun s:Int×Int=>[(0,.v V),(1,.i s.2),(5,.i s.1)]) (fun _=>[]) (fun s=>0<=s.1/\s.1<=aN V/\0<=s.2/\s.2<=L/\∀(i:Nat)(y:ae),i<s.1.toNat->xs[i]? =some y->y.small) (fun s=>(aN V).toNat-s.1.toNat)
  (0,D) [] ⟨zpc 0,hs,by simp only;omega,by simp only;omega,fun i y hi=>by simp at hi⟩ (wk0 zr3) (fun s B ht hB=> ?_)
 obtain⟨z,M⟩:=s
 obtain⟨h0,h1,h2,h3,h4⟩:=ht
 simp only at h0 h1 h2 h3 h4
 cbv
 cases hc:g .q .lss z (g .ln V)
 ·rw [ba hg,bz hg,zqo]at hc
  cbv
  exact En hF ⟨.inl h3,fun _=>⟨hk,ri hn (by omega) h4⟩⟩
 ·rw [ba hg,bz hg,zqp]at hc
  cbv
  obtain⟨x,hx⟩:=qM (xs:=xs) h0 (ii hn hc)
  have ho:=hf x (zqd hx)
  have hd:V[z.toNat]? =some x.ac:=by rw [hV];exact iq hx
  have cx:=wz x M ho h2 (by omega)
  obtain⟨Sm,hh⟩:∃Sm:Prop,Sm=x.small:=⟨_,rfl⟩
  rw [<-hh]at cx
  have hr:Sm->∀y,xs[z.toNat]? =some y->y.small:=fun h y hy=>by rw [hx]at hy;cases hy;rw [<-hh];exact h
  clear hh ho hx
  obtain⟨a0,a1,a2,hm,⟨he⟩⟩:=x
  replace hd:V[z.toNat]? =some (List.append [.J a0,.view (vw ak a1)] (List.append (lc (ah.c a2)) [.B hm,.view (vw aC.c he)])):=hd
  replace cx:bS _ _ [.agg (List.append [.J a0,.view (vw ak a1)] (List.append (lc (ah.c a2)) [.B hm,.view (vw aC.c he)])),ai M] (fun res ha=>∃R:Int,res= .i R/\ha=[]/\(R<=M\/R<0)/\(0<=R->Sm)):=cx
  obtain⟨hv,hj⟩:=nmE (vw ak a1)
  obtain⟨hp,hb⟩:=nmE (vw aC.c he)
  rw [<-hj,<-hb]at hd cx
  refine goX hg _ h0 hd rfl ?_
  cbv
  refine DY hg cx rfl (fun R hR=> ?_)
  obtain⟨hR,hq⟩:=hR
  cbv
  cases e5:g .q .lss R 0
  case true=>
   cbv
   exact En hF ⟨.inr (by decide),fun h=>absurd h (by decide)⟩
  rw [ba hg,zqo]at e5
  have pR:0<=R:=by omega
  cbv
  have h6:g .w .add .i64 z 1=z+1:=by rw [aG hg,aq _ (by omega)]
  rw [h6]
  refine iE hB (z+1,R) [] (wk0 zr3) ⟨by simp only;omega,by simp only;omega,pR,by simp only;omega,fun i y hi hy=> ?_⟩ (by show(aN V).toNat-(z+1).toNat<(aN V).toNat-z.toNat;omega)
  by_cases hi2:i<z.toNat
  ·exact h4 i y hi2 hy
  ·have:i=z.toNat:=by simp only at hi;omega
   subst this
   exact hr (hq pR) y hy
theorem wu(x:i8)(hs:x.small):PC0 17 [.agg x.ac] (.t (.agg x.ac)):=by
 obtain⟨a0⟩:=x
 obtain⟨hh,hi,-⟩:=hs
 show PC0 _ [.agg [.view (vwA ae.ac a0)]] (.t (.agg [.view (vwA ae.ac a0)]))
 have c0:=tZ a0 hh hi
 obtain⟨hb,ha⟩:=nmE (vwA ae.ac a0)
 have he:hb.length=a0.length:=by rw [ha,bu]
 have hf:ay hb=true:=by rw [ha];exact lA ae.plain _
 have hd:∀y∈hb,y.length=64:=by rw [ha];exact BQ ae.len
 have hc:∀y∈hb,y.all dat=true:=by rw [ha];exact o3 ae.dat
 rw [<-ha]at c0
 rw [<-ha]
 refine aV func17 fun g F hg hF=> ?_
 cbv
 repeat'(refine ad hg c0 ?_;cbv)
 exact vg [.agg [.view hb]] hF (.agg (by repeat'(first|exact .nil|refine .cons ?_ ?_|exact .imm _|exact .view _|exact aX (ab:=⟨_,_,hb⟩) rfl hd hc)) .nil) ⟨rfl,rfl⟩
theorem wB(x:i8)(hs:x.small):PC0 20 [.agg x.ac,.agg x.ac] (.t (abl true)):=by
 obtain⟨a0⟩:=x
 obtain⟨hh,hi,-⟩:=hs
 show PC0 _ [.agg [.view (vwA ae.ac a0)],.agg [.view (vwA ae.ac a0)]] (.t (abl true))
 have c0:=uh a0 hh hi
 obtain⟨hb,ha⟩:=nmE (vwA ae.ac a0)
 have hc:hb.length=a0.length:=by rw [ha,bu]
 have hf:ay hb=true:=by rw [ha];exact lA ae.plain _
 have he:∀y∈hb,y.length=64:=by rw [ha];exact BQ ae.len
 have hd:∀y∈hb,y.all dat=true:=by rw [ha];exact o3 ae.dat
 rw [<-ha]at c0
 rw [<-ha]
 refine aV func20 fun g F hg hF=> ?_
 cbv
 have q:∀a:Int,g .q .neq a a=false:=fun a=>by rw [bC hg];simp
 have qb:∀a:Bool,g .qb .neq a a=false:=fun a=>by rw [gk hg];simp
 repeat'(refine ad hg c0 ?_;cbv)
 exact bm hF rfl
theorem wy(x:i8)(L:Int)(hf:x.fit)(h0:0<=L)(h1:L<=1048576):bS prog 15 [.agg x.ac,ai L] fun res hb=>∃R:Int,res= .i R/\hb=[]/\(R<=L\/R<0)/\(0<=R->x.small):=by
 obtain⟨a0⟩:=x
 obtain⟨hl,hm,-⟩:=hf
 show bS _ _ [.agg [.view (vwA ae.ac a0)],ai L] (fun res hb=>∃R:Int,res= .i R/\hb=[]/\(R<=L\/R<0)/\(0<=R->i8.small ⟨a0⟩))
 have c0:=fun(M:Int)(h0:0<=M)(h1:M<=1048576)=>uc a0 M hl hm h0 h1
 obtain⟨hc,ha⟩:=nmE (vwA ae.ac a0)
 have hh:hc.length=a0.length:=by rw [ha,bu]
 have hk:ay hc=true:=by rw [ha];exact lA ae.plain _
 have hj:∀y∈hc,y.length=64:=by rw [ha];exact BQ ae.len
 have hi:∀y∈hc,y.all dat=true:=by rw [ha];exact o3 ae.dat
 simp only [<-ha]at c0
 rw [<-ha]
 refine aV func15 fun g F hg hF=> ?_
 cbv
 refine DY hg (c0 L h0 h1) rfl (fun R0 he=> ?_)
 obtain⟨he,hd⟩:=he
 cbv
 cases e0:g .q .lss R0 0
 case true=>
  cbv
  exact En hF ⟨.inr (by decide),fun h=>absurd h (by decide)⟩
 rw [ba hg,zqo]at e0
 have p0:0<=R0:=by omega
 have r0:R0<=1048576:=by omega
 cbv
 exact En hF ⟨.inl (by omega),fun _=>⟨(hd p0).1,(hd p0).2,zpt⟩⟩
def rng(n l m:Int):Bool:=decide (l<=n)&&decide (n<=m)
def vOk(v:ir):Bool:=if v.kind=0\/v.kind=3 then decide (v.n=0)else if v.kind=1 then rng v.n (-1048576) 1048576 else if v.kind=2 then rng v.n (-1000) 1000 else false
def zOk(v:ir):Bool:=vOk v&&decide (0<=v.n)
def Gi(s:bI):Bool:=vOk s.left&&(vOk s.top&&(vOk s.right&&(vOk s.bottom&&(vOk s.start&&vOk s.fin))))
def GN(e:dr):Bool:=rng e.left 0 1048576&&(rng e.top 0 1048576&&(rng e.right 0 1048576&&rng e.bottom 0 1048576))
def stV(s:ah):List ir:=[s.basis,s.width,s.height,s.minWidth,s.minHeight,s.maxWidth,s.maxHeight]
def stN(s:ah):Bool:=rng s.dir 1 4&&(rng s.wrap 1 3&&(rng s.justify 1 6&&(rng s.items 1 5&&(rng s.self 0 5&&(rng s.content 1 6&&(rng s.order (-1000) 1000&&(rng s.grow 0 1000&&(rng s.shrink 0 1000&&(rng s.ratio 0 6400&&(rng s.rowGap 0 1048576&&rng s.colGap 0 1048576))))))))))
def CM(s:ah):Bool:=stN s&&((stV s).all zOk&&(Gi s.margin&&(Gi s.inset&&(GN s.pad&&GN s.border))))
theorem bi(n l m:Int):PC0 39 [ai n,ai l,ai m] (.t (abl (rng n l m))):=db n l m
theorem bT(n l m:Int):PC0 68 [ai n,ai l,ai m] (.t (abl (rng n l m))):=eD n l m
theorem gF(k n:Int):PC0 95 [.agg [.J k,.J n]] (.t (abl (vOk ⟨k,n⟩))):=by
 refine aV func95 fun g F hg hF=> ?_
 cbv
 repeat'(first|(refine bA hg (bi _ _ _) rfl (fun R0 ha=> ?_);cases R0<;>cbv)|(split<;>rename_i hh<;>(try rw [hh])<;>(try simp only [di hg]at hh)<;>cbv))
 all_goals exact bm hF (by(try simp only [bj hg]);simp only [vOk];grind)
theorem gO(k n:Int):PC0 140 [.agg [.J k,.J n]] (.t (abl (vOk ⟨k,n⟩))):=by
 refine aV func140 fun g F hg hF=> ?_
 cbv
 repeat'(first|(refine bA hg (bT _ _ _) rfl (fun R0 ha=> ?_);cases R0<;>cbv)|(split<;>rename_i hh<;>(try rw [hh])<;>(try simp only [di hg]at hh)<;>cbv))
 all_goals exact bm hF (by(try simp only [bj hg]);simp only [vOk];grind)
theorem nk(k n:Int):PC0 64 [.agg [.J k,.J n]] (.t (abl (zOk ⟨k,n⟩))):=by
 refine aV func64 fun g F hg hF=> ?_
 cbv
 repeat'(first|(refine bA hg (gF _ _) rfl (fun R0 ha=> ?_);cases R0<;>cbv)|(split<;>rename_i hh<;>(try rw [hh])<;>(try simp only [di hg]at hh)<;>cbv))
 all_goals exact bm hF (by(try simp only [i6 hg]);simp only [zOk];grind)
theorem wJ(k n:Int):PC0 96 [.agg [.J k,.J n]] (.t (abl (zOk ⟨k,n⟩))):=by
 refine aV func96 fun g F hg hF=> ?_
 cbv
 repeat'(first|(refine bA hg (gO _ _) rfl (fun R0 ha=> ?_);cases R0<;>cbv)|(split<;>rename_i hh<;>(try rw [hh])<;>(try simp only [di hg]at hh)<;>cbv))
 all_goals exact bm hF (by(try simp only [i6 hg]);simp only [zOk];grind)
theorem gG(s:bI):PC0 65 [.agg (lc (bI.c s))] (.t (abl (Gi s))):=by
 obtain⟨⟨a0,a1⟩,⟨a2,a3⟩,⟨a4,a5⟩,⟨a6,a7⟩,⟨a8,a9⟩,⟨hb,hc⟩⟩:=s
 refine aV func65 fun g F hg hF=> ?_
 cbv
 repeat'(first|(refine bA hg (gF _ _) rfl (fun R0 ha=> ?_);cases R0<;>cbv)|(split<;>rename_i hh<;>(try rw [hh])<;>(try simp only [di hg]at hh)<;>cbv))
 all_goals exact bm hF (by simp only [Gi];simp_all)
theorem gP(s:bI):PC0 97 [.agg (lc (bI.c s))] (.t (abl (Gi s))):=by
 obtain⟨⟨a0,a1⟩,⟨a2,a3⟩,⟨a4,a5⟩,⟨a6,a7⟩,⟨a8,a9⟩,⟨hb,hc⟩⟩:=s
 refine aV func97 fun g F hg hF=> ?_
 cbv
 repeat'(first|(refine bA hg (gO _ _) rfl (fun R0 ha=> ?_);cases R0<;>cbv)|(split<;>rename_i hh<;>(try rw [hh])<;>(try simp only [di hg]at hh)<;>cbv))
 all_goals exact bm hF (by simp only [Gi];simp_all)
theorem gJ(s:dr):PC0 66 [.agg (lc (dr.c s))] (.t (abl (GN s))):=by
 obtain⟨a0,a1,a2,a3⟩:=s
 refine aV func66 fun g F hg hF=> ?_
 cbv
 repeat'(first|(refine bA hg (bi _ _ _) rfl (fun R0 ha=> ?_);cases R0<;>cbv)|(split<;>rename_i hh<;>(try rw [hh])<;>(try simp only [di hg]at hh)<;>cbv))
 all_goals exact bm hF (by simp only [GN];simp_all)
theorem gQ(s:dr):PC0 98 [.agg (lc (dr.c s))] (.t (abl (GN s))):=by
 obtain⟨a0,a1,a2,a3⟩:=s
 refine aV func98 fun g F hg hF=> ?_
 cbv
 repeat'(first|(refine bA hg (bT _ _ _) rfl (fun R0 ha=> ?_);cases R0<;>cbv)|(split<;>rename_i hh<;>(try rw [hh])<;>(try simp only [di hg]at hh)<;>cbv))
 all_goals exact bm hF (by simp only [GN];simp_all)
theorem tF(s:ah):PC0 35 [.agg (lc (ah.c s))] (.t (abl (CM s))):=by
 obtain⟨a0,a1,a2,a3,a4,a5,a6,a7,a8,a9,hK,⟨hL,hM⟩,⟨hN,hO⟩,⟨hP,hQ⟩,⟨hR,hS⟩,⟨hT,hU⟩,⟨hV,hW⟩,⟨hX,hY⟩,hZ,⟨⟨hb,hc⟩,⟨hd,he⟩,⟨hf,hi⟩,⟨hj,hk⟩,⟨hl,hm⟩,⟨hn,ho⟩⟩,⟨⟨hp,hq⟩,⟨hr,hs⟩,⟨ht,hu⟩,⟨hv,hw⟩,⟨hx,hy⟩,⟨hz,hA⟩⟩,⟨hB,hC,hD,hE⟩,⟨hG,hH,hI,hJ⟩,h0,h1⟩:=s
 refine aV func35 fun g F hg hF=> ?_
 cbv
 repeat'(first|(refine bA hg (bi _ _ _) rfl (fun R0 ha=> ?_);cases R0<;>cbv)|(refine bA hg (nk _ _) rfl (fun R0 ha=> ?_);cases R0<;>cbv)|(refine bA hg (gG (⟨⟨hb,hc⟩,⟨hd,he⟩,⟨hf,hi⟩,⟨hj,hk⟩,⟨hl,hm⟩,⟨hn,ho⟩⟩:bI)) rfl (fun R0 ha=> ?_);cases R0<;>cbv)|(refine bA hg (gG (⟨⟨hp,hq⟩,⟨hr,hs⟩,⟨ht,hu⟩,⟨hv,hw⟩,⟨hx,hy⟩,⟨hz,hA⟩⟩:bI)) rfl (fun R0 ha=> ?_);cases R0<;>cbv)|(refine bA hg (gJ (⟨hB,hC,hD,hE⟩:dr)) rfl (fun R0 ha=> ?_);cases R0<;>cbv)|(refine bA hg (gJ (⟨hG,hH,hI,hJ⟩:dr)) rfl (fun R0 ha=> ?_);cases R0<;>cbv)|(split<;>rename_i hh<;>(try rw [hh])<;>(try simp only [di hg]at hh)<;>cbv))
 all_goals exact bm hF (by clear hF;simp only [CM,stN,stV,zqD,List.all_nil];simp_all)
theorem HG{a b z:Int}(h:a=b)(hz:z<a):z<b:=h▸hz
variable {xs:List ir}
theorem JU{z M:Int}(hM:M=(xs.length:Int))(hz:M<=z)(h:∀(i:Nat)(v:ir),i<z.toNat->xs[i]? =some v->zOk v=true):xs.all zOk=true:=by
 rw [zqf]
 exact ri hM hz h
theorem JV{i:Nat}{v:ir}(h:xs[i]? =some v)(hv:zOk v=false):xs.all zOk=false:=by
 rw [List.all_eq_false]
 exact⟨v,zqd h,by rw [hv];decide⟩
theorem um(s:ah):PC0 67 [.agg (lc (ah.c s))] (.t (abl (CM s))):=by
 obtain⟨W,hW⟩:=nmE (stV s)
 have xg:(7:Int)=(W.length:Int):=by rw [hW];rfl
 obtain⟨V,hV⟩:=nmE (vw ir.c W)
 have pV:=pmV hV
 have xf:aN V=7:=by rw [ao,hV,ar,<-xg]
 obtain⟨a0,a1,a2,a3,a4,a5,a6,a7,a8,a9,xb,⟨hS,hT⟩,⟨hU,hX⟩,⟨hY,hZ⟩,⟨h3,h4⟩,⟨h5,h6⟩,⟨h7,h8⟩,⟨h9,xa⟩,xc,⟨⟨hb,hd⟩,⟨he,hf⟩,⟨hh,hk⟩,⟨hl,hm⟩,⟨hn,ho⟩,⟨hp,hq⟩⟩,⟨⟨hr,ht⟩,⟨hu,hw⟩,⟨hy,hz⟩,⟨hA,hC⟩,⟨hD,hE⟩,⟨hG,hH⟩⟩,⟨hI,hJ,hK,hL⟩,⟨hM,hO,hP,hQ⟩,xd,xe⟩:=s
 have xj:V=[[.J hS,.J hT],[.J hU,.J hX],[.J hY,.J hZ],[.J h3,.J h4],[.J h5,.J h6],[.J h7,.J h8],[.J h9,.J xa]]:=by rw [hV,hW];rfl
 refine aV func67 fun g F hg hF=> ?_
 cbv
 repeat'(first|(refine bA hg (bT _ _ _) rfl (fun R0 ha=> ?_);cases R0<;>cbv))
 all_goals(try exact bm hF (by clear hF;simp only [CM,stN];simp_all))
 have hN:stN ⟨a0,a1,a2,a3,a4,a5,a6,a7,a8,a9,xb,⟨hS,hT⟩,⟨hU,hX⟩,⟨hY,hZ⟩,⟨h3,h4⟩,⟨h5,h6⟩,⟨h7,h8⟩,⟨h9,xa⟩,xc,⟨⟨hb,hd⟩,⟨he,hf⟩,⟨hh,hk⟩,⟨hl,hm⟩,⟨hn,ho⟩,⟨hp,hq⟩⟩,⟨⟨hr,ht⟩,⟨hu,hw⟩,⟨hy,hz⟩,⟨hA,hC⟩,⟨hD,hE⟩,⟨hG,hH⟩⟩,⟨hI,hJ,hK,hL⟩,⟨hM,hO,hP,hQ⟩,xd,xe⟩=true:=by clear hF;simp only [stN];simp_all
 have xh:CM ⟨a0,a1,a2,a3,a4,a5,a6,a7,a8,a9,xb,⟨hS,hT⟩,⟨hU,hX⟩,⟨hY,hZ⟩,⟨h3,h4⟩,⟨h5,h6⟩,⟨h7,h8⟩,⟨h9,xa⟩,xc,⟨⟨hb,hd⟩,⟨he,hf⟩,⟨hh,hk⟩,⟨hl,hm⟩,⟨hn,ho⟩,⟨hp,hq⟩⟩,⟨⟨hr,ht⟩,⟨hu,hw⟩,⟨hy,hz⟩,⟨hA,hC⟩,⟨hD,hE⟩,⟨hG,hH⟩⟩,⟨hI,hJ,hK,hL⟩,⟨hM,hO,hP,hQ⟩,xd,xe⟩=(W.all zOk&&(Gi ⟨⟨hb,hd⟩,⟨he,hf⟩,⟨hh,hk⟩,⟨hl,hm⟩,⟨hn,ho⟩,⟨hp,hq⟩⟩&&(Gi ⟨⟨hr,ht⟩,⟨hu,hw⟩,⟨hy,hz⟩,⟨hA,hC⟩,⟨hD,hE⟩,⟨hG,hH⟩⟩&&(GN ⟨hI,hJ,hK,hL⟩&&GN ⟨hM,hO,hP,hQ⟩)))):=by rw [CM,hN,hW];rfl
 rw [xh]at hF
 clear hN xh
 rw [<-xj]
 refine bQ hg bq (by kernel_rfl) (fun z:Int=>[(1,.p 0),(87,.o 1),(88,.i (g .ln V)),(89,.i z)]) (fun _=>[.bx 36 60 (lc (ah.c ⟨a0,a1,a2,a3,a4,a5,a6,a7,a8,a9,xb,⟨hS,hT⟩,⟨hU,hX⟩,⟨hY,hZ⟩,⟨h3,h4⟩,⟨h5,h6⟩,⟨h7,h8⟩,⟨h9,xa⟩,xc,⟨⟨hb,hd⟩,⟨he,hf⟩,⟨hh,hk⟩,⟨hl,hm⟩,⟨hn,ho⟩,⟨hp,hq⟩⟩,⟨⟨hr,ht⟩,⟨hu,hw⟩,⟨hy,hz⟩,⟨hA,hC⟩,⟨hD,hE⟩,⟨hG,hH⟩⟩,⟨hI,hJ,hK,hL⟩,⟨hM,hO,hP,hQ⟩,xd,xe⟩)),.rw ⟨30,2,V⟩]) (fun z=>0<=z/\z<=7/\∀(i:Nat)(v:ir),i<z.toNat->W[i]? =some v->zOk v=true) (fun z=>(7:Int).toNat-z.toNat)
  0 [some 0,some 1] ⟨zpc 0,by omega,fun i v hi=>by simp at hi⟩ (wkS [0,1] (by decide) ⟨⟨_,rfl,rfl,rfl⟩,⟨_,rfl,rfl,pV⟩,zpt⟩ zr4) (fun z B hs hB=> ?_)
 obtain⟨h0,h1,h2⟩:=hs
 cbv
 cases hc:g .q .lss z (g .ln V)
 ·rw [ba hg,bz hg,xf,zqo]at hc
  have xk:=JU xg (by omega) h2
  cbv
  repeat'(first|(refine bA hg (gP (⟨⟨hb,hd⟩,⟨he,hf⟩,⟨hh,hk⟩,⟨hl,hm⟩,⟨hn,ho⟩,⟨hp,hq⟩⟩:bI)) rfl (fun R0 ha=> ?_);cases R0<;>cbv)|(refine bA hg (gP (⟨⟨hr,ht⟩,⟨hu,hw⟩,⟨hy,hz⟩,⟨hA,hC⟩,⟨hD,hE⟩,⟨hG,hH⟩⟩:bI)) rfl (fun R0 ha=> ?_);cases R0<;>cbv)|(refine bA hg (gQ (⟨hI,hJ,hK,hL⟩:dr)) rfl (fun R0 ha=> ?_);cases R0<;>cbv)|(refine bA hg (gQ (⟨hM,hO,hP,hQ⟩:dr)) rfl (fun R0 ha=> ?_);cases R0<;>cbv))
  all_goals exact bm hF (by clear hF;simp_all)
 ·rw [ba hg,bz hg,xf,zqp]at hc
  cbv
  obtain⟨x,hx⟩:=qM (xs:=W) h0 (HG xg hc)
  have xi:V[z.toNat]? =some (lc (ir.c x)):=by rw [hV];exact aZ hx
  obtain⟨j,hj⟩:=nmE z.toNat
  obtain⟨x0,x1⟩:=x
  refine KZ hg h0 hj (sj h0 (by rw [xf];exact hc) hj) ?_
  cbv
  rw [<-hj]at xi
  refine⟨_,xi,?_⟩
  cbv
  refine bA hg (wJ x0 x1) rfl (fun R hR=> ?_)
  cases R
  ·cbv
   exact bm hF (by rw [JV hx hR.symm];rfl)
  ·cbv
   have e1:g .w .add .i64 z 1=z+1:=by rw [aG hg,aq _ (by omega)]
   rw [e1]
   refine iE hB (z+1) [some 0,some 1] (wkS [0,1] (by decide) ⟨⟨_,rfl,rfl,rfl⟩,⟨_,rfl,rfl,pV⟩,zpt⟩ zr4) ⟨by omega,by omega,fun i v hi hv=> ?_⟩ (by omega)
   by_cases hi2:i<z.toNat
   ·exact h2 i v hi2 hv
   ·rw [show i=z.toNat by omega,hx]at hv
    cases hv
    exact hR.symm
def vX(r:aC):Bool:=rng r.room (-1) 1048576&&(rng r.wide 0 1048576&&rng r.high 0 1048576)
def Hf(rs:List aC):Bool:=rng (rs.length:Int) 1 6&&rs.all vX
theorem IU{xs:List aC}{z M:Int}(hM:M=(xs.length:Int))(hz:M<=z)(h:∀(i:Nat)(v:aC),i<z.toNat->xs[i]? =some v->vX v=true):xs.all vX=true:=by
 rw [zqf]
 exact ri hM hz h
theorem IV{xs:List aC}{i:Nat}{v:aC}(h:xs[i]? =some v)(hv:vX v=false):xs.all vX=false:=by
 rw [List.all_eq_false]
 exact⟨v,zqd h,by rw [hv];decide⟩
def isN(ns:List ae)(n:Int):Bool:=rng n 1 (ns.length:Int)
def upN(ns:List ae)(n:Int):Int:=match ns[(n-1).toNat]? with|some x=>x.up|none=>0
def vk(ns:List ae):Nat->Int->Int->Int
 |0,k,n=>if n=0 then k else 0
 |f+1,k,n=>if n=0 then k else if isN ns n=true then vk ns f (k+1) (upN ns n)else 0
def qg(ns:List ae)(n:Int):Int:=vk ns ns.length 0 n
theorem mX(ns:List ae)(f:Nat)(k:Int):vk ns f k 0=k:=by cases f<;>simp [vk]
theorem w8(ns:List ae)(f:Nat)(k n:Int)(h0:n≠0)(h:isN ns n=false):vk ns f k n=0:=by cases f<;>simp [vk,h0,h]
theorem kN(ns:List ae){f:Nat}{k n:Int}(h0:n≠0)(h:isN ns n=true):vk ns (f+1) k n=vk ns f (k+1) (upN ns n):=by simp [vk,h0,h]
theorem zI(ns:List ae){k n:Int}(h0:n≠0):vk ns 0 k n=0:=by simp [vk,h0]
variable {ns:List ae}
theorem bd{n:Int}(h:isN ns n=true):1<=n/\n<=(ns.length:Int)/\∃x,ns[(n-1).toNat]? =some x:=by
 simp only [isN,rng,zqs,zqp]at h
 exact⟨h.1,h.2,ns[(n-1).toNat]'(by omega),zqc _⟩
theorem xy{n:Int}{x:ae}(h:ns[(n-1).toNat]? =some x):upN ns n=x.up:=by unfold upN;rw [h]
theorem Bt{M d:Int}{L:Nat}(hM:M=(L:Int))(h0:0<=d)(h1:d<M):L-d.toNat=(L-(d+1).toNat)+1:=by omega
theorem yr{M d:Int}{L:Nat}(hM:M=(L:Int))(h:d=M):L-d.toNat=0:=by omega
def cnt(xs:List Int)(n:Int):Int:=(xs.map fun k=>if k=n then 1 else 0).sum
theorem gW(V:LLA)(n:Int):PC0 36 [.agg [.view V],ai n] (.t (abl (rng n 1 (aN V)))):=by
 refine aV func36 fun g F hg hF=> ?_
 cbv
 repeat'(first|(refine bA hg (bi _ _ _) rfl (fun R0 ha=> ?_);cases R0<;>cbv))
 all_goals exact bm hF (by rw [ha,bz hg])
theorem kx(V:LLA)(n:Int):PC0 41 [.agg [.view V],ai n] (.t (abl (rng n 1 (aN V)))):=by
 refine aV func41 fun g F hg hF=> ?_
 cbv
 repeat'(first|(refine bA hg (bT _ _ _) rfl (fun R0 ha=> ?_);cases R0<;>cbv))
 all_goals exact bm hF (by rw [ha,bz hg])
theorem eI(V:LLA)(n:Int)(h1:1<=n)(h2:n<=1048576){a0:Int}{Va1:LLA}{a2:Int}{a3:Int}{a4:Int}{a5:Int}{a6:Int}{a7:Int}{a8:Bool}{a9:Bool}{a10:Int}{a11:Int}{a12:Int}{a13:Int}{a14:Int}{a15:Int}{a16:Int}{a17:Int}{a18:Int}{a19:Int}{a20:Int}{a21:Int}{a22:Int}{a23:Int}{a24:Int}{a25:Int}{a26:Int}{a27:Int}{a28:Int}{a29:Int}{a30:Int}{a31:Int}{a32:Int}{a33:Int}{a34:Int}{a35:Int}{a36:Int}{a37:Int}{a38:Int}{a39:Int}{a40:Int}{a41:Int}{a42:Int}{a43:Int}{a44:Int}{a45:Int}{a46:Int}{a47:Int}{a48:Int}{a49:Int}{a50:Int}{a51:Int}{a52:Int}{a53:Int}{a54:Int}{a55:Int}{a56:Int}{a57:Int}{a58:Int}{a59:Int}{a60:Int}{a61:Int}{a62:Bool}{Va63:LLA}(hy:V[(n-1).toNat]? =some [.J a0,.view Va1,.J a2,.J a3,.J a4,.J a5,.J a6,.J a7,.B a8,.B a9,.J a10,.J a11,.J a12,.J a13,.J a14,.J a15,.J a16,.J a17,.J a18,.J a19,.J a20,.J a21,.J a22,.J a23,.J a24,.J a25,.J a26,.J a27,.J a28,.J a29,.J a30,.J a31,.J a32,.J a33,.J a34,.J a35,.J a36,.J a37,.J a38,.J a39,.J a40,.J a41,.J a42,.J a43,.J a44,.J a45,.J a46,.J a47,.J a48,.J a49,.J a50,.J a51,.J a52,.J a53,.J a54,.J a55,.J a56,.J a57,.J a58,.J a59,.J a60,.J a61,.B a62,.view Va63]):PC0 38 [.agg [.view V],ai n] (.t (.agg [.J a0,.view Va1,.J a2,.J a3,.J a4,.J a5,.J a6,.J a7,.B a8,.B a9,.J a10,.J a11,.J a12,.J a13,.J a14,.J a15,.J a16,.J a17,.J a18,.J a19,.J a20,.J a21,.J a22,.J a23,.J a24,.J a25,.J a26,.J a27,.J a28,.J a29,.J a30,.J a31,.J a32,.J a33,.J a34,.J a35,.J a36,.J a37,.J a38,.J a39,.J a40,.J a41,.J a42,.J a43,.J a44,.J a45,.J a46,.J a47,.J a48,.J a49,.J a50,.J a51,.J a52,.J a53,.J a54,.J a55,.J a56,.J a57,.J a58,.J a59,.J a60,.J a61,.B a62,.view Va63])):=by
 obtain⟨m,hm⟩:=nmE (n-1)
 rw [<-hm]at hy
 refine aV func38 fun g F hg hF=> ?_
 cbv
 have e1:g .w .sub .i64 n 1=m:=by rw [cu hg,aq _ (by omega),hm]
 rw [e1]
 refine goX hg _ (by omega) hy rfl ?_
 cbv
 exact gf hF rfl ⟨rfl,rfl⟩
theorem gx(V:LLA)(n:Int)(h1:1<=n)(h2:n<=1048576){a0:Int}{Va1:LLA}{a2:Int}{a3:Int}{a4:Int}{a5:Int}{a6:Int}{a7:Int}{a8:Bool}{a9:Bool}{a10:Int}{a11:Int}{a12:Int}{a13:Int}{a14:Int}{a15:Int}{a16:Int}{a17:Int}{a18:Int}{a19:Int}{a20:Int}{a21:Int}{a22:Int}{a23:Int}{a24:Int}{a25:Int}{a26:Int}{a27:Int}{a28:Int}{a29:Int}{a30:Int}{a31:Int}{a32:Int}{a33:Int}{a34:Int}{a35:Int}{a36:Int}{a37:Int}{a38:Int}{a39:Int}{a40:Int}{a41:Int}{a42:Int}{a43:Int}{a44:Int}{a45:Int}{a46:Int}{a47:Int}{a48:Int}{a49:Int}{a50:Int}{a51:Int}{a52:Int}{a53:Int}{a54:Int}{a55:Int}{a56:Int}{a57:Int}{a58:Int}{a59:Int}{a60:Int}{a61:Int}{a62:Bool}{Va63:LLA}(hy:V[(n-1).toNat]? =some [.J a0,.view Va1,.J a2,.J a3,.J a4,.J a5,.J a6,.J a7,.B a8,.B a9,.J a10,.J a11,.J a12,.J a13,.J a14,.J a15,.J a16,.J a17,.J a18,.J a19,.J a20,.J a21,.J a22,.J a23,.J a24,.J a25,.J a26,.J a27,.J a28,.J a29,.J a30,.J a31,.J a32,.J a33,.J a34,.J a35,.J a36,.J a37,.J a38,.J a39,.J a40,.J a41,.J a42,.J a43,.J a44,.J a45,.J a46,.J a47,.J a48,.J a49,.J a50,.J a51,.J a52,.J a53,.J a54,.J a55,.J a56,.J a57,.J a58,.J a59,.J a60,.J a61,.B a62,.view Va63]):PC0 44 [.agg [.view V],ai n] (.t (.agg [.J a0,.view Va1,.J a2,.J a3,.J a4,.J a5,.J a6,.J a7,.B a8,.B a9,.J a10,.J a11,.J a12,.J a13,.J a14,.J a15,.J a16,.J a17,.J a18,.J a19,.J a20,.J a21,.J a22,.J a23,.J a24,.J a25,.J a26,.J a27,.J a28,.J a29,.J a30,.J a31,.J a32,.J a33,.J a34,.J a35,.J a36,.J a37,.J a38,.J a39,.J a40,.J a41,.J a42,.J a43,.J a44,.J a45,.J a46,.J a47,.J a48,.J a49,.J a50,.J a51,.J a52,.J a53,.J a54,.J a55,.J a56,.J a57,.J a58,.J a59,.J a60,.J a61,.B a62,.view Va63])):=by
 obtain⟨m,hm⟩:=nmE (n-1)
 rw [<-hm]at hy
 refine aV func44 fun g F hg hF=> ?_
 cbv
 have e1:g .w .sub .i64 n 1=m:=by rw [cu hg,aq _ (by omega),hm]
 rw [e1]
 refine goX hg _ (by omega) hy rfl ?_
 cbv
 exact gf hF rfl ⟨rfl,rfl⟩
theorem tE(rs:List aC)(hl:rs.length<=1048576):PC0 63 [.agg [.view (vw aC.c rs)]] (.t (abl (Hf rs))):=by
 obtain⟨V,hV⟩:=nmE (vw aC.c rs)
 have hn:=lmV hV
 have hd:aN V=(rs.length:Int):=by rw [ao];omega
 have hf:0<=aN V:=by omega
 have hm:aN V<=1048576:=by omega
 have hj:Hf rs=(rng (aN V) 1 6&&rs.all vX):=by rw [hd];rfl
 rw [<-hV,hj]
 refine aV func63 fun g F hg hF=> ?_
 cbv
 refine bQ hg bq (by kernel_rfl) (fun z:Int=>[(1,.p 0),(3,.i z)]) (fun _=>[.bx 67 1 [.view V]]) (fun z=>0<=z/\z<=aN V/\∀(i:Nat)(v:aC),i<z.toNat->rs[i]? =some v->vX v=true) (fun z=>(aN V).toNat-z.toNat)
  0 [some 0] ⟨zpc 0,hf,fun i v hi=>by simp at hi⟩ (wkS [0] (by decide) ⟨⟨_,rfl,rfl,rfl⟩,zpt⟩ zr2) (fun z B hs hB=> ?_)
 obtain⟨h0,h1,h2⟩:=hs
 cbv
 cases hc:g .q .lss z (g .ln V)
 ·rw [ba hg,bz hg,zqo]at hc
  have he:=IU hd (by omega) h2
  cbv
  repeat'(first|(refine bA hg (bi _ _ _) rfl (fun R0 hb=> ?_);cases R0<;>cbv))
  all_goals exact bm hF (by rw [hb,bz hg,he,Bool.and_true])
 ·rw [ba hg,bz hg,zqp]at hc
  cbv
  obtain⟨x,hx⟩:=qM (xs:=rs) h0 (ii hd hc)
  have hk:V[z.toNat]? =some (lc (aC.c x)):=by rw [hV];exact aZ hx
  obtain⟨x0,x1,x2⟩:=x
  refine goX hg _ h0 hk rfl ?_
  cbv
  have ha:vX ⟨x0,x1,x2⟩=false->(rng (aN V) 1 6&&rs.all vX)=false:=fun h=>by rw [IV hx h,Bool.and_false]
  have e1:g .w .add .i64 z 1=z+1:=by rw [aG hg,aq _ (by omega)]
  repeat'(first|(refine bA hg (bi _ _ _) rfl (fun R0 hb=> ?_);cases R0<;>cbv))
  all_goals first
   |exact bm hF (ha (by simp only [vX];clear hF;simp_all)).symm
   |skip
  have hh:vX ⟨x0,x1,x2⟩=true:=by simp only [vX];clear hF hB;simp_all
  rw [e1]
  refine iE hB (z+1) [some 0] (wkS [0] (by decide) ⟨⟨_,rfl,rfl,rfl⟩,zpt⟩ zr2) ⟨by omega,by omega,fun i v hi hv=> ?_⟩ (by omega)
  by_cases hi2:i<z.toNat
  ·exact h2 i v hi2 hv
  ·rw [show i=z.toNat by omega,hx]at hv
   cases hv
   exact hh
theorem ul(rs:List aC)(hl:rs.length<=1048576):PC0 70 [.agg [.view (vw aC.c rs)]] (.t (abl (Hf rs))):=by
 obtain⟨V,hV⟩:=nmE (vw aC.c rs)
 have hn:=lmV hV
 have hb:aN V=(rs.length:Int):=by rw [ao];omega
 have hf:0<=aN V:=by omega
 have hm:aN V<=1048576:=by omega
 have hj:Hf rs=(rng (aN V) 1 6&&rs.all vX):=by rw [hb];rfl
 rw [<-hV,hj]
 refine aV func70 fun g F hg hF=> ?_
 cbv
 have cr:=bT (g .ln V) 1 6
 rw [bz hg]at cr
 obtain⟨Q,hQ⟩:=nmE (rng (aN V) 1 6)
 rw [<-hQ]at cr hF
 rw [bz hg]
 (refine ad hg cr ?_)
 cases Q
 case false=>
  cbv
  exact bm hF rfl
 cbv
 refine bQ hg bq (by kernel_rfl) (fun z:Int=>[(1,.p 0),(11,.v V),(12,.i (g .ln V)),(13,.i z)]) (fun _=>[.bx 67 1 [.view V]]) (fun z=>0<=z/\z<=aN V/\∀(i:Nat)(v:aC),i<z.toNat->rs[i]? =some v->vX v=true) (fun z=>(aN V).toNat-z.toNat)
  0 [some 0] ⟨zpc 0,hf,fun i v hi=>by simp at hi⟩ (wkS [0] (by decide) ⟨⟨_,rfl,rfl,rfl⟩,zpt⟩ zr4) (fun z B hs hB=> ?_)
 obtain⟨h0,h1,h2⟩:=hs
 cbv
 cases hc:g .q .lss z (g .ln V)
 ·rw [ba hg,bz hg,zqo]at hc
  have hd:=IU hb (by omega) h2
  cbv
  exact bm hF (by rw [hd];rfl)
 ·rw [ba hg,bz hg,zqp]at hc
  cbv
  obtain⟨x,hx⟩:=qM (xs:=rs) h0 (ii hb hc)
  have hk:V[z.toNat]? =some (lc (aC.c x)):=by rw [hV];exact aZ hx
  obtain⟨x0,x1,x2⟩:=x
  refine goX hg _ h0 hk rfl ?_
  cbv
  have ha:vX ⟨x0,x1,x2⟩=false->(true&&rs.all vX)=false:=fun h=>by rw [IV hx h,Bool.and_false]
  have e1:g .w .add .i64 z 1=z+1:=by rw [aG hg,aq _ (by omega)]
  repeat'(first|(refine bA hg (bT _ _ _) rfl (fun R0 he=> ?_);cases R0<;>cbv))
  all_goals first
   |exact bm hF (ha (by simp only [vX];clear hF;simp_all)).symm
   |skip
  have hh:vX ⟨x0,x1,x2⟩=true:=by simp only [vX];clear hF hB;simp_all
  rw [e1]
  refine iE hB (z+1) [some 0] (wkS [0] (by decide) ⟨⟨_,rfl,rfl,rfl⟩,zpt⟩ zr4) ⟨by omega,by omega,fun i v hi hv=> ?_⟩ (by omega)
  by_cases hi2:i<z.toNat
  ·exact h2 i v hi2 hv
  ·rw [show i=z.toNat by omega,hx]at hv
   cases hv
   exact hh
theorem nR(xs:List Int)(n:Int)(hl:xs.length<=1048576):PC0 48 [.c (.view (vw ak xs)),ai n] (.i (cnt xs n)):=by
 obtain⟨V,hV⟩:=nmE (vw ak xs)
 have hj:=lmV hV
 have hf:aN V=(xs.length:Int):=by rw [ao];omega
 have hd:0<=aN V:=by omega
 have hi:aN V<=1048576:=by omega
 have ha:∀z:Int,aN V<=z->y9 (fun k=>if k=n then 1 else 0) xs z.toNat=cnt xs n:=fun z hz=>mO _ (by omega)
 rw [<-hV]
 refine aV func48 fun g F hg hF=> ?_
 cbv
 refine bQ hg bq (by kernel_rfl) (fun s:Int×Int=>[(0,.v V),(1,.i n),(5,.i s.2),(6,.i s.1)]) (fun _=>[]) (fun s=>0<=s.1/\s.1<=aN V/\0<=s.2/\s.2<=s.1/\s.2=y9 (fun k=>if k=n then 1 else 0) xs s.1.toNat) (fun s=>(aN V).toNat-s.1.toNat)
  (0,0) [] ⟨zpc 0,hd,zpc 0,zpc 0,(jN _ _).symm⟩ (wk0 zr4) (fun s B hs hB=> ?_)
 obtain⟨z,d⟩:=s
 obtain⟨h0,h1,h2,h3,h4⟩:=hs
 simp only at h0 h1 h2 h3 h4
 cbv
 cases hc:g .q .lss z (g .ln V)
 ·rw [ba hg,bz hg,zqo]at hc
  cbv
  exact aO hF (by rw [h4,ha z (by omega)])
 ·rw [ba hg,bz hg,zqp]at hc
  cbv
  obtain⟨x,hx⟩:=qM (xs:=xs) h0 (ii hf hc)
  have hh:V[z.toNat]? =some (lc (ak x)):=by rw [hV];exact aZ hx
  have hs:=jO (fun k:Int=>if k=n then(1:Int)else 0) hx
  refine goX hg _ h0 hh rfl ?_
  cbv
  have e1:g .w .add .i64 z 1=z+1:=by rw [aG hg,aq _ (by omega)]
  cases he:g .q .eql x n
  ·have hb:x≠n:=by rw [bj hg]at he;simpa using he
   simp only [if_neg hb]at hs
   cbv
   rw [e1]
   exact iE hB (z+1,d) [] (wk0 zr4) ⟨by simp only;omega,by simp only;omega,h2,by simp only;omega,by simp only;rw [show(z+1).toNat=z.toNat+1 by omega,hs];omega⟩ (by show(aN V).toNat-(z+1).toNat<(aN V).toNat-z.toNat;omega)
  ·have hb:x=n:=by rw [bj hg]at he;simpa using he
   simp only [if_pos hb]at hs
   cbv
   have e2:g .w .add .i64 d 1=d+1:=by rw [aG hg,aq _ (by omega)]
   rw [e1,e2]
   exact iE hB (z+1,d+1) [] (wk0 zr4) ⟨by simp only;omega,by simp only;omega,by simp only;omega,by simp only;omega,by simp only;rw [show(z+1).toNat=z.toNat+1 by omega,hs];omega⟩ (by show(aN V).toNat-(z+1).toNat<(aN V).toNat-z.toNat;omega)
theorem uw(ns:List ae)(n0:Int)(hl:ns.length<=1048576):PC0 69 [.agg [.view (vwA ae.ac ns)],ai n0] (.i (qg ns n0)):=by
 obtain⟨V,hV⟩:=nmE (vwA ae.ac ns)
 have hc:aN V=(ns.length:Int):=by rw [ao,hV,bu]
 have xq:0<=aN V:=by omega
 have xr:aN V<=1048576:=by omega
 have hh:∀n,isN ns n=rng n 1 (aN V):=fun n=>by rw [hc];rfl
 have xu:∀d:Int,0<=d->d<aN V->ns.length-d.toNat=(ns.length-(d+1).toNat)+1:=fun d h0 h1=>Bt hc h0 h1
 have xt:∀d:Int,d=aN V->ns.length-d.toNat=0:=fun d h=>yr hc h
 have hm:vk ns (ns.length-(0:Int).toNat) 0 n0=qg ns n0:=rfl
 obtain⟨R,hR⟩:=nmE (qg ns n0)
 rw [<-hR]at hm⊢
 rw [<-hV]
 refine aV func69 fun g F hg hF=> ?_
 cbv
 refine bQ hg bq (by kernel_rfl) (fun s:Int×Int=>[(1,.i s.1),(2,.p 0),(5,.i s.2)]) (fun _=>[.bx 28 1 [.view V]]) (fun s=>0<=s.2/\s.2<=aN V/\vk ns (ns.length-s.2.toNat) s.2 s.1=R) (fun s=>(aN V).toNat-s.2.toNat)
  (n0,0) [some 0] ⟨zpc 0,xq,hm⟩ (wkS [0] (by decide) ⟨⟨_,rfl,rfl,rfl⟩,zpt⟩ zr3) (fun s B hs hB=> ?_)
 obtain⟨n,d⟩:=s
 obtain⟨h0,h1,h2⟩:=hs
 simp only at h0 h1 h2
 cbv
 cases hn:g .q .neq n 0
 ·have hb:n=0:=by rw [bC hg]at hn;simpa using hn
  cbv
  exact aO hF (by rw [<-h2,hb,mX])
 have hb:n≠0:=by rw [bC hg]at hn;simpa using hn
 cbv
 have e1:g .w .add .i64 d 1=d+1:=by rw [aG hg,aq _ (by omega)]
 obtain⟨D,hD⟩:=nmE (d+1)
 rw [<-hD]at e1
 rw [e1]
 have ci:=kx V n
 rw [<-hh n]at ci
 cases hi:isN ns n
 ·rw [hi]at ci
  refine ad hg ci ?_
  cbv
  exact aO hF (by rw [<-h2,w8 ns _ _ _ hb hi])
 rw [hi]at ci
 refine ad hg ci ?_
 cbv
 cases hd:g .q .gtr D (g .ln V)
 case true=>
  rw [dm hg,bz hg,zqp]at hd
  cbv
  exact aO hF (by rw [<-h2,xt d (by omega),zI ns hb])
 rw [dm hg,bz hg,zqo]at hd
 have xw:d<aN V:=by omega
 have xs:=xu d h0 xw
 obtain⟨i1,i2,x,hx⟩:=bd hi
 have xv:n<=1048576:=zpv (hc▸i2) xr
 have he:V[(n-1).toNat]? =some x.ac:=by rw [hV];exact iq hx
 have xx:=xy hx
 have hj:vk ns (ns.length-D.toNat) D x.up=R:=by rw [<-h2,xs,kN ns hb hi,xx,hD]
 obtain⟨a0,a1,⟨a2,a3,a4,a5,a6,a7,a8,a9,hp,hq,hr,⟨ht,hu⟩,⟨hv,hw⟩,⟨hy,hz⟩,⟨hA,hC⟩,⟨hE,hG⟩,⟨hH,hI⟩,⟨hJ,hK⟩,hL,⟨⟨hM,hN⟩,⟨hO,hP⟩,⟨hQ,hS⟩,⟨hT,hU⟩,⟨hW,hX⟩,⟨hY,hZ⟩⟩,⟨⟨h3,h4⟩,⟨h5,h6⟩,⟨h7,h8⟩,⟨h9,xa⟩,⟨xb,xc⟩,⟨xd,xe⟩⟩,⟨xf,xg,xh,xi⟩,⟨xj,xk,xl,xm⟩,xn,xo⟩,xp,⟨hk⟩⟩:=x
 replace he:V[(n-1).toNat]? =some [.J a0,.view (vw ak a1),.J a2,.J a3,.J a4,.J a5,.J a6,.J a7,.B a8,.B a9,.J hp,.J hq,.J hr,.J ht,.J hu,.J hv,.J hw,.J hy,.J hz,.J hA,.J hC,.J hE,.J hG,.J hH,.J hI,.J hJ,.J hK,.J hL,.J hM,.J hN,.J hO,.J hP,.J hQ,.J hS,.J hT,.J hU,.J hW,.J hX,.J hY,.J hZ,.J h3,.J h4,.J h5,.J h6,.J h7,.J h8,.J h9,.J xa,.J xb,.J xc,.J xd,.J xe,.J xf,.J xg,.J xh,.J xi,.J xj,.J xk,.J xl,.J xm,.J xn,.J xo,.B xp,.view (vw aC.c hk)]:=he
 obtain⟨xz,hf⟩:=nmE (vw ak a1)
 obtain⟨ho,ha⟩:=nmE (vw aC.c hk)
 rw [<-hf,<-ha]at he
 cbv
 refine ad hg (gx V n i1 xv he) ?_
 cbv
 exact iE hB (a0,D) [some 0] (wkS [0] (by decide) ⟨⟨_,rfl,rfl,rfl⟩,zpt⟩ zr3) ⟨by simp only;omega,by simp only;omega,hj⟩ (by show(aN V).toNat-D.toNat<(aN V).toNat-d.toNat;omega)
theorem tM(ns:List ae)(n0:Int)(hl:ns.length<=1048576):PC0 62 [.agg [.view (vwA ae.ac ns)],ai n0] (.i (qg ns n0)):=by
 obtain⟨V,hV⟩:=nmE (vwA ae.ac ns)
 have hc:aN V=(ns.length:Int):=by rw [ao,hV,bu]
 have xA:0<=aN V:=by omega
 have xs:aN V<=1048576:=by omega
 have hk:∀n,isN ns n=rng n 1 (aN V):=fun n=>by rw [hc];rfl
 have xu:∀d:Int,0<=d->d<aN V->ns.length-d.toNat=(ns.length-(d+1).toNat)+1:=fun d h0 h1=>Bt hc h0 h1
 have xt:∀d:Int,d=aN V->ns.length-d.toNat=0:=fun d h=>yr hc h
 have hq:vk ns (ns.length-(0:Int).toNat) 0 n0=qg ns n0:=rfl
 obtain⟨R,hR⟩:=nmE (qg ns n0)
 rw [<-hR]at hq⊢
 rw [<-hV]
 refine aV func62 fun g F hg hF=> ?_
 cbv
 refine bQ hg bq (by kernel_rfl) (fun s:Int×Int=>[(1,.i s.1),(2,.p 0),(5,.i s.2)]) (fun _=>[.bx 28 1 [.view V]]) (fun s=>0<=s.2/\s.2<=aN V+1/\(s.2<=aN V->vk ns (ns.length-s.2.toNat) s.2 s.1=R)/\(s.2=aN V+1->R=0)) (fun s=>(aN V+1).toNat-s.2.toNat)
  (n0,0) [some 0] ⟨zpc 0,by simp only;omega,fun _=>hq,fun h=>by simp only at h;omega⟩ (wkS [0] (by decide) ⟨⟨_,rfl,rfl,rfl⟩,zpt⟩ zr3) (fun s B hs hB=> ?_)
 obtain⟨n,d⟩:=s
 obtain⟨h0,h1,h2,hh⟩:=hs
 simp only at h0 h1 h2 hh
 cbv
 cases hd:g .q .leq d (g .ln V)
 case false=>
  rw [ja hg,bz hg,zqo]at hd
  cbv
  exact aO hF (hh (by omega)).symm
 rw [ja hg,bz hg,zqp]at hd
 replace h2:=h2 hd
 clear hh
 cbv
 cases hn:g .q .eql n 0
 case true=>
  have hb:n=0:=by rw [bj hg]at hn;simpa using hn
  cbv
  exact aO hF (by rw [<-h2,hb,mX])
 have hb:n≠0:=by rw [bj hg]at hn;simpa using hn
 cbv
 have e1:g .w .add .i64 d 1=d+1:=by rw [aG hg,aq _ (by omega)]
 have ci:=gW V n
 rw [<-hk n]at ci
 cases hi:isN ns n
 ·rw [hi]at ci
  refine ad hg ci ?_
  cbv
  exact aO hF (by rw [<-h2,w8 ns _ _ _ hb hi])
 rw [hi]at ci
 refine ad hg ci ?_
 obtain⟨i1,i2,x,hx⟩:=bd hi
 have xv:n<=1048576:=zpv (hc▸i2) xs
 have hf:V[(n-1).toNat]? =some x.ac:=by rw [hV];exact iq hx
 have xx:=xy hx
 have hm:d<aN V->vk ns (ns.length-(d+1).toNat) (d+1) x.up=R:=fun xw=>by rw [<-h2,xu d h0 xw,kN ns hb hi,xx]
 have ho:d=aN V->R=0:=fun he=>by rw [<-h2,xt d he,zI ns hb]
 obtain⟨a0,a1,⟨a2,a3,a4,a5,a6,a7,a8,a9,ht,hu,hv,⟨hw,hy⟩,⟨hz,hA⟩,⟨hC,hD⟩,⟨hE,hG⟩,⟨hH,hI⟩,⟨hJ,hK⟩,⟨hL,hM⟩,hN,⟨⟨hO,hP⟩,⟨hQ,hS⟩,⟨hT,hU⟩,⟨hW,hX⟩,⟨hY,hZ⟩,⟨h3,h4⟩⟩,⟨⟨h5,h6⟩,⟨h7,h8⟩,⟨h9,xa⟩,⟨xb,xc⟩,⟨xd,xe⟩,⟨xf,xg⟩⟩,⟨xh,xi,xj,xk⟩,⟨xl,xm,xn,xo⟩,xp,xq⟩,xr,⟨hp⟩⟩:=x
 replace hf:V[(n-1).toNat]? =some [.J a0,.view (vw ak a1),.J a2,.J a3,.J a4,.J a5,.J a6,.J a7,.B a8,.B a9,.J ht,.J hu,.J hv,.J hw,.J hy,.J hz,.J hA,.J hC,.J hD,.J hE,.J hG,.J hH,.J hI,.J hJ,.J hK,.J hL,.J hM,.J hN,.J hO,.J hP,.J hQ,.J hS,.J hT,.J hU,.J hW,.J hX,.J hY,.J hZ,.J h3,.J h4,.J h5,.J h6,.J h7,.J h8,.J h9,.J xa,.J xb,.J xc,.J xd,.J xe,.J xf,.J xg,.J xh,.J xi,.J xj,.J xk,.J xl,.J xm,.J xn,.J xo,.J xp,.J xq,.B xr,.view (vw aC.c hp)]:=hf
 obtain⟨xz,hj⟩:=nmE (vw ak a1)
 obtain⟨hr,ha⟩:=nmE (vw aC.c hp)
 rw [<-hj,<-ha]at hf
 cbv
 refine ad hg (eI V n i1 xv hf) ?_
 cbv
 rw [e1]
 exact iE hB (a0,d+1) [some 0] (wkS [0] (by decide) ⟨⟨_,rfl,rfl,rfl⟩,zpt⟩ zr3) ⟨by simp only;omega,by simp only;omega,fun h=>hm (by simp only at h;omega),fun h=>ho (by simp only at h;omega)⟩ (by show(aN V+1).toNat-(d+1).toNat<(aN V+1).toNat-d.toNat;omega)
def jv(s:bI)(sd:Int)(rtl:Bool)(base:Int):Int:=if kn (rF s sd rtl) base=false then 0 else sg (Gx (rF s sd rtl) base)
def qE(s:aK)(less:Int):aK:=if s.mode=1 then s else⟨s.mode,cl (wrap64 (cl s.n-cl less))⟩
def rQ(s:ah)(w:Bool)(o:Int):Int:=if s.ratio<=0\/o<0 then-1 else if w then cl (fdv (wrap64 (cl o*cl s.ratio)) 64)else cl (fdv (wrap64 (cl o*64)) (cl s.ratio))
def HC(s:ah)(w rtl:Bool)(base:Int):Int:=if w then wrap64 (jv s.margin 0 rtl base+jv s.margin 2 rtl base)else wrap64 (jv s.margin 1 rtl base+jv s.margin 3 rtl base)
def Ih(s:ah)(a b:Int)(rtl:Bool)(base mb:Int):Int:=if yG s a rtl base=false\/yG s b rtl base=false then-1 else cl (wrap64 (base-yF s a rtl base-yF s b rtl base-jv s.margin a rtl mb-jv s.margin b rtl mb))
def Gy(s:ah)(w rtl:Bool)(base mb:Int):Int:=if qL s w base= -1 then(if w then Ih s 0 2 rtl base mb else Ih s 1 3 rtl base mb)else qL s w base
def IY(s:ah)(w:Bool)(base n m:Int):aK:=if n= -1 then qE ⟨2,base⟩ m else⟨3,mG s w base n⟩
def apW(s:ah)(rtl:Bool)(wide high:Int):Int:=if Gy s true rtl wide wide= -1 then rQ s true (Gy s false rtl high wide)else Gy s true rtl wide wide
def apH(s:ah)(rtl:Bool)(wide high:Int):Int:=if Gy s false rtl high wide= -1 then rQ s false (apW s rtl wide high)else Gy s false rtl high wide
def apX(s:ah)(rtl:Bool)(wide high:Int):aK:=IY s true wide (apW s rtl wide high) (HC s true rtl wide)
def apY(s:ah)(rtl:Bool)(wide high:Int):aK:=IY s false high (apH s rtl wide high) (HC s false rtl wide)
def apC(p s:ah)(rtl:Bool)(wide high:Int):List AC:=lc (ah.c p)++(lc (ah.c s)++[.B rtl,.J wide,.J high])
theorem zX(a b c d e:Int):wrap64 (wrap64 (wrap64 (wrap64 (a-b)-c)-d)-e)=wrap64 (a-b-c-d-e):=by unfold wrap64;omega
theorem CA(a b c d e:Int):wrap64 (wrap64 (wrap64 (a-b)-c)-wrap64 (d+e))=wrap64 (a-b-c-d-e):=by
 unfold wrap64;omega
theorem dJ(s:bI)(sd:Int)(rtl:Bool)(base:Int):PC0 116 [.agg (lc (bI.c s)),ai sd,abl rtl,ai base] (.i (jv s sd rtl base)):=by
 obtain⟨⟨a0,a1⟩,⟨a2,a3⟩,⟨a4,a5⟩,⟨a6,a7⟩,⟨a8,a9⟩,⟨hc,hd⟩⟩:=s
 have hb:=j7 (⟨⟨a0,a1⟩,⟨a2,a3⟩,⟨a4,a5⟩,⟨a6,a7⟩,⟨a8,a9⟩,⟨hc,hd⟩⟩:bI)
 refine aV func116 fun g F hg hF=> ?_
 cbv
 repeat'(first|(refine nf hg (hb _ _) rfl (fun R0 R1 ha he=> ?_);cbv)|(refine bA hg (dX _ _ _) rfl (fun R0 ha=> ?_);cases R0<;>cbv)|((first|refine aY hg (dK _ _ _) rfl (fun R0 ha=> ?_)|refine aY hg (cV _) rfl (fun R0 ha=> ?_));cbv)|(split<;>rename_i hh<;>(try rw [hh])<;>(try simp only [di hg]at hh)<;>cbv))
 all_goals exact aO hF (by simp only [jv];subst_vars;simp_all)
theorem gd(s:bI)(sd:Int)(rtl:Bool)(base:Int):PC0 134 [.agg (lc (bI.c s)),ai sd,abl rtl,ai base] (.i (jv s sd rtl base)):=by
 obtain⟨⟨a0,a1⟩,⟨a2,a3⟩,⟨a4,a5⟩,⟨a6,a7⟩,⟨a8,a9⟩,⟨hc,hd⟩⟩:=s
 have hb:=kz (⟨⟨a0,a1⟩,⟨a2,a3⟩,⟨a4,a5⟩,⟨a6,a7⟩,⟨a8,a9⟩,⟨hc,hd⟩⟩:bI)
 refine aV func134 fun g F hg hF=> ?_
 cbv
 repeat'(first|(refine nf hg (hb _ _) rfl (fun R0 R1 ha he=> ?_);cbv)|(refine bA hg (eb _ _ _) rfl (fun R0 ha=> ?_);cases R0<;>cbv)|((first|refine aY hg (dN _ _ _) rfl (fun R0 ha=> ?_)|refine aY hg (da _) rfl (fun R0 ha=> ?_));cbv)|(split<;>rename_i hh<;>(try rw [hh])<;>(try simp only [di hg]at hh)<;>cbv))
 all_goals exact aO hF (by simp only [jv];subst_vars;simp_all)
theorem dB(m n less:Int):PC0 145 [.agg [.J m,.J n],ai less] (.t (agP (qE ⟨m,n⟩ less))):=by
 refine aV func145 fun g F hg hF=> ?_
 cbv
 repeat'(first|(refine aY hg (aI _) rfl (fun R0 ha=> ?_);cbv)|(split<;>rename_i hh<;>(try rw [hh])<;>(try simp only [di hg]at hh)<;>cbv))
 all_goals exact mA hF (by simp only [qE,(cu hg)]at *;subst_vars;simp_all)
theorem eY(m n less:Int):PC0 124 [.agg [.J m,.J n],ai less] (.t (agP (qE ⟨m,n⟩ less))):=by
 refine aV func124 fun g F hg hF=> ?_
 cbv
 repeat'(first|(refine aY hg (aM _) rfl (fun R0 ha=> ?_);cbv)|(split<;>rename_i hh<;>(try rw [hh])<;>(try simp only [di hg]at hh)<;>cbv))
 all_goals exact mA hF (by simp only [qE,(cu hg)]at *;subst_vars;simp_all)
theorem jr(s:ah)(w:Bool)(o:Int):PC0 105 [.agg (lc (ah.c s)),abl w,ai o] (.i (rQ s w o)):=by
 cases w<;>(refine aV func105 fun g F hg hF=> ?_;cbv;repeat'(first|((first|refine aJ hg (aI _) rfl (fun R0 ha=> ?_)|refine aJ hg (bW _ _) rfl (fun R0 ha=> ?_));cbv)|(split<;>rename_i hh<;>(try rw [hh])<;>(try simp only [di hg]at hh)<;>cbv)))
 all_goals exact aO hF (by simp only [rQ,(gA hg)]at *;subst_vars;(try simp_all);(try(intro hx;omega)))
theorem gR(s:ah)(w:Bool)(o:Int):PC0 123 [.agg (lc (ah.c s)),abl w,ai o] (.i (rQ s w o)):=by
 cases w<;>(refine aV func123 fun g F hg hF=> ?_;cbv;repeat'(first|((first|refine aY hg (aM _) rfl (fun R0 ha=> ?_)|refine aJ hg (aM _) rfl (fun R0 ha=> ?_)|refine aY hg (bZ _ _) rfl (fun R0 ha=> ?_));cbv)|(split<;>rename_i hh<;>(try rw [hh])<;>(try simp only [di hg]at hh)<;>cbv)))
 all_goals exact aO hF (by simp only [rQ,(gA hg)]at *;subst_vars;(try simp_all);(try(intro hx;omega)))
theorem sE(w h:Int):PC0 54 [ai w,ai h] (.t (abl (rng w 0 1048576&&rng h 0 1048576))):=by
 refine aV func54 fun g F hg hF=> ?_
 cbv
 repeat'(first|(refine bA hg (bT _ _ _) rfl (fun R0 ha=> ?_);cases R0<;>cbv)|(split<;>rename_i hh<;>(try rw [hh])<;>(try simp only [di hg]at hh)<;>cbv))
 all_goals exact bm hF (by simp_all)
theorem jJ(s:ah)(w rtl:Bool)(base:Int):PC0 103 [.agg (lc (ah.c s)),abl w,abl rtl,ai base] (.i (HC s w rtl base)):=by
 obtain⟨b0,b1,b2,b3,b4,b5,b6,b7,b8,b9,hp,⟨hq,hr⟩,⟨hs,ht⟩,⟨hu,hv⟩,⟨hw,hx⟩,⟨hy,hz⟩,⟨hA,hB⟩,⟨hC,hD⟩,hE,⟨⟨ha,hb⟩,⟨hc,hd⟩,⟨he,hf⟩,⟨hi,hj⟩,⟨hk,hl⟩,⟨hm,hn⟩⟩,⟨⟨hG,hH⟩,⟨hI,hJ⟩,⟨hK,hL⟩,⟨hM,hN⟩,⟨hO,hP⟩,⟨hQ,hR⟩⟩,⟨hS,hT,hU,hV⟩,⟨hW,hX,hY,hZ⟩,h0,h1⟩:=s
 cases w<;>(refine aV func103 fun g F hg hF=> ?_;cbv;repeat'(first|(refine aJ hg (dJ (⟨⟨ha,hb⟩,⟨hc,hd⟩,⟨he,hf⟩,⟨hi,hj⟩,⟨hk,hl⟩,⟨hm,hn⟩⟩:bI) _ _ _) rfl (fun R0 ho=> ?_);cbv)|(split<;>rename_i hh<;>(try rw [hh])<;>(try simp only [di hg]at hh)<;>cbv)))
 all_goals exact aO hF (by simp only [HC,(aG hg)]at *;subst_vars;simp_all)
theorem th(s:ah)(w:Bool)(base n m:Int):PC0 106 [.agg (lc (ah.c s)),abl w,ai base,ai n,ai m] (.t (agP (IY s w base n m))):=by
 refine aV func106 fun g F hg hF=> ?_
 cbv
 repeat'(first|((first|refine nf hg (dB _ _ _) rfl (fun R0 R1 ha hb=> ?_)|refine aY hg (cY s _ _ _) rfl (fun R0 ha=> ?_));cbv)|(split<;>rename_i hh<;>(try rw [hh])<;>(try simp only [di hg]at hh)<;>cbv))
 all_goals exact mA hF (by simp only [IY];subst_vars;simp_all)
theorem lG(p s:ah)(w:Bool)(base mb:Int)(rtl:Bool)(M:Int)(hM:M=HC s w rtl mb):PC0 104 [.agg (lc (ah.c p)),.agg (lc (ah.c s)),abl w,ai base,ai M,abl rtl] (.i (Gy s w rtl base mb)):=by
 obtain⟨b0,b1,b2,b3,b4,b5,b6,b7,b8,b9,hc,⟨hd,he⟩,⟨hf,hi⟩,⟨hj,hk⟩,⟨hl,hm⟩,⟨hn,ho⟩,⟨hp,hq⟩,⟨hr,hs⟩,ht,⟨⟨hu,hv⟩,⟨hw,hx⟩,⟨hy,hz⟩,⟨hA,hB⟩,⟨hC,hD⟩,⟨hE,hG⟩⟩,⟨⟨hH,hI⟩,⟨hJ,hK⟩,⟨hL,hN⟩,⟨hO,hP⟩,⟨hQ,hR⟩,⟨hS,hT⟩⟩,⟨hU,hV,hW,hX⟩,⟨hY,hZ,h0,h1⟩,h2,h3⟩:=p
 cases w<;>(refine aV func104 fun g F hg hF=> ?_;cbv;repeat'(first|(refine aY hg (eN s _ _) rfl (fun R0 ha=> ?_);cbv)|(refine zL hg (gI s _ _ _) rfl (fun R0 R1 ha hb=> ?_);cases R1<;>cbv)|(refine aY hg (aI _) rfl (fun R0 ha=> ?_);cbv)|(split<;>rename_i hh<;>(try rw [hh])<;>(try simp only [di hg]at hh)<;>cbv)))
 all_goals exact aO hF (by simp only [Gy,Ih,HC,(cu hg),Bool.false_eq_true,if_false,if_true]at *;subst_vars;simp_all [CA])
theorem bL(p s:ah)(rtl:Bool)(wide high sd:Int):PC0 87 [.agg (apC p s rtl wide high),ai sd] (.i (jv s.margin sd rtl wide)):=by
 obtain⟨b0,b1,b2,b3,b4,b5,b6,b7,b8,b9,hp,⟨hq,hr⟩,⟨hs,ht⟩,⟨hu,hv⟩,⟨hw,hx⟩,⟨hy,hz⟩,⟨hA,hB⟩,⟨hC,hD⟩,hE,⟨⟨ha,hb⟩,⟨hc,hd⟩,⟨he,hf⟩,⟨hi,hj⟩,⟨hk,hl⟩,⟨hm,hn⟩⟩,⟨⟨hG,hH⟩,⟨hI,hJ⟩,⟨hK,hL⟩,⟨hM,hN⟩,⟨hO,hP⟩,⟨hQ,hR⟩⟩,⟨hS,hT,hU,hV⟩,⟨hW,hX,hY,hZ⟩,h0,h1⟩:=s
 refine aV func87 fun g F hg hF=> ?_
 cbv
 repeat'(first|(refine aY hg (gd (⟨⟨ha,hb⟩,⟨hc,hd⟩,⟨he,hf⟩,⟨hi,hj⟩,⟨hk,hl⟩,⟨hm,hn⟩⟩:bI) _ _ _) rfl (fun R0 ho=> ?_);cbv)|(split<;>rename_i hh<;>(try rw [hh])<;>(try simp only [di hg]at hh)<;>cbv))
 all_goals exact aO hF (by subst_vars;rfl)
theorem iJ(p s:ah)(rtl:Bool)(wide high sd:Int)(hw:sd=0\/sd=2):PC0 86 [.agg (apC p s rtl wide high),ai sd] (.tup [ai (yF s sd rtl wide),abl (yG s sd rtl wide)]):=by
 obtain⟨b0,b1,b2,b3,b4,b5,b6,b7,b8,b9,ha,⟨hb,hc⟩,⟨hd,he⟩,⟨hf,hh⟩,⟨hi,hj⟩,⟨hk,hl⟩,⟨hm,hn⟩,⟨ho,hp⟩,hq,⟨⟨hr,hs⟩,⟨ht,hu⟩,⟨hv,hx⟩,⟨hy,hz⟩,⟨hA,hB⟩,⟨hC,hD⟩⟩,⟨⟨hE,hG⟩,⟨hH,hI⟩,⟨hJ,hK⟩,⟨hL,hM⟩,⟨hN,hO⟩,⟨hP,hQ⟩⟩,⟨hR,hS,hT,hU⟩,⟨hV,hW,hX,hY⟩,hZ,h0⟩:=p
 rcases hw with rfl|rfl<;>(
  refine aV func86 fun g F hg hF=> ?_
  cbv
  (repeat'((first|refine zL hg (nv s _ _ _) rfl (fun R0 R1 h1 h2=> ?_)|have e:g .q .eql 0 0=true:=(by rw [bj hg];rfl);rw [e]|have e:g .q .eql 2 0=false:=(by rw [bj hg];rfl);rw [e]|have e:g .q .eql 2 2=true:=(by rw [bj hg];rfl);rw [e]);cbv))
  all_goals exact Fy hF (by subst_vars;exact⟨rfl,rfl⟩))
theorem iI(p s:ah)(rtl:Bool)(wide high sd:Int)(hw:sd=1\/sd=3):PC0 86 [.agg (apC p s rtl wide high),ai sd] (.tup [ai (yF s sd rtl high),abl (yG s sd rtl high)]):=by
 obtain⟨b0,b1,b2,b3,b4,b5,b6,b7,b8,b9,ha,⟨hb,hc⟩,⟨hd,he⟩,⟨hf,hh⟩,⟨hi,hj⟩,⟨hk,hl⟩,⟨hm,hn⟩,⟨ho,hp⟩,hq,⟨⟨hr,hs⟩,⟨ht,hu⟩,⟨hv,hx⟩,⟨hy,hz⟩,⟨hA,hB⟩,⟨hC,hD⟩⟩,⟨⟨hE,hG⟩,⟨hH,hI⟩,⟨hJ,hK⟩,⟨hL,hM⟩,⟨hN,hO⟩,⟨hP,hQ⟩⟩,⟨hR,hS,hT,hU⟩,⟨hV,hW,hX,hY⟩,hZ,h0⟩:=p
 rcases hw with rfl|rfl<;>(
  refine aV func86 fun g F hg hF=> ?_
  cbv
  (repeat'((first|refine zL hg (nv s _ _ _) rfl (fun R0 R1 h1 h2=> ?_)|have e:g .q .eql 1 0=false:=(by rw [bj hg];rfl);rw [e]|have e:g .q .eql 3 0=false:=(by rw [bj hg];rfl);rw [e]|have e:g .q .eql 1 2=false:=(by rw [bj hg];rfl);rw [e]|have e:g .q .eql 3 2=false:=(by rw [bj hg];rfl);rw [e]);cbv))
  all_goals exact Fy hF (by subst_vars;exact⟨rfl,rfl⟩))
theorem sX(p s:ah)(rtl:Bool)(wide high:Int):PC0 122 [.agg (apC p s rtl wide high),ai 0,ai 2,ai wide] (.i (Ih s 0 2 rtl wide wide)):=by
 have c0:=iJ p s rtl wide high 0 (.inl rfl)
 have c2:=iJ p s rtl wide high 2 (.inr rfl)
 have m0:=bL p s rtl wide high 0
 have m2:=bL p s rtl wide high 2
 obtain⟨b0,b1,b2,b3,b4,b5,b6,b7,b8,b9,hc,⟨hd,he⟩,⟨hf,hi⟩,⟨hj,hk⟩,⟨hl,hm⟩,⟨hn,ho⟩,⟨hp,hq⟩,⟨hr,hs⟩,ht,⟨⟨hu,hv⟩,⟨hw,hx⟩,⟨hy,hz⟩,⟨hA,hB⟩,⟨hC,hD⟩,⟨hE,hG⟩⟩,⟨⟨hH,hI⟩,⟨hJ,hK⟩,⟨hL,hM⟩,⟨hN,hO⟩,⟨hP,hQ⟩,⟨hR,hS⟩⟩,⟨hT,hU,hV,hW⟩,⟨hX,hY,hZ,h0⟩,h1,h2⟩:=s
 refine aV func122 fun g F hg hF=> ?_
 cbv
 repeat'(first|(refine zL hg c0 rfl (fun R0 R1 ha hb=> ?_);cases R1<;>cbv)|(refine zL hg c2 rfl (fun R0 R1 ha hb=> ?_);cases R1<;>cbv)|((first|refine aJ hg m0 rfl (fun R0 ha=> ?_)|refine aJ hg m2 rfl (fun R0 ha=> ?_)|refine aJ hg (aM _) rfl (fun R0 ha=> ?_));cbv)|(split<;>rename_i hh<;>(try rw [hh])<;>(try simp only [di hg]at hh)<;>(first|(exfalso;omega)|cbv)))
 all_goals exact aO hF (by simp only [Ih,(cu hg)]at *;subst_vars;simp_all [zX])
theorem sW(p s:ah)(rtl:Bool)(wide high:Int):PC0 122 [.agg (apC p s rtl wide high),ai 1,ai 3,ai high] (.i (Ih s 1 3 rtl high wide)):=by
 have c0:=iI p s rtl wide high 1 (.inl rfl)
 have c2:=iI p s rtl wide high 3 (.inr rfl)
 have m0:=bL p s rtl wide high 1
 have m2:=bL p s rtl wide high 3
 obtain⟨b0,b1,b2,b3,b4,b5,b6,b7,b8,b9,hc,⟨hd,he⟩,⟨hf,hi⟩,⟨hj,hk⟩,⟨hl,hm⟩,⟨hn,ho⟩,⟨hp,hq⟩,⟨hr,hs⟩,ht,⟨⟨hu,hv⟩,⟨hw,hx⟩,⟨hy,hz⟩,⟨hA,hB⟩,⟨hC,hD⟩,⟨hE,hG⟩⟩,⟨⟨hH,hI⟩,⟨hJ,hK⟩,⟨hL,hM⟩,⟨hN,hO⟩,⟨hP,hQ⟩,⟨hR,hS⟩⟩,⟨hT,hU,hV,hW⟩,⟨hX,hY,hZ,h0⟩,h1,h2⟩:=s
 refine aV func122 fun g F hg hF=> ?_
 cbv
 repeat'(first|(refine zL hg c0 rfl (fun R0 R1 ha hb=> ?_);cases R1<;>cbv)|(refine zL hg c2 rfl (fun R0 R1 ha hb=> ?_);cases R1<;>cbv)|((first|refine aJ hg m0 rfl (fun R0 ha=> ?_)|refine aJ hg m2 rfl (fun R0 ha=> ?_)|refine aJ hg (aM _) rfl (fun R0 ha=> ?_));cbv)|(split<;>rename_i hh<;>(try rw [hh])<;>(try simp only [di hg]at hh)<;>(first|(exfalso;omega)|cbv)))
 all_goals exact aO hF (by simp only [Ih,(cu hg)]at *;subst_vars;simp_all [zX])
theorem uC(p s:ah)(rtl:Bool)(wide high:Int):PC0 82 [.agg (apC p s rtl wide high)] (.tup [agP (apX s rtl wide high),agP (apY s rtl wide high)]):=by
 have q0:=sX p s rtl wide high
 have q1:=sW p s rtl wide high
 have m0:=bL p s rtl wide high 0
 have m1:=bL p s rtl wide high 1
 have m2:=bL p s rtl wide high 2
 have m3:=bL p s rtl wide high 3
 have fw:=fc s true wide
 have fh:=fc s false high
 have br:=gR s
 have bo:=dF s
 refine Dd [(16,.op 0 (.op 1 (.op 2 (.op 3 .done .none) .none) (.op 2 (.op 1 (.op 3 .done .none) .none) .none)) (.op 1 (.op 0 (.op 2 (.op 3 .done .none) .none) .none) .none))] (c:=jD f82) bq func82 (by kernel_rfl) (by kernel_rfl) (by rfl) (by kernel_rfl) fun g F hg hF=> ?_
 cbv
 repeat'(first|((first|refine aJ hg fw rfl (fun R0 ha=> ?_)|refine aJ hg fh rfl (fun R0 ha=> ?_)|refine aY hg q0 rfl (fun R0 ha=> ?_)|refine aY hg q1 rfl (fun R0 ha=> ?_)|refine aY hg (br _ _) rfl (fun R0 ha=> ?_)|refine aJ hg m0 rfl (fun R0 ha=> ?_)|refine aJ hg m1 rfl (fun R0 ha=> ?_)|refine aJ hg m2 rfl (fun R0 ha=> ?_)|refine aJ hg m3 rfl (fun R0 ha=> ?_)|refine jk hg (eY _ _ _) rfl (fun R0 R1 ha hb=> ?_)|refine aY hg (bo _ _ _) rfl (fun R0 ha=> ?_)|refine nf hg (dD _) rfl (fun R0 R1 ha hb=> ?_));cbv)|(split<;>rename_i hh<;>(try rw [hh])<;>(try simp only [di hg]at hh)<;>(first|(exfalso;omega)|cbv)))
 all_goals(clear q0 q1 m0 m1 m2 m3 fw fh br bo;repeat'(first|exact True.intro|apply And.intro))
 all_goals refine JC hF ?_
 all_goals(simp only [(aG hg)]at *;clear hF hg;simp only [apX,apY,apW,apH,Gy,IY,HC];grind)
theorem qk(p s:ah)(wide high:Int)(rtl:Bool):PC0 74 [.agg (lc (ah.c p)),.agg (lc (ah.c s)),ai wide,ai high,abl rtl] (.tup [agP (apX s rtl (wg p wide) (xS p high)),agP (apY s rtl (wg p wide) (xS p high))]):=by
 have cp:=nW p wide high
 have br:=jr s
 have ro:=th s
 refine aV func74 fun g F hg hF=> ?_
 cbv
 refine DZ hg cp rfl (fun W H hW hH=> ?_)
 cbv
 have mw:=jJ s true rtl W
 refine aY hg mw rfl (fun MW hc=> ?_)
 cbv
 have mh:=jJ s false rtl W
 refine aY hg mh rfl (fun MH hb=> ?_)
 cbv
 have kw:=lG p s true W W rtl MW hc
 refine aY hg kw rfl (fun KW hf=> ?_)
 cbv
 have kh:=lG p s false H W rtl MH hb
 refine aY hg kh rfl (fun KH he=> ?_)
 cbv
 clear cp mw mh kw kh
 repeat'(first|((first|refine aY hg (br _ _) rfl (fun R0 ha=> ?_)|refine jk hg (ro _ _ _ _) rfl (fun R0 R1 ha hd=> ?_));cbv)|(split<;>rename_i hh<;>(try rw [hh])<;>(try simp only [di hg]at hh)<;>(first|(exfalso;omega)|cbv)))
 all_goals refine JC hF ?_
 all_goals(clear hF hg br ro;simp only [apX,apY,apW,apH,<-hW,<-hH];grind)
def kf(s:ah):Bool:=decide (s.dir=1)||decide (s.dir=3)
def mc(s:ah)(rtl:Bool):Bool:=if s.dir=1 then rtl else if s.dir=3 then !rtl else decide (s.dir=4)
def mE(s:ah)(rtl:Bool):Bool:=xor (decide (s.wrap=3)) (rtl&& !kf s)
def sd1(row iE:Bool):Int:=if row then(if iE then 2 else 0)else(if iE then 3 else 1)
def sd2(row iE:Bool):Int:=if row then(if iE then 0 else 2)else(if iE then 1 else 3)
def Cv(s k:ah):Int:=if(if k.self=0 then s.items else k.self)=5/\kf s=false then 2 else(if k.self=0 then s.items else k.self)
def Gs(inner at_ size:Int)(iE:Bool):Int:=if iE then wrap64 (wrap64 (inner-at_)-size)else at_
def jG(s:ah)(wide:Bool):Int:=if wide then cl s.colGap else cl s.rowGap
def xn(m:bI)(sd:Int)(rtl:Bool):Bool:=decide ((rF m sd rtl).kind=3)
def tak(s:aK)(n:Int):Int:=if s.mode=3\/(s.mode=2/\s.n<n)then cl s.n else cl n
def lw(s:aK):Int:=if s.mode=2\/s.mode=3 then s.n else-1
def E7(s:aK):aK:=if s.mode=3 then⟨2,s.n⟩else s
def knS(s:aK):Int:=if s.mode=3 then s.n else-1
def xm(c:Int):Int:=if c=3 then 2 else if c=4 then 3 else if c=5 then 4 else if c=6 then 5 else 1
def vM(x:aw):Bool:=rng x.size 0 1048576&&(rng x.base 0 1048576&&(rng x.before (-1048576) 1048576&&(rng x.behind (-1048576) 1048576&&rng x.align 1 5)))
def onB(x:aw):Bool:=decide (x.align=5)&&(!x.autoBefore&& !x.autoBehind)
def Bq(x:aw):Bool:=decide (x.align=1)&&(!x.autoBefore&& !x.autoBehind)
def Hy(x:aw)(cross base:Int):Int:=
 if vM x=false then 0 else
 let free:=wrap64 (wrap64 (wrap64 (cross-x.size)-x.before)-x.behind)
 if x.autoBefore||x.autoBehind then(if free<=0\/x.autoBefore=false then x.before else if x.autoBehind then wrap64 (x.before+fdv free 2)else wrap64 (x.before+free))
 else if x.align=3 then wrap64 (x.before+free)else if x.align=4 then wrap64 (x.before+fdv free 2)else if x.align=5 then wrap64 (base-x.base)else x.before
theorem gX(s:ah):PC0 205 [.agg (lc (ah.c s))] (.t (abl (kf s))):=by
 refine aV func205 fun g F hg hF=> ?_
 cbv
 repeat'(first|(split<;>rename_i hh<;>(try rw [hh])<;>(try simp only [di hg]at hh)<;>cbv))
 all_goals exact bm hF (by(try simp only [bj hg,gk hg,zqn]);clear hF hg;simp_all [kf])
theorem ia(s:ah):PC0 229 [.agg (lc (ah.c s))] (.t (abl (kf s))):=by
 refine aV func229 fun g F hg hF=> ?_
 cbv
 repeat'(first|(split<;>rename_i hh<;>(try rw [hh])<;>(try simp only [di hg]at hh)<;>cbv))
 all_goals exact bm hF (by(try simp only [bj hg,gk hg,zqn]);clear hF hg;simp_all [kf])
theorem lR(s:ah)(rtl:Bool):PC0 223 [.agg (lc (ah.c s)),abl rtl] (.t (abl (mc s rtl))):=by
 cases rtl<;>(refine aV func223 fun g F hg hF=> ?_;cbv;repeat'(first|(split<;>rename_i hh<;>(try rw [hh])<;>(try simp only [di hg]at hh)<;>cbv)))
 all_goals exact bm hF (by(try simp only [bj hg,gk hg,zqn]);clear hF hg;simp_all [mc])
theorem mt(s:ah)(rtl:Bool):PC0 189 [.agg (lc (ah.c s)),abl rtl] (.t (abl (mc s rtl))):=by
 cases rtl<;>(refine aV func189 fun g F hg hF=> ?_;cbv;repeat'(first|(split<;>rename_i hh<;>(try rw [hh])<;>(try simp only [di hg]at hh)<;>cbv)))
 all_goals exact bm hF (by(try simp only [bj hg,gk hg,zqn]);clear hF hg;simp_all [mc])
theorem k9(s:ah)(rtl:Bool):PC0 225 [.agg (lc (ah.c s)),abl rtl] (.t (abl (mE s rtl))):=by
 have c1:=gX s
 cases rtl<;>(refine aV func225 fun g F hg hF=> ?_;cbv;repeat'(first|(refine bf hg c1 rfl (fun R0 ha=> ?_);cases R0<;>cbv)|(split<;>rename_i hh<;>(try rw [hh])<;>(try simp only [di hg]at hh)<;>cbv)))
 all_goals exact bm hF (by(try simp only [bj hg,gk hg,zqn]);clear hF hg;simp_all [mE])
theorem lp(s:ah)(rtl:Bool):PC0 191 [.agg (lc (ah.c s)),abl rtl] (.t (abl (mE s rtl))):=by
 have c1:=ia s
 cases rtl<;>(refine aV func191 fun g F hg hF=> ?_;cbv;repeat'(first|(refine bf hg c1 rfl (fun R0 ha=> ?_);cases R0<;>cbv)|(split<;>rename_i hh<;>(try rw [hh])<;>(try simp only [di hg]at hh)<;>cbv)))
 all_goals exact bm hF (by(try simp only [bj hg,gk hg,zqn]);clear hF hg;simp_all [mE])
theorem lO(row iE:Bool):PC0 313 [abl row,abl iE] (.tup [ai (sd1 row iE),ai (sd2 row iE)]):=by
 cases row<;>cases iE<;>(refine aV func313 fun g F hg hF=> ?_;cbv)
 all_goals exact sL hF (by exact⟨rfl,rfl⟩)
theorem nu(row iE:Bool):PC0 282 [abl row,abl iE] (.tup [ai (sd1 row iE),ai (sd2 row iE)]):=by
 cases row<;>cases iE<;>(refine aV func282 fun g F hg hF=> ?_;cbv)
 all_goals exact sL hF (by exact⟨rfl,rfl⟩)
theorem qp(s:ah)(rtl:Bool):PC0 293 [.agg (lc (ah.c s)),abl rtl] (.tup [ai (sd1 (kf s) (mc s rtl)),ai (sd2 (kf s) (mc s rtl))]):=by
 have c1:=gX s
 have c2:=lR s rtl
 have c3:=lO
 refine aV func293 fun g F hg hF=> ?_
 cbv
 repeat'(first|(refine bf hg c1 rfl (fun R0 ha=> ?_);cases R0<;>cbv)|(refine bf hg c2 rfl (fun R0 ha=> ?_);cases R0<;>cbv)|(refine BD hg (c3 _ _) rfl (fun R0 R1 ha hb=> ?_);cbv)|(split<;>rename_i hh<;>(try rw [hh])<;>(try simp only [di hg]at hh)<;>cbv))
 all_goals exact sL hF (by subst_vars;simp_all)
theorem lj(s:ah)(rtl:Bool):PC0 232 [.agg (lc (ah.c s)),abl rtl] (.tup [ai (sd1 (kf s) (mc s rtl)),ai (sd2 (kf s) (mc s rtl))]):=by
 have c1:=ia s
 have c2:=mt s rtl
 have c3:=nu
 refine aV func232 fun g F hg hF=> ?_
 cbv
 repeat'(first|(refine bf hg c1 rfl (fun R0 ha=> ?_);cases R0<;>cbv)|(refine bf hg c2 rfl (fun R0 ha=> ?_);cases R0<;>cbv)|(refine BD hg (c3 _ _) rfl (fun R0 R1 ha hb=> ?_);cbv)|(split<;>rename_i hh<;>(try rw [hh])<;>(try simp only [di hg]at hh)<;>cbv))
 all_goals exact sL hF (by subst_vars;simp_all)
theorem pd(s:ah)(rtl:Bool):PC0 292 [.agg (lc (ah.c s)),abl rtl] (.tup [ai (sd1 (!kf s) (mE s rtl)),ai (sd2 (!kf s) (mE s rtl))]):=by
 have c1:=gX s
 have c2:=k9 s rtl
 have c3:=lO
 refine aV func292 fun g F hg hF=> ?_
 cbv
 repeat'(first|(refine bf hg c1 rfl (fun R0 ha=> ?_);cases R0<;>cbv)|(refine bf hg c2 rfl (fun R0 ha=> ?_);cases R0<;>cbv)|(refine BD hg (c3 _ _) rfl (fun R0 R1 ha hb=> ?_);cbv)|(split<;>rename_i hh<;>(try rw [hh])<;>(try simp only [di hg]at hh)<;>cbv))
 all_goals exact sL hF (by subst_vars;simp_all)
theorem jS(s:ah)(rtl:Bool):PC0 239 [.agg (lc (ah.c s)),abl rtl] (.tup [ai (sd1 (!kf s) (mE s rtl)),ai (sd2 (!kf s) (mE s rtl))]):=by
 have c1:=ia s
 have c2:=lp s rtl
 have c3:=nu
 refine aV func239 fun g F hg hF=> ?_
 cbv
 repeat'(first|(refine bf hg c1 rfl (fun R0 ha=> ?_);cases R0<;>cbv)|(refine bf hg c2 rfl (fun R0 ha=> ?_);cases R0<;>cbv)|(refine BD hg (c3 _ _) rfl (fun R0 R1 ha hb=> ?_);cbv)|(split<;>rename_i hh<;>(try rw [hh])<;>(try simp only [di hg]at hh)<;>cbv))
 all_goals exact sL hF (by subst_vars;simp_all)
theorem nm(s k:ah):PC0 265 [.agg (lc (ah.c s)),.agg (lc (ah.c k))] (.i (Cv s k)):=by
 have c1:=gX s
 refine aV func265 fun g F hg hF=> ?_
 cbv
 repeat'(first|(refine bA hg c1 rfl (fun R0 ha=> ?_);cases R0<;>cbv)|(split<;>rename_i hh<;>(try rw [hh])<;>(try simp only [di hg]at hh)<;>cbv))
 all_goals exact aO hF (by simp only [Cv];grind)
theorem nw(s k:ah):PC0 243 [.agg (lc (ah.c s)),.agg (lc (ah.c k))] (.i (Cv s k)):=by
 have c1:=ia s
 refine aV func243 fun g F hg hF=> ?_
 cbv
 repeat'(first|(refine bA hg c1 rfl (fun R0 ha=> ?_);cases R0<;>cbv)|(split<;>rename_i hh<;>(try rw [hh])<;>(try simp only [di hg]at hh)<;>cbv))
 all_goals exact aO hF (by simp only [Cv];grind)
theorem lQ(i a s:Int)(b:Bool):PC0 222 [ai i,ai a,ai s,abl b] (.i (Gs i a s b)):=by
 cases b<;>(refine aV func222 fun g F hg hF=> ?_;cbv)
 all_goals exact aO hF (by(try simp only [cu hg]);rfl)
theorem mr(i a s:Int)(b:Bool):PC0 187 [ai i,ai a,ai s,abl b] (.i (Gs i a s b)):=by
 cases b<;>(refine aV func187 fun g F hg hF=> ?_;cbv)
 all_goals exact aO hF (by(try simp only [cu hg]);rfl)
theorem gY(s:ah)(w:Bool):PC0 211 [.agg (lc (ah.c s)),abl w] (.i (jG s w)):=by
 cases w<;>(refine aV func211 fun g F hg hF=> ?_;cbv;repeat'(first|(refine aY hg (aI _) rfl (fun R0 ha=> ?_);cbv)|(split<;>rename_i hh<;>(try rw [hh])<;>(try simp only [di hg]at hh)<;>cbv)))
 all_goals exact aO hF (by subst_vars;rfl)
theorem jh(s:ah)(w:Bool):PC0 177 [.agg (lc (ah.c s)),abl w] (.i (jG s w)):=by
 cases w<;>(refine aV func177 fun g F hg hF=> ?_;cbv;repeat'(first|(refine aY hg (aM _) rfl (fun R0 ha=> ?_);cbv)|(split<;>rename_i hh<;>(try rw [hh])<;>(try simp only [di hg]at hh)<;>cbv)))
 all_goals exact aO hF (by subst_vars;rfl)
theorem lV(s:bI)(sd:Int)(rtl:Bool):PC0 294 [.agg (lc (bI.c s)),ai sd,abl rtl] (.t (abl (xn s sd rtl))):=by
 have c1:=j7 s sd rtl
 refine aV func294 fun g F hg hF=> ?_
 cbv
 repeat'(first|(refine nf hg c1 rfl (fun R0 R1 ha hb=> ?_);cbv)|(split<;>rename_i hh<;>(try rw [hh])<;>(try simp only [di hg]at hh)<;>cbv))
 all_goals exact bm hF (by(try simp only [bj hg]);subst_vars;simp [xn];try exact(zqn _ _))
theorem dP(s:bI)(sd:Int)(rtl:Bool):PC0 235 [.agg (lc (bI.c s)),ai sd,abl rtl] (.t (abl (xn s sd rtl))):=by
 have c1:=kz s sd rtl
 refine aV func235 fun g F hg hF=> ?_
 cbv
 repeat'(first|(refine nf hg c1 rfl (fun R0 R1 ha hb=> ?_);cbv)|(split<;>rename_i hh<;>(try rw [hh])<;>(try simp only [di hg]at hh)<;>cbv))
 all_goals exact bm hF (by(try simp only [bj hg]);subst_vars;simp [xn];try exact(zqn _ _))
theorem dT(m n k:Int):PC0 151 [.agg [.J m,.J n],ai k] (.i (tak ⟨m,n⟩ k)):=by
 refine aV func151 fun g F hg hF=> ?_
 cbv
 repeat'(first|(refine aY hg (aI _) rfl (fun R0 ha=> ?_);cbv)|(split<;>rename_i hh<;>(try rw [hh])<;>(try simp only [di hg]at hh)<;>cbv))
 all_goals exact aO hF (by simp only [tak];subst_vars;grind)
theorem fQ(m n k:Int):PC0 178 [.agg [.J m,.J n],ai k] (.i (tak ⟨m,n⟩ k)):=by
 refine aV func178 fun g F hg hF=> ?_
 cbv
 repeat'(first|(refine aY hg (aM _) rfl (fun R0 ha=> ?_);cbv)|(split<;>rename_i hh<;>(try rw [hh])<;>(try simp only [di hg]at hh)<;>cbv))
 all_goals exact aO hF (by simp only [tak];subst_vars;grind)
theorem iv(m n:Int):PC0 150 [.agg [.J m,.J n]] (.i (lw ⟨m,n⟩)):=by
 refine aV func150 fun g F hg hF=> ?_
 cbv
 repeat'(first|(split<;>rename_i hh<;>(try rw [hh])<;>(try simp only [di hg]at hh)<;>cbv))
 all_goals exact aO hF (by simp only [lw];grind)
theorem oI(m n:Int):PC0 172 [.agg [.J m,.J n]] (.i (lw ⟨m,n⟩)):=by
 refine aV func172 fun g F hg hF=> ?_
 cbv
 repeat'(first|(split<;>rename_i hh<;>(try rw [hh])<;>(try simp only [di hg]at hh)<;>cbv))
 all_goals exact aO hF (by simp only [lw];grind)
theorem lU(m n:Int):PC0 295 [.agg [.J m,.J n]] (.t (agP (E7 ⟨m,n⟩))):=by
 refine aV func295 fun g F hg hF=> ?_
 cbv
 repeat'(first|(split<;>rename_i hh<;>(try rw [hh])<;>(try simp only [di hg]at hh)<;>cbv))
 all_goals exact mA hF (by simp only [E7];grind)
theorem mu(m n:Int):PC0 283 [.agg [.J m,.J n]] (.t (agP (E7 ⟨m,n⟩))):=by
 refine aV func283 fun g F hg hF=> ?_
 cbv
 repeat'(first|(split<;>rename_i hh<;>(try rw [hh])<;>(try simp only [di hg]at hh)<;>cbv))
 all_goals exact mA hF (by simp only [E7];grind)
theorem du(m n:Int):PC0 207 [.agg [.J m,.J n]] (.i (knS ⟨m,n⟩)):=by
 refine aV func207 fun g F hg hF=> ?_
 cbv
 repeat'(first|(split<;>rename_i hh<;>(try rw [hh])<;>(try simp only [di hg]at hh)<;>cbv))
 all_goals exact aO hF (by simp only [knS];grind)
theorem eX(m n:Int):PC0 181 [.agg [.J m,.J n]] (.i (knS ⟨m,n⟩)):=by
 refine aV func181 fun g F hg hF=> ?_
 cbv
 repeat'(first|(split<;>rename_i hh<;>(try rw [hh])<;>(try simp only [di hg]at hh)<;>cbv))
 all_goals exact aO hF (by simp only [knS];grind)
theorem o7(c:Int):PC0 274 [ai c] (.i (xm c)):=by
 refine aV func274 fun g F hg hF=> ?_
 cbv
 repeat'(first|(split<;>rename_i hh<;>(try rw [hh])<;>(try simp only [di hg]at hh)<;>cbv))
 all_goals exact aO hF (by simp only [xm];grind)
theorem qG(c:Int):PC0 248 [ai c] (.i (xm c)):=by
 refine aV func248 fun g F hg hF=> ?_
 cbv
 repeat'(first|(split<;>rename_i hh<;>(try rw [hh])<;>(try simp only [di hg]at hh)<;>cbv))
 all_goals exact aO hF (by simp only [xm];grind)
theorem nS(x:aw):PC0 278 [.agg (lc (aw.c x))] (.t (abl (vM x))):=by
 refine aV func278 fun g F hg hF=> ?_
 cbv
 repeat'(first|(refine bA hg (bi _ _ _) rfl (fun R0 ha=> ?_);cases R0<;>cbv)|(split<;>rename_i hh<;>(try rw [hh])<;>(try simp only [di hg]at hh)<;>cbv))
 all_goals exact bm hF (by(try simp only [bj hg,gk hg,zqn]);clear hF hg;simp_all [vM])
theorem oG(x:aw):PC0 253 [.agg (lc (aw.c x))] (.t (abl (vM x))):=by
 refine aV func253 fun g F hg hF=> ?_
 cbv
 repeat'(first|(refine bA hg (bT _ _ _) rfl (fun R0 ha=> ?_);cases R0<;>cbv)|(split<;>rename_i hh<;>(try rw [hh])<;>(try simp only [di hg]at hh)<;>cbv))
 all_goals exact bm hF (by(try simp only [bj hg,gk hg,zqn]);clear hF hg;simp_all [vM])
theorem jm(x:aw):PC0 279 [.agg (lc (aw.c x))] (.t (abl (x.autoBefore||x.autoBehind))):=by
 obtain⟨s,b,c,p,q,a,e⟩:=x
 cases p<;>cases q<;>(refine aV func279 fun g F hg hF=> ?_;cbv)
 all_goals exact bm hF rfl
theorem oM(x:aw):PC0 252 [.agg (lc (aw.c x))] (.t (abl (onB x))):=by
 obtain⟨s,b,c,p,q,a,e⟩:=x
 cases p<;>cases q<;>(refine aV func252 fun g F hg hF=> ?_;cbv;repeat'(first|(split<;>rename_i hh<;>(try rw [hh])<;>(try simp only [di hg]at hh)<;>cbv)))
 all_goals exact bm hF (by(try simp only [bj hg,gk hg,zqn]);clear hF hg;simp_all [onB,Bq])
theorem yg(x:aw):PC0 182 [.agg (lc (aw.c x))] (.t (abl (Bq x))):=by
 obtain⟨s,b,c,p,q,a,e⟩:=x
 cases p<;>cases q<;>(refine aV func182 fun g F hg hF=> ?_;cbv;repeat'(first|(split<;>rename_i hh<;>(try rw [hh])<;>(try simp only [di hg]at hh)<;>cbv)))
 all_goals exact bm hF (by(try simp only [bj hg,gk hg,zqn]);clear hF hg;simp_all [onB,Bq])
theorem nX(x:aw):PC0 277 [.agg (lc (aw.c x))] (.t (abl (onB x))):=by
 have c1:=jm x
 obtain⟨s,b,c,p,q,a,e⟩:=x
 cases p<;>cases q<;>(refine aV func277 fun g F hg hF=> ?_;cbv;repeat'(first|(refine bA hg c1 rfl (fun R0 ha=> ?_);cases R0<;>cbv)|(split<;>rename_i hh<;>(try rw [hh])<;>(try simp only [di hg]at hh)<;>cbv)))
 all_goals exact bm hF (by(try simp only [bj hg,gk hg,zqn]);clear hF hg c1;simp_all [onB,Bq])
theorem pU(x:aw):PC0 269 [.agg (lc (aw.c x))] (.t (abl (Bq x))):=by
 have c1:=jm x
 obtain⟨s,b,c,p,q,a,e⟩:=x
 cases p<;>cases q<;>(refine aV func269 fun g F hg hF=> ?_;cbv;repeat'(first|(refine bA hg c1 rfl (fun R0 ha=> ?_);cases R0<;>cbv)|(split<;>rename_i hh<;>(try rw [hh])<;>(try simp only [di hg]at hh)<;>cbv)))
 all_goals exact bm hF (by(try simp only [bj hg,gk hg,zqn]);clear hF hg c1;simp_all [onB,Bq])
theorem nj(a b:Int):PC0 264 [ai a,ai b] (.i (if b<a then b else a)):=by
 refine aV func264 fun g F hg hF=> ?_
 cbv
 repeat'(first|(split<;>rename_i hh<;>(try rw [hh])<;>(try simp only [di hg]at hh)<;>cbv))
 all_goals exact aO hF (by grind)
theorem jl(x:aw):PC0 271 [.agg (lc (aw.c x))] (.i (wrap64 (x.before+x.behind))):=by
 refine aV func271 fun g F hg hF=> ?_
 cbv
 all_goals exact aO hF (by rw [aG hg])
theorem nV(x:aw)(cross base:Int):PC0 224 [.agg (lc (aw.c x)),ai cross,ai base] (.i (Hy x cross base)):=by
 have c1:=jm x
 have c2:=nS x
 obtain⟨s,b,c,p,q,a,e⟩:=x
 cases p<;>cases q<;>(refine aV func224 fun g F hg hF=> ?_;cbv;repeat'(first|(refine bA hg c1 rfl (fun R0 ha=> ?_);cases R0<;>cbv)|(refine bA hg c2 rfl (fun R0 ha=> ?_);cases R0<;>cbv)|(refine aJ hg (bW _ _) rfl (fun R0 ha=> ?_);cbv)|(split<;>rename_i hh<;>(try rw [hh])<;>(try simp only [di hg]at hh)<;>cbv)))
 all_goals exact aO hF (by(try simp only [cu hg,aG hg]at *);(try clear c1);clear c2 hF hg;simp only [Hy];grind)
theorem oK(x:aw)(cross base:Int):PC0 190 [.agg (lc (aw.c x)),ai cross,ai base] (.i (Hy x cross base)):=by
 have c2:=oG x
 obtain⟨s,b,c,p,q,a,e⟩:=x
 cases p<;>cases q<;>(refine aV func190 fun g F hg hF=> ?_;cbv;repeat'(first|(refine bA hg c2 rfl (fun R0 ha=> ?_);cases R0<;>cbv)|(refine aJ hg (bZ _ _) rfl (fun R0 ha=> ?_);cbv)|(split<;>rename_i hh<;>(try rw [hh])<;>(try simp only [di hg]at hh)<;>cbv)))
 all_goals exact aO hF (by(try simp only [cu hg,aG hg]at *);(try clear c1);clear c2 hF hg;simp only [Hy];grind)
end Go.Proofs.YtckchgoblpgpbaaGreat
namespace Go.Proofs.YtckchgoblpgpbaaGreat
open Go.Shelf Go.RowKit Go.Lib Go.Sort Go.Proofs
variable {P:Program}{ρ:Ren}{α:Type}[Inhabited α]
structure ly(enc:α->Value)(w:World)(blk off:Nat)(dk:Array α)(W:World):Prop where
 os:W.os=w.os
 tape:W.tape=w.tape
 output:W.output=w.output
 size:w.heap.size<=W.heap.size
 at_:∀b,b<w.heap.size->W.heap[b]? =(putRow enc w blk off dk).heap[b]?
section
variable {enc:α->Value}{w W W':World}{blk off:Nat}{d dk:Array α}
theorem ly.below(h:ly enc w blk off dk W)(hb:Below W.heap.size W W'):ly enc w blk off dk W':=
 ⟨hb.os.trans h.os,hb.tape.trans h.tape,hb.output.trans h.output,zpb h.size hb.size,fun b hl=>(hb.block b (zpu hl h.size)).trans (h.at_ b hl)⟩
theorem ly.start(hH:Holds enc w blk off d):ly enc w blk off d w:=⟨rfl,rfl,rfl,zpk _,fun b _=>by rw [putRow_self enc w blk off d hH]⟩
theorem ly.holds(h:ly enc w blk off dk W)(hblk:blk<w.heap.size)(hH:Holds enc w blk off d)(hs:dk.size=d.size):Holds enc W blk off dk:=fun j hj=>by
 have h1:=holds_putRow enc w blk off d dk hH hs j hj
 exact⟨(World.cell?_of_block (w:=putRow enc w blk off dk) (w':=W) (a:=⟨blk,off+j,none⟩) (h.at_ blk hblk)).trans h1.1,(World.frozen?_of_block (w:=putRow enc w blk off dk) (w':=W) (a:=⟨blk,off+j,none⟩) (h.at_ blk hblk)).trans h1.2⟩
theorem jd{b:Nat}(hb:b≠blk):(putRow enc w blk off dk).heap[b]? =w.heap[b]? :=by
 simp only [putRow,mapBlock,Array.getElem?_modify]
 rw [if_neg (fun e=>hb e.symm)]
theorem ly.cell(h:ly enc w blk off dk W){b k:Nat}(hb:b<w.heap.size)(hne:b≠blk):W.cell? ⟨b,k,none⟩=w.cell? ⟨b,k,none⟩:=
 World.cell?_of_block (w:=w) (w':=W) (a:=⟨b,k,none⟩) ((h.at_ b hb).trans (jd hne))
theorem uJ(W:World)(a:Addr)(u:Value)(b:Nat):∃f:Obj->Obj,∀X:World,(X.setCell a u).heap[b]? =if a.block=b then(X.heap[b]?).map f else X.heap[b]? :=by
 exact⟨_,fun X=>by simp only [World.setCell,Array.getElem?_modify];rfl⟩
theorem ly.swap(h:ly enc w blk off dk W)(hblk:blk<w.heap.size){i j:Nat}(hi:i<dk.size)(hj:j<dk.size):
  ly enc w blk off (swp dk i j) ((W.setCell ⟨blk,off+i,none⟩ (enc dk[j]!)).setCell ⟨blk,off+j,none⟩ (enc dk[i]!)):=by
 refine⟨h.os,h.tape,h.output,by simp only [World.setCell,Array.size_modify];exact h.size,fun b hb=> ?_⟩
 rw [<-putRow_swp enc w blk off dk i j hi hj]
 obtain⟨f,hf⟩:=uJ W ⟨blk,off+j,none⟩ (enc dk[i]!) b
 obtain⟨g,hg⟩:=uJ W ⟨blk,off+i,none⟩ (enc dk[j]!) b
 rw [hf,hf,hg,hg,h.at_ b hb]
theorem ly.base{o:Obj}(hblk:blk<w.heap.size)(h:ly enc (w.alloc o) blk off dk W):ly enc w blk off dk W:=by
 refine⟨h.os,h.tape,h.output,zpb (by simp) h.size,fun b hb=> ?_⟩
 rw [h.at_ b (by rw [World.size_alloc];omega)]
 simp only [putRow,mapBlock,Array.getElem?_modify]
 rw [Below.heap_alloc w o b hb]
end
def uD(P:Program)(g:Nat)(lb:Array Value)(enc:α->Value)(lt:α->α->Bool)(p:α->Prop)(blk off size:Nat)(w:World):Prop:=
 ∀(W:World)(dk:Array α),dk.size=size->(∀i,i<size->p dk[i]!)->ly enc w blk off dk W->∀i j:Nat,i<size->j<size->
  Calls P g (#[.int .i64 i,.int .i64 j]++lb) W fun e w'=>e= .returned (.bool (lt dk[i]! dk[j]!))/\Below W.heap.size W w'
theorem uD.alloc{g:Nat}{lb:Array Value}{enc:α->Value}{lt:α->α->Bool}{p:α->Prop}{blk off size:Nat}{w:World}{o:Obj}(hblk:blk<w.heap.size)(h:uD P g lb enc lt p blk off size w):uD P g lb enc lt p blk off size (w.alloc o):=
 fun W dk hs hp hW i j hi hj=>h W dk hs hp (hW.base hblk) i j hi hj
theorem Hg{p:α->Prop}{d:Array α}{i j:Nat}(hi:i<d.size)(hj:j<d.size)(h:∀k,k<d.size->p d[k]!):∀k,k<d.size->p (swp d i j)[k]! :=fun k hk=>by
 unfold swp
 by_cases h1:k=j
 ·subst h1
  rw [getElem!_set_same _ _ _ (by simpa using hj)];exact h i hi
 ·rw [getElem!_set_other _ _ _ _ h1]
  by_cases h2:k=i
  ·subst h2
   rw [getElem!_set_same _ _ _ hi];exact h j hj
  ·rw [getElem!_set_other _ _ _ _ h2];exact h k hk
set_option maxRecDepth 100000 in
theorem m7(L:LaysGg.n26 P ρ)(enc:α->Value)(lt:α->α->Bool)(p:α->Prop)(g:Nat)(lb:Array Value)(sf:Nat)(sb:Array Value)(blk off a b:Nat)(d:Array α)(w:World)
  (eg:∀args w,(callFunc g args).run P w= .ok (.enter g args) w) (hless:uD P g lb enc lt p blk off d.size w) (hswap:SwapSwaps P sf sb enc blk off d.size)
  (hp:∀i,i<d.size->p d[i]!)
  (hH:Holds enc w blk off d) (hblk:blk<w.heap.size) (hab:a<=b) (hb:b<=d.size) (hsz:d.size<4611686018427387904):
  Calls P (ρ.f 26) #[.agg #[.func (.func g) #[] lb,.func (.func sf) #[] sb],.int .i64 a,.int .i64 b] w fun e w'=>
   e= .returned (.tuple #[])/\ly enc w blk off (Sort.insertionSort lt d a b) w':=by
 have hy:=L.mixed;have t0:=L.t0;have a0:=L.a0;have z0:=L.z0;have v0:=L.v0;have t3:=L.t3;have a3:=L.a3;have z3:=L.z3;have v3:=L.v3;have t4:=L.t4;have a4:=L.a4;have z4:=L.z4;have v4:=L.v4;have hV:=L.t26;have hK:=L.a26;have h3:=L.z26;have h0:=L.v26;have hX:=L.t37;have hL:=L.a37;have h4:=L.z37;have h1:=L.v37;have hY:=L.t44;have hM:=L.a44;have h5:=L.z44;have h2:=L.v44
 have hZ:=run_underlying L.t44
 have hh:Holds enc (w.alloc (.cells #[.func (.func g) #[] lb,.func (.func sf) #[] sb] (ρ.t 44))) blk off d:=by rw [alloc_eq_grow];exact holds_grow enc w _ blk off d hblk hH
 have ha:=hless.alloc (o:= .cells #[.func (.func g) #[] lb,.func (.func sf) #[] sb] (ρ.t 44)) hblk
 have hc:blk<(w.alloc (.cells #[.func (.func g) #[] lb,.func (.func sf) #[] sb] (ρ.t 44))).heap.size:=by rw [World.size_alloc];omega
 have hv:=ly.start hh
 have fin:∀D W,ly enc (w.alloc (.cells #[.func (.func g) #[] lb,.func (.func sf) #[] sb] (ρ.t 44))) blk off D W->ly enc w blk off D W:=fun D W h=>h.base hblk
 have cc:∀k v,((w.alloc (.cells #[.func (.func g) #[] lb,.func (.func sf) #[] sb] (ρ.t 44)))).cell? ⟨w.heap.size,k,none⟩=some v->∀D W,ly enc (w.alloc (.cells #[.func (.func g) #[] lb,.func (.func sf) #[] sb] (ρ.t 44))) blk off D W->W.cell? ⟨w.heap.size,k,none⟩=some v:=fun k v h D W hW=>by
  rw [hW.cell (by rw [World.size_alloc];omega) (by omega)];exact h
 have hm:=cc 0 (.func (.func g) #[] lb) (by simp)
 have hn:=cc 1 (.func (.func sf) #[] sb) (by simp)
 clear cc
 obtain⟨w1,hw⟩:∃w1,w1=(w.alloc (.cells #[.func (.func g) #[] lb,.func (.func sf) #[] sb] (ρ.t 44))):=⟨_,rfl⟩
 rw [<-hw]at hh ha hc hv fin hm hn
 go_enter L.f26,BodyGg.n26_ntmps ρ
 go_wp2
 rw [<-hw]
 go_loopw [6] (fun vi wr=>∃(i:Nat)(dk:Array α),vi= .int .i64 i/\a<i/\i<=b+1/\dk.size=d.size/\(∀k,k<d.size->p dk[k]!)/\ly enc w1 blk off dk wr/\
   insOuter lt a b i dk=insOuter lt a b (a+1) d) (fun vi _=>b+1-(intOf vi).toNat)
 case atStart=>exact⟨a+1,d,by go_num,by omega,by omega,rfl,hp,hv,rfl⟩
 case round=>
  obtain⟨i,dk,rfl,hR,hT,hE,hu,hx,hO⟩:=hrel
  have HO:Hid (insOuter lt a b i dk=insOuter lt a b (a+1) d):=hO
  have HP:Hid (∀k,k<d.size->p dk[k]!):=hu
  have hg:Hid (ly enc w1 blk off dk wr):=hx
  have hJ:Hid (∀i,i<d.size->p d[i]!):=hp
  have HL:Hid (uD P g lb enc lt p blk off d.size w1):=ha
  have hG:Hid (uD P g lb enc lt p blk off d.size w):=hless
  have hi:Hid (∀D W,ly enc w1 blk off D W->W.cell? ⟨w.heap.size,0,none⟩=some (.func (.func g) #[] lb)):=hm
  have hj:Hid (∀D W,ly enc w1 blk off D W->W.cell? ⟨w.heap.size,1,none⟩=some (.func (.func sf) #[] sb)):=hn
  have HF:Hid (∀D W,ly enc w1 blk off D W->ly enc w blk off D W):=fin
  clear hO hu hx hp ha hless hm hn fin
  have hB:=hi.out _ _ hg.out
  have hC:=hj.out _ _ hg.out
  go_wp2
  ·
   go_loopw [7] (fun vj hF=>∃(j:Nat)(dj:Array α),vj= .int .i64 j/\a<=j/\j<=i/\dj.size=d.size/\(∀k,k<d.size->p dj[k]!)/\ly enc w1 blk off dj hF/\
     insInner lt a j dj=insInner lt a i dk) (fun vj _=>(intOf vj).toNat)
   case atStart=>exact⟨i,dk,rfl,by omega,zpk _,hE,HP.out,hg.out,rfl⟩
   case round=>
    clear hB hC
    obtain⟨j,dj,rfl,hS,hU,hd,ht,hf,hI⟩:=hrel
    have hr:i<b:=by assumption
    have hQ:=hf.holds hc hh hd
    have c0:=hi.out _ _ hf
    have c1:=hj.out _ _ hf
    have HW:Hid (ly enc w1 blk off dj wr):=hf
    have HI:Hid (insInner lt a j dj=insInner lt a i dk):=hI
    have hk:Hid (∀k,k<d.size->p dj[k]!):=ht
    clear hf hI ht
    have hz:(j<=a\/lt dj[j]! dj[j-1]! =false)->∀W,ly enc w1 blk off dj W->∃i' dk',Value.int .i64 ((i:Int)+1)= .int .i64 (i':Nat)/\a<i'/\i'<=b+1/\dk'.size=d.size/\(∀k,k<d.size->p dk'[k]!)/\
      ly enc w1 blk off dk' W/\insOuter lt a b i' dk'=insOuter lt a b (a+1) d:=fun hs W hW=>
     ⟨i+1,dj,by go_num,by omega,by omega,hd,hk.out,hW,
      by rw [<-HO.out,insOuter_go _ _ _ _ _ hr,<-HI.out,insInner_stop _ _ _ _ hs]⟩
    have hq:Hid _:=hz
    clear hz
    by_cases hja:a<j
    ·have hl:=HL.out wr dj hd hk.out HW.out j (j-1) (by omega) (by omega)
     rw [show(((j-1:Nat):Int))=(j:Int)-1 by omega]at hl
     cases hlv:lt dj[j]! dj[j-1]! with
     |true=>
      rw [hlv]at hl
      go_wp2_with (go_at_fn g;refine hl.mono ?_;rintro e w' ⟨rfl,hbw⟩;have he:=HW.out.below hbw;have hN:=hi.out _ _ he;have hP:=hj.out _ _ he;have hA:Hid (ly enc w1 blk off dj w'):=he;have ho:=he.holds hc hh hd;clear hbw he)
      have hs:=hswap w' dj ho hd j (j-1) (by omega) (by omega)
      rw [show(((j-1:Nat):Int))=(j:Int)-1 by omega]at hs
      rw [hs,Oper.upon_value]
      go_wp2
      go_roundw
      case rel=>
       (repeat apply Exists.intro)
       refine⟨⟨j-1,swp dj j (j-1),by congr 1<;>omega,by omega,by omega,by rw [size_swp];exact hd,?_,?_,?_⟩,by rw [zqu hr,show((j-1:Nat):Int)=(j:Int)-1 by omega]⟩
       ·have:=Hg (i:=j) (j:=j-1) (d:=dj) (by omega) (by omega) (by rw [hd];exact hk.out)
        rw [hd]at this;exact this
       ·exact hA.out.swap hc (by omega) (by omega)
       ·rw [<-HI.out,insInner_go lt a j dj hja hlv]
      case measure=>simp [intOf];omega
     |false=>
      rw [hlv]at hl
      go_wp2_with (go_at_fn g;refine hl.mono ?_;rintro e w' ⟨rfl,hbw⟩)
      go_roundw
      case rel=>exact hq.out (Or.inr hlv) _ (HW.out.below hbw)
      case measure=>simp [intOf];omega
    ·go_wp2
     go_roundw
     case rel=>exact hq.out (Or.inl (by omega)) _ HW.out
     case measure=>simp [intOf];omega
  ·
   have hD:¬i<b:=by assumption
   go_end0
   exact⟨rfl,by unfold Sort.insertionSort;rw [<-HO.out,insOuter_stop _ _ _ _ _ hD];exact HF.out _ _ hg.out⟩
set_option maxRecDepth 100000 in
theorem vD(L:LaysGt.n15 P ρ)(enc:α->Value)(lt:α->α->Bool)(p:α->Prop)(g:Nat)(lb:Array Value)(sf:Nat)(sb:Array Value)(blk off:Nat)(d:Array α)(W:World)
  (eg:∀args w,(callFunc g args).run P w= .ok (.enter g args) w) (hless:uD P g lb enc lt p blk off d.size W) (hswap:SwapSwaps P sf sb enc blk off d.size)
  (hp:∀i,i<d.size->p d[i]!) (hH:Holds enc W blk off d) (hblk:blk<W.heap.size) (h20:d.size<20):
  Calls P (ρ.f 15) #[.agg #[.func (.func g) #[] lb,.func (.func sf) #[] sb],.int .i64 d.size] W fun e w'=>e= .returned (.tuple #[])/\ly enc W blk off (Sort.insertionSort lt d 0 d.size) w':=by
 have hb:=L.mixed;have t0:=L.t0;have a0:=L.a0;have z0:=L.z0;have v0:=L.v0;have t3:=L.t3;have a3:=L.a3;have z3:=L.z3;have v3:=L.v3;have t4:=L.t4;have a4:=L.a4;have z4:=L.z4;have v4:=L.v4;have hi:=L.t26;have hd:=L.a26;have hs:=L.z26;have hn:=L.v26;have hj:=L.t38;have he:=L.a38;have ht:=L.z38;have ho:=L.v38;have hk:=L.t42;have hf:=L.a42;have hu:=L.z42;have hq:=L.v42;have hl:=L.t47;have hg:=L.a47;have hv:=L.z47;have hr:=L.v47
 have hm:=run_underlying L.t42
 have hh:∀args w,(callFunc (ρ.f 29) args).run P w= .ok (.enter (ρ.f 29) args) w:=enters_of L.f29 (by kernel_rfl) rfl
 have LI:LaysGg.n26 P ρ.viaGt:=({L with}:LaysGt.n29 P ρ).elder
 have ha:Holds enc (W.alloc (.cells #[.func (.func g) #[] lb,.func (.func sf) #[] sb] (ρ.t 42))) blk off d:=by rw [alloc_eq_grow];exact holds_grow enc W _ blk off d hblk hH
 have hc:Calls P (ρ.f 29) #[.agg #[.func (.func g) #[] lb,.func (.func sf) #[] sb],.int .i64 (0:Nat),.int .i64 d.size] (W.alloc (.cells #[.func (.func g) #[] lb,.func (.func sf) #[] sb] (ρ.t 42))) fun e w'=>e= .returned (.tuple #[])/\ly enc W blk off (Sort.insertionSort lt d 0 d.size) w':=
  (m7 LI enc lt p g lb sf sb blk off 0 d.size d _ eg (hless.alloc hblk) hswap hp ha (by rw [World.size_alloc];omega) (zpn _) (zpk _) (by omega)).mono fun e w' h=>⟨h.1,h.2.base hblk⟩
 clear hless hswap hH ha hp
 go_enter L.f15,BodyGt.n15_ntmps ρ
 go_wp2
 refine wp_loop_rounds 1 ?_
 rw [rounds_succ]
 go_wp2_with (go_at_fn (ρ.f 29);refine hc.mono ?_;rintro e w1 ⟨rfl,hR⟩)
 refine wp_loop_rounds 1 ?_
 rw [rounds_succ]
 go_wp2
 all_goals first|(exfalso;omega)|(go_end0;exact⟨rfl,hR⟩)
theorem xi(L:LaysGt.n8 P ρ)(t e:TypeId)(i ie:TypeInfo)(hi:P.info? t=some i)(hd:i.desc= .slice e)(hpk:P.packed t=false)(hie:P.info? e=some ie)(ke:Nat)(hke:∀w,(Extern.Rtype.kind e).run P w= .ok ke w)
  (hs1:ie.size=1) (hagg:∀w,(isAgg e).run P w= .ok false w) (enc:α->Value) (h1:∀x,(enc x).oneCell'=true) (lt:α->α->Bool) (p:α->Prop) (g:Nat) (lb:Array Value)
  (eg:∀args w,(callFunc g args).run P w= .ok (.enter g args) w) (blk off c:Nat) (d:Array α) (h2:2<=d.size) (h20:d.size<20)
  (f:Nat) (hf:P.funcs.findIdx? (·.name== "internal/reflectlite" ++ ".Swapper$" ++toString (swapperK d.size ie ke))=some f)
  (gS:Bool) (hx:∀args W,(callFunc f args).run P W=((Extern.ReflectliteSwapper.swap gS args).run P W).andThen fun v w'=> .ok (.value v) w')
  (w:World) (hless:uD P g lb enc lt p blk off d.size w) (hp:∀i,i<d.size->p d[i]!) (hH:Holds enc w blk off d) (hblk:blk<w.heap.size):
  Calls P (ρ.f 8) #[.iface t (.slice (some ⟨blk,off,none⟩) d.size c),.func (.func g) #[] lb] w fun e w'=>
   e= .returned (.tuple #[])/\ly enc w blk off (Sort.insertionSort lt d 0 d.size) w':=by
 refine Any.sort_SliceStable_of_stable L t e i ie hi hd hpk hie ke hke _ d.size c (by omega) f hf (.func g) #[] lb w _ ?_
 have hB:sliceBound P e ie ke (some ⟨blk,off,none⟩) d.size c= #[.slice (some ⟨blk,off,none⟩) d.size c,typeHandle P e]:=by
  unfold sliceBound;rw [if_neg (swapperK_gt _ _ _ h2)]
 rw [hB]
 unfold stableWorld
 have ha:blk<(w.alloc (.cells #[.slice (some ⟨blk,off,none⟩) d.size c] t)).heap.size:=by rw [World.size_alloc];omega
 have hb:Holds enc (w.alloc (.cells #[.slice (some ⟨blk,off,none⟩) d.size c] t)) blk off d:=by rw [alloc_eq_grow];exact holds_grow enc w _ blk off d hblk hH
 refine(vD (P:=P) (ρ:=ρ) {L with} enc lt p g lb f _ blk off d _ eg ((hless.alloc hblk).alloc ha)
  (swapSwaps_of_literal gS f hx e ie hie hs1 hagg enc h1 blk off d.size c) hp (by rw [alloc_eq_grow _ (.cells #[.pointer _,.pointer _,.int .u64 151] _)];exact holds_grow enc _ _ blk off d ha hb) (by rw [World.size_alloc];omega) h20).mono ?_
 rintro e w' ⟨rfl,hR⟩
 exact⟨rfl,(hR.base ha).base hblk⟩
end Go.Proofs.YtckchgoblpgpbaaGreat
namespace Go.Proofs.YtckchgoblpgpbaaGreat
open Go.ChangeShapes Go.WideShapes Go.ChangeAt Go.RowKit Am Go.Proofs.Tryz
set_option maxRecDepth 100000
def kt(ns:List ae)(n:Int):List Int:=match ns[(n-1).toNat]? with|some x=>x.kids|none=>[]
def jR(ns:List ae)(n:Int)(k:Int):Bool:=isN ns k&&decide (upN ns k=n)
def Kr(x:ae):Bool:= !((x.measured&&(!Hf x.table.rules||decide ((0:Int)<(x.kids.length:Int))))||(!x.measured&&decide ((0:Int)<(x.table.rules.length:Int))))
def Ga(ns:List ae)(n up:Int):Bool:=decide (up=0)||decide (cnt (kt ns up) n=1)
def fP(ns:List ae)(n:Int)(x:ae):Bool:=CM x.style&&(rng (qg ns n) 1 4&&(Ga ns n x.up&&(x.kids.all (jR ns n)&&Kr x)))
def goT(ns:List ae):List ae->Int->Bool
 | [],_=>true
 |x::xs,i=>fP ns (i+1) x&&goT ns xs (i+1)
def dl(ns:List ae):Bool:=decide ((ns.length:Int)<=12)&&goT ns ns 0
theorem kC(ns:List ae):∀(xs:List ae)(k:Int),goT ns xs k=true↔∀(i:Nat)(x:ae),xs[i]? =some x->fP ns (k+(i:Int)+1) x=true
 | [],k=>by simp [goT]
 |x::xs,k=>by
  simp only [goT,zqs]
  rw [kC ns xs (k+1)]
  constructor
  ·rintro⟨h1,h2⟩ i y hy
   cases i with
   |zero=>simp at hy;subst hy;simpa using h1
   |succ i=>have:=h2 i y (by simpa using hy);rw [show k+((i+1:Nat):Int)+1=k+1+(i:Int)+1 by omega];exact this
  ·intro h
   refine⟨by simpa using h 0 x rfl,fun i y hy=> ?_⟩
   have:=h (i+1) y (by simpa using hy)
   rw [show k+((i+1:Nat):Int)+1=k+1+(i:Int)+1 by omega]at this
   exact this
variable {ns:List ae}
theorem CG{z:Int}{x:ae}(h0:0<=z)(hx:ns[z.toNat]? =some x)(h:fP ns (z+1) x=false):dl ns=false:=by
 cases hg:goT ns ns 0
 ·simp [dl,hg]
 ·have:=(kC ns ns 0).1 hg z.toNat x hx
  rw [show(0:Int)+((z.toNat:Nat):Int)+1=z+1 by omega,h]at this
  cases this
variable {z M:Int}
theorem Ab(hM:M=(ns.length:Int))(h12:M<=12)(hz:M<=z)(h:∀(i:Nat)(x:ae),i<z.toNat->ns[i]? =some x->fP ns ((i:Int)+1) x=true):dl ns=true:=by
 have hg:goT ns ns 0=true:=(kC ns ns 0).2 fun i x hx=>by
  have hi:=(zqb.1 hx).1
  have:=h i x (by omega) hx
  rwa [show(0:Int)+(i:Int)+1=(i:Int)+1 by omega]
 simp only [dl,hg,Bool.and_true,zqp]
 omega
theorem Ac{M:Int}(hM:M=(ns.length:Int))(h:¬M<=12):dl ns=false:=by
 simp only [dl,Bool.and_eq_false_iff,zqo]
 left;omega
variable {n:Int}
theorem GO{x:ae}(h0:n≠0)(hn:isN ns n=true)(hx:ns[(n-1).toNat]? =some x)(hd:rng (qg ns n) 1 4=true)(hu:x.up≠0):isN ns x.up=true:=by
 cases hi:isN ns x.up
 ·exfalso
  have hl:ns.length≠0:=fun h=>by
   have:=(bd hn).2.1
   have:=(bd hn).1
   omega
  obtain⟨L,hL⟩:∃L,ns.length=L+1:=⟨ns.length-1,by omega⟩
  rw [qg,hL,kN ns h0 hn,xy hx,w8 ns _ _ _ hu hi]at hd
  simp [rng]at hd
 ·rfl
variable {xs:List Int}
theorem wF{i:Nat}{k:Int}(h:xs[i]? =some k)(hk:jR ns n k=false):xs.all (jR ns n)=false:=by
 rw [List.all_eq_false]
 exact⟨k,zqd h,by rw [hk];decide⟩
theorem DA(hM:M=(xs.length:Int))(hz:M<=z)(h:∀(i:Nat)(v:Int),i<z.toNat->xs[i]? =some v->jR ns n v=true):xs.all (jR ns n)=true:=by
 rw [zqf]
 exact ri hM hz h
theorem wo{n:Nat}{a z:Int}(h:a=(n:Int))(hz:z<=(n:Int)):z<=a:=h▸hz
theorem GB(hM:M=(ns.length:Int))(h0:0<=z)(h1:z<M):isN ns (z+1)=true:=by
 simp only [isN,rng,zqs,zqp];omega
theorem JT{z:Int}{x:ae}(h:ns[z.toNat]? =some x):ns[(z+1-1).toNat]? =some x:=by rw [show z+1-1=z by omega];exact h
theorem sn{α:Type}{c:α->Array Value}{xs:List α}{V:LLA}(hV:V=vw c xs):aN V=(xs.length:Int):=by rw [hV,ao,ar]
theorem jZ(ns:List ae)(hl:ns.length<=1048576)(hs:∀y∈ns,y.small):PC0 34 [.agg [.view (vwA ae.ac ns)]] (.t (abl (dl ns))):=by
 obtain⟨V,hV⟩:=nmE (vwA ae.ac ns)
 have hp:aN V=(ns.length:Int):=by rw [ao,hV,bu]
 have xt:0<=aN V:=by omega
 have xe:aN V<=1048576:=by omega
 have hX:∀n,isN ns n=rng n 1 (aN V):=fun n=>by rw [hp];rfl
 have cD:=fun n=>tM ns n hl
 obtain⟨R,hR⟩:=nmE (dl ns)
 rw [<-hR]
 rw [<-hV]at cD⊢
 refine aV func34 fun g F hg hF=> ?_
 cbv
 cases h12:g .q .gtr (g .ln V) 12
 case true=>
  rw [dm hg,bz hg,zqp]at h12
  cbv
  exact bm hF (by rw [hR,Ac hp (by omega)])
 rw [dm hg,bz hg,zqo]at h12
 cbv
 refine bQ hg bq (by kernel_rfl) (fun z:Int=>[(1,.p 0),(3,.i z)]) (fun _=>[.bx 28 1 [.view V]]) (fun z=>0<=z/\z<=aN V/\∀(i:Nat)(x:ae),i<z.toNat->ns[i]? =some x->fP ns ((i:Int)+1) x=true) (fun z=>(aN V).toNat-z.toNat)
  0 [some 0] ⟨zpc 0,xt,fun i x hi=>by simp at hi⟩ (wkS [0] (by decide) ⟨⟨_,rfl,rfl,rfl⟩,zpt⟩ zr2) (fun z B xw hB=> ?_)
 obtain⟨h0,h1,h2⟩:=xw
 cbv
 cases hc:g .q .lss z (g .ln V)
 ·rw [ba hg,bz hg,zqo]at hc
  cbv
  exact bm hF (by rw [hR,Ab hp (by omega) (by omega) h2])
 rw [ba hg,bz hg,zqp]at hc
 cbv
 obtain⟨x,hx⟩:=qM (xs:=ns) h0 (ii hp hc)
 have hM:V[z.toNat]? =some x.ac:=by rw [hV];exact iq hx
 have xx:=hs x (zqd hx)
 have hf:fP ns (z+1) x=false->R=false:=fun h=>by rw [hR];exact CG h0 hx h
 have xg:=GB hp h0 hc
 have xf:=JT hx
 obtain⟨n,hn⟩:=nmE (z+1)
 rw [<-hn]at hf xg xf
 obtain⟨OK,hT⟩:=nmE (fP ns n x)
 have ha:=hT
 rw [fP]at ha
 rw [<-hT]at hf
 obtain⟨A,hA⟩:=nmE (CM x.style)
 obtain⟨Dp,hS⟩:=nmE (qg ns n)
 obtain⟨Bd,hP⟩:=nmE (rng Dp 1 4)
 obtain⟨C,hC⟩:=nmE (Ga ns n x.up)
 obtain⟨D,hD⟩:=nmE (x.kids.all (jR ns n))
 obtain⟨E,hE⟩:=nmE (Kr x)
 have hL:Bd=true->x.up≠0->isN ns x.up=true:=fun hb hu=>GO (by omega) xg xf (by rw [<-hS,<-hP];exact hb) hu
 rw [<-hA,<-hS,<-hP,<-hC,<-hD,<-hE]at ha
 have cA:=tF x.style
 have hO:=cD n
 have cB:=bi Dp 1 4
 have cT:=tE x.table.rules
 rw [<-hA]at cA
 rw [<-hS]at hO
 rw [<-hP]at cB
 have h9:∀(i:Nat)(y:ae),i<(z+1).toNat->ns[i]? =some y->OK=true->fP ns ((i:Int)+1) y=true:=fun i y hi hy hk=>by
  by_cases hw:i<z.toNat
  ·exact h2 i y hw hy
  ·obtain rfl:i=z.toNat:=by omega
   rw [hx]at hy
   cases hy
   rw [show((z.toNat:Nat):Int)+1=n by omega,<-hT];exact hk
 obtain⟨a0,a1,sa,hz,⟨hN⟩⟩:=x
 obtain⟨xF,h6,-⟩:=xx
 replace cT:=cT h6
 simp only at hL hC hD hE cA cT
 replace hM:V[z.toNat]? =some (.J a0:: .view (vw ak a1)::(lc (ah.c sa)++[.B hz,.view (vw aC.c hN)])):=hM
 obtain⟨TK,hU⟩:=nmE (Hf hN)
 rw [<-hU]at cT
 obtain⟨he,ho⟩:=nmE (vw ak a1)
 obtain⟨hh,hd⟩:=nmE (vw aC.c hN)
 have h4:=sn ho
 have h5:=sn hd
 have xz:0<=aN he:=by omega
 have xE:aN he<=1048576:=by omega
 rw [<-ho,<-hd]at hM
 rw [<-hd]at cT
 have e1:g .w .add .i64 z 1=n:=by rw [aG hg,aq _ (by omega),hn]
 refine goX hg _ h0 hM rfl ?_
 cbv
 (first|refine ad hg cA ?_|refine aa hg cA ?_)
 cases A
 case false=>
  cbv
  exact bm hF (hf ha).symm
 cbv
 rw [e1]
 (first|refine ad hg hO ?_|refine aa hg hO ?_)
 cbv
 (first|refine ad hg cB ?_|refine aa hg cB ?_)
 cases Bd
 case false=>
  cbv
  exact bm hF (hf (by rw [ha];rfl)).symm
 replace hL:=hL rfl
 have hj:E= !((hz&&(!TK||decide (0<aN he)))||(!hz&&decide (0<aN hh))):=by rw [hE,hU,h4,h5];rfl
 clear hE hU
 by_cases hu:a0=0
 case' pos=>
  have xd:C=true:=by rw [hC,Ga,hu];rfl
  have eu:g .q .neq a0 0=false:=by rw [bC hg];simpa using hu
  cbv
  rw [eu]
 case' neg=>
  have eu:g .q .neq a0 0=true:=by rw [bC hg];simpa using hu
  have xu:=hL hu
  obtain⟨u1,u2,xb,h3⟩:=bd xu
  have xi:a0<=1048576:=zpv (wo hp u2) xe
  have hJ:V[(a0-1).toNat]? =some xb.ac:=by rw [hV];exact iq h3
  have xh:kt ns a0=xb.kids:=by unfold kt;rw [h3]
  have xv:=(hs xb (zqd h3))
  obtain⟨b0,b1,sb,xn,⟨h7⟩⟩:=xb
  obtain⟨xA,xB,-⟩:=xv
  simp only at xh
  replace hJ:V[(a0-1).toNat]? =some (.J b0:: .view (vw ak b1)::(lc (ah.c sb)++[.B xn,.view (vw aC.c h7)])):=hJ
  have cH:=nR b1 n xA
  obtain⟨Cn,xc⟩:=nmE (cnt b1 n)
  have xa:C=decide (Cn=1):=by rw [hC,Ga,xh,xc];simp [hu]
  rw [<-xc]at cH
  obtain⟨xC,hG⟩:=nmE (vw ak b1)
  obtain⟨xl,hH⟩:=nmE (vw aC.c h7)
  rw [<-hG,<-hH]at hJ
  rw [<-hG]at cH
  cbv
  rw [eu]
  cbv
  (first|refine ad hg (eI V a0 u1 xi hJ) ?_|refine aa hg (eI V a0 u1 xi hJ) ?_)
  cbv
  rw [e1]
  (first|refine ad hg cH ?_|refine aa hg cH ?_)
  cbv
  cases hcn:g .q .neq Cn 1
  case true=>
   rw [bC hg,bne_iff_ne]at hcn
   have xq:C=false:=by rw [xa];simpa using hcn
   cbv
   exact bm hF (hf (by rw [ha,xq];simp)).symm
  rw [bC hg,zqq]at hcn
  have xd:C=true:=by rw [xa,hcn];rfl
 all_goals
  cbv
  refine bQ hg bq (by kernel_rfl) (fun j:Int=>[(1,.p 0),(3,.i z),(4,.p 1),(5,.i j)]) (fun _=>[.bx 28 1 [.view V],.bx 69 64 (.J a0:: .view he::(lc (ah.c sa)++[.B hz,.view hh]))]) (fun j:Int=>0<=j/\j<=aN he/\∀(i:Nat)(v:Int),i<j.toNat->a1[i]? =some v->jR ns n v=true) (fun j=>(aN he).toNat-j.toNat)
   0 [some 0,some 1] ⟨zpc 0,xz,fun i v hi=>by simp at hi⟩ (wkS [0,1] (by decide) ⟨⟨_,rfl,rfl,rfl⟩,⟨_,rfl,rfl,rfl⟩,zpt⟩ zr4) (fun j B2 hZ xp=> ?_)
  obtain⟨k0,k1,k2⟩:=hZ
  cbv
  cases hk:g .q .lss j (g .ln he)
  ·rw [ba hg,bz hg,zqo]at hk
   have xr:D=true:=by rw [hD];exact DA h4 (by omega) k2
   replace ha:OK=E:=by rw [ha,xd,xr];simp
   cases hz
   ·replace hj:E= !(decide (0<aN hh)):=by rw [hj];simp
    cbv
    cases ht:g .q .gtr (g .ln hh) 0
    case true=>
     rw [dm hg,bz hg,zqp]at ht
     cbv
     exact bm hF (hf (by rw [ha,hj];simpa using ht)).symm
    rw [dm hg,bz hg,zqo]at ht
    have hm:OK=true:=by rw [ha,hj];simpa using ht
    cbv
    rw [e1,hn]
    exact iE hB (z+1) [some 0] (wkS [0] (by decide) ⟨⟨_,rfl,rfl,rfl⟩,zpt⟩ zr2) ⟨by omega,by omega,fun i y hi hy=>h9 i y hi hy hm⟩ (by omega)
   ·replace hj:E= !(!TK||decide (0<aN he)):=by rw [hj];simp
    cbv
    (first|refine ad hg cT ?_|refine aa hg cT ?_)
    cases TK
    case false=>
     cbv
     exact bm hF (hf (by rw [ha,hj];rfl)).symm
    cbv
    cases ht:g .q .gtr (g .ln he) 0
    case true=>
     rw [dm hg,bz hg,zqp]at ht
     cbv
     exact bm hF (hf (by rw [ha,hj];simpa using ht)).symm
    rw [dm hg,bz hg,zqo]at ht
    have hm:OK=true:=by rw [ha,hj];simpa using ht
    cbv
    rw [e1,hn]
    exact iE hB (z+1) [some 0] (wkS [0] (by decide) ⟨⟨_,rfl,rfl,rfl⟩,zpt⟩ zr2) ⟨by omega,by omega,fun i y hi hy=>h9 i y hi hy hm⟩ (by omega)
  rw [ba hg,bz hg,zqp]at hk
  cbv
  obtain⟨y,hy⟩:=qM (xs:=a1) k0 (ii h4 hk)
  have xk:he[j.toNat]? =some (lc (ak y)):=by rw [ho];exact aZ hy
  have ci:=gW V y
  rw [<-hX y]at ci
  refine goX hg _ k0 xk rfl ?_
  cbv
  cases hik:isN ns y
  ·rw [hik]at ci
   have hQ:D=false:=by rw [hD];exact wF hy (by rw [jR,hik];rfl)
   (first|refine ad hg ci ?_|refine aa hg ci ?_)
   cbv
   exact bm hF (hf (by rw [ha,hQ];simp)).symm
  rw [hik]at ci
  (first|refine ad hg ci ?_|refine aa hg ci ?_)
  obtain⟨i1,i2,x,xj⟩:=bd hik
  have hw:y<=1048576:=zpv (wo hp i2) xe
  have hK:V[(y-1).toNat]? =some x.ac:=by rw [hV];exact iq xj
  have hr:=xy xj
  obtain⟨c0,c1,sc,xo,⟨h8⟩⟩:=x
  simp only at hr
  replace hK:V[(y-1).toNat]? =some (.J c0:: .view (vw ak c1)::(lc (ah.c sc)++[.B xo,.view (vw aC.c h8)])):=hK
  obtain⟨xD,hW⟩:=nmE (vw ak c1)
  obtain⟨xm,hI⟩:=nmE (vw aC.c h8)
  rw [<-hW,<-hI]at hK
  cbv
  refine goX hg _ k0 xk rfl ?_
  cbv
  (first|refine ad hg (eI V y i1 hw hK) ?_|refine aa hg (eI V y i1 hw hK) ?_)
  cbv
  rw [e1]
  cases hq:g .q .neq c0 n
  case true=>
   rw [bC hg,bne_iff_ne]at hq
   have hQ:D=false:=by rw [hD];exact wF hy (by rw [jR,hik,hr];simpa using hq)
   cbv
   exact bm hF (hf (by rw [ha,hQ];simp)).symm
  rw [bC hg,zqq]at hq
  have hY:jR ns n y=true:=by rw [jR,hik,hr];simpa using hq
  cbv
  have e3:g .w .add .i64 j 1=j+1:=by rw [aG hg,aq _ (by omega)]
  rw [e3]
  exact iE xp (j+1) [some 0,some 1] (wkS [0,1] (by decide) ⟨⟨_,rfl,rfl,rfl⟩,⟨_,rfl,rfl,rfl⟩,zpt⟩ zr4) ⟨by omega,by omega,fun i v hi hv=>by
   by_cases hw:i<j.toNat
   ·exact k2 i v hw hv
   ·obtain rfl:i=j.toNat:=by omega
    rw [hy]at hv
    cases hv
    exact hY⟩ (by omega)
end Go.Proofs.YtckchgoblpgpbaaGreat
