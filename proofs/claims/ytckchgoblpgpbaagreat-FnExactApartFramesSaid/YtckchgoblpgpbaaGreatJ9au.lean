/- Valid trees, as the reference tells them. -/
import Derived.Shelf.GgSortMore.Stable
import Derived.Below
import Derived.Test.YtckchgoblpgpbaaGreatJ9at
set_option linter.unusedVariables false
set_option linter.unusedSimpArgs false
set_option maxHeartbeats 16000000
namespace Go.Proofs.YtckchgoblpgpbaaGreat
open Go.ChangeShapes Go.WideShapes Go.ChangeAt Go.RowKit Am Go.Proofs.Tryz
set_option maxRecDepth 100000
theorem tD(x:jP)(hs:x.small):PC0 119 [.agg x.ac] (.t (.agg x.ac)):=by
 obtain⟨a0⟩:=x
 obtain⟨hh,-⟩:=hs
 show PC0 _ [.agg [.view (vw aD.c a0)]] (.t (.agg [.view (vw aD.c a0)]))
 have c0:=DS (mX a0 hh)
 obtain⟨he,ha⟩:=nmE (vw aD.c a0)
 have hf:=lmV ha
 have hb:=imV ha
 have hd:=kmV (k:=3) ha fun _=>rfl
 have hc:=dmV ha
 rw [<-ha]at c0
 rw [<-ha]
 refine aU func119 fun g F hg hF=> ?_
 cbv
 repeat'(refine bI hg c0 (bv rfl) hb ?_;cbv)
 exact uJ [.agg [.view he]] hF (.agg (by repeat'(first|exact .nil|refine .cons ?_ ?_|exact .imm _|exact .view _|exact aX (ab:=⟨_,_,he⟩) rfl hd hc)) .nil) ⟨rfl,rfl⟩
theorem tL(x:jP)(hs:x.small):PC0 137 [.agg x.ac,.agg x.ac] (.t (abl true)):=by
 obtain⟨a0⟩:=x
 obtain⟨hc,-⟩:=hs
 show PC0 _ [.agg [.view (vw aD.c a0)],.agg [.view (vw aD.c a0)]] (.t (abl true))
 have c0:=tN a0 a0 hc
 rw [zqu rfl]at c0
 obtain⟨hd,ha⟩:=nmE (vw aD.c a0)
 have hb:=lmV ha
 rw [<-ha]at c0
 rw [<-ha]
 refine aU func137 fun g F hg hF=> ?_
 cbv
 have q:∀a:Int,g .q .neq a a=false:=fun a=>by rw [bB hg];simp
 have qb:∀a:Bool,g .qb .neq a a=false:=fun a=>by rw [gg hg];simp
 repeat'(refine ad hg c0 ?_;cbv)
 exact bk hF rfl
theorem tG(x:jP)(L:Int)(hf:x.fit)(h0:0<=L)(h1:L<=1048576):bX prog 102 [.agg x.ac,ai L] fun res ha=>∃R:Int,res= .i R/\ha=[]/\(R<=L\/R<0)/\(0<=R->x.small):=by
 obtain⟨a0⟩:=x
 obtain⟨hj,-⟩:=hf
 show bX _ _ [.agg [.view (vw aD.c a0)],ai L] (fun res ha=>∃R:Int,res= .i R/\ha=[]/\(R<=L\/R<0)/\(0<=R->jP.small ⟨a0⟩))
 have c0:=fun(M:Int)(h0:0<=M)(h1:M<=1048576)=>szZ (tH (vw aD.c a0) M (by rw [ar];exact hj) h0 h1)
 obtain⟨hd,hb⟩:=nmE (vw aD.c a0)
 have hc:=lmV hb
 have hh:∀(M:Int),0<=M->M<=1048576->bX _ _ [.c (.view hd),ai M] (fun res ha=>∃R:Int,res= .i R/\ha=[]/\(R<=M\/R<0)/\(0<=R->((hd.length:Nat):Int)<=M)):=fun M h0 h1=>by have:=c0 M h0 h1;rw [<-hb]at this;exact this
 rw [<-hb]
 refine aU func102 fun g F hg hF=> ?_
 cbv
 refine Dr hg (hh L h0 h1) rfl (fun R0 he=> ?_)
 obtain⟨he,hi⟩:=he
 cbv
 cases e0:g .q .lss R0 0
 case true=>
  cbv
  exact DK hF ⟨.inr (by decide),fun h=>absurd h (by decide)⟩
 rw [ba hg,zqo]at e0
 have p0:0<=R0:=by omega
 have r0:R0<=1048576:=by omega
 cbv
 exact DK hF ⟨.inl (by omega),fun _=>⟨zE hc (hi p0) h1,zpt⟩⟩
theorem vR(x:ae)(hs:x.small):PC0 80 [.agg x.ac] (.t (.agg x.ac)):=by
 obtain⟨a0,a1,a2,hi,⟨hc⟩⟩:=x
 obtain⟨hq,hn,-⟩:=hs
 show PC0 _ [.agg (List.append [.J a0,.view (vw aj a1)] (List.append (lc (ag.c a2)) [.B hi,.view (vw aD.c hc)]))] (.t (.agg (List.append [.J a0,.view (vw aj a1)] (List.append (lc (ag.c a2)) [.B hi,.view (vw aD.c hc)]))))
 have c1:=DS (oh a1 hq)
 have hj:PC0 119 [.agg [.view (vw aD.c hc)]] (.t (.agg [.view (vw aD.c hc)])):=tD ⟨hc⟩ ⟨hn,zpt⟩
 obtain⟨ho,hb⟩:=nmE (vw aj a1)
 have hp:=lmV hb
 have hf:=imV hb
 have hm:=kmV (k:=1) hb fun _=>rfl
 have hk:=dmV hb
 obtain⟨hd,ha⟩:=nmE (vw aD.c hc)
 have hl:=lmV ha
 have hh:=kmV (k:=3) ha fun _=>rfl
 have he:=dmV ha
 rw [<-hb]at c1
 rw [<-ha]at hj
 rw [<-hb,<-ha]
 refine aU func80 fun g F hg hF=> ?_
 cbv
 repeat'((first|refine bI hg c1 (bv rfl) hf ?_|refine fU hg (jp (a2:ag)) rfl rfl ?_|refine ad hg hj ?_);cbv)
 exact uJ [.agg (List.append [.J a0,.view ho] (List.append (lc (ag.c a2)) [.B hi,.view hd]))] hF (.agg (by repeat'(first|exact .nil|refine .cons ?_ ?_|exact .imm _|exact .view _|exact aX (ab:=⟨_,_,ho⟩) rfl hm hk|exact aX (ab:=⟨_,_,hd⟩) rfl hh he)) .nil) ⟨rfl,rfl⟩
theorem v8(x:ae)(hs:x.small):PC0 88 [.agg x.ac,.agg x.ac] (.t (abl true)):=by
 obtain⟨a0,a1,a2,hh,⟨hc⟩⟩:=x
 obtain⟨hk,hf,-⟩:=hs
 show PC0 _ [.agg (List.append [.J a0,.view (vw aj a1)] (List.append (lc (ag.c a2)) [.B hh,.view (vw aD.c hc)])),.agg (List.append [.J a0,.view (vw aj a1)] (List.append (lc (ag.c a2)) [.B hh,.view (vw aD.c hc)]))] (.t (abl true))
 have c1:=v9 a1 a1 hk
 rw [zqu rfl]at c1
 have c2:PC0 136 [.agg (lc (ag.c a2)),.agg (lc (ag.c a2))] (.t (abl (decide ((a2:ag)=a2)))):=tM a2 a2
 rw [zqu rfl]at c2
 have hd:PC0 137 [.agg [.view (vw aD.c hc)],.agg [.view (vw aD.c hc)]] (.t (abl true)):=tL ⟨hc⟩ ⟨hf,zpt⟩
 obtain⟨hl,hb⟩:=nmE (vw aj a1)
 have hi:=lmV hb
 obtain⟨hj,ha⟩:=nmE (vw aD.c hc)
 have he:=lmV ha
 rw [<-hb]at c1
 rw [<-ha]at hd
 rw [<-hb,<-ha]
 refine aU func88 fun g F hg hF=> ?_
 cbv
 have q:∀a:Int,g .q .neq a a=false:=fun a=>by rw [bB hg];simp
 have qb:∀a:Bool,g .qb .neq a a=false:=fun a=>by rw [gg hg];simp
 repeat'((first|rw [q]|rw [qb]|refine ad hg c1 ?_|refine ad hg c2 ?_|refine ad hg hd ?_);cbv)
 exact bk hF rfl
theorem vV(x:ae)(L:Int)(hf:x.fit)(h0:0<=L)(h1:L<=1048576):bX prog 73 [.agg x.ac,ai L] fun res ha=>∃R:Int,res= .i R/\ha=[]/\(R<=L\/R<0)/\(0<=R->x.small):=by
 obtain⟨a0,a1,a2,hk,⟨hd⟩⟩:=x
 obtain⟨hs,hi,-⟩:=hf
 show bX _ _ [.agg (List.append [.J a0,.view (vw aj a1)] (List.append (lc (ag.c a2)) [.B hk,.view (vw aD.c hd)])),ai L] (fun res ha=>∃R:Int,res= .i R/\ha=[]/\(R<=L\/R<0)/\(0<=R->ae.small ⟨a0,a1,a2,hk,⟨hd⟩⟩))
 have c1:=fun(M:Int)(h0:0<=M)(h1:M<=1048576)=>szZ (vX (vw aj a1) M (by rw [ar];exact hs) h0 h1)
 have hl:∀(M:Int)(h0:0<=M)(h1:M<=1048576),bX prog 102 [.agg [.view (vw aD.c hd)],ai M] (fun res ha=>∃R:Int,res= .i R/\ha=[]/\(R<=M\/R<0)/\(0<=R->jP.small ⟨hd⟩)):=fun M h0 h1=>tG ⟨hd⟩ M ⟨hi,zpt⟩ h0 h1
 obtain⟨hj,hc⟩:=nmE (vw aj a1)
 have he:=lmV hc
 obtain⟨ho,hb⟩:=nmE (vw aD.c hd)
 have hh:=lmV hb
 have hp:∀(M:Int),0<=M->M<=1048576->bX _ _ [.c (.view hj),ai M] (fun res ha=>∃R:Int,res= .i R/\ha=[]/\(R<=M\/R<0)/\(0<=R->((hj.length:Nat):Int)<=M)):=fun M h0 h1=>by have:=c1 M h0 h1;rw [<-hc]at this;exact this
 simp only [<-hb]at hl
 rw [<-hc,<-hb]
 refine aU func73 fun g F hg hF=> ?_
 cbv
 refine Dr hg (hp L h0 h1) rfl (fun R0 hm=> ?_)
 obtain⟨hm,hq⟩:=hm
 cbv
 cases e0:g .q .lss R0 0
 case true=>
  cbv
  exact DK hF ⟨.inr (by decide),fun h=>absurd h (by decide)⟩
 rw [ba hg,zqo]at e0
 have p0:0<=R0:=by omega
 have r0:R0<=1048576:=by omega
 cbv
 refine Dr hg (hl R0 p0 r0) rfl (fun R1 hn=> ?_)
 obtain⟨hn,hr⟩:=hn
 cbv
 cases e1:g .q .lss R1 0
 case true=>
  cbv
  exact DK hF ⟨.inr (by decide),fun h=>absurd h (by decide)⟩
 rw [ba hg,zqo]at e1
 have p1:0<=R1:=by omega
 have r1:R1<=1048576:=by omega
 cbv
 exact DK hF ⟨.inl (by omega),fun _=>⟨zE he (hq p0) h1,(hr p1).1,zpt⟩⟩
theorem tF(xs:List ae)(hl:xs.length<=1048576)(hs:∀y∈xs,y.small):PC0 51 [.c (.view (vwA ae.ac xs))] (.t (.c (.view (vwA ae.ac xs)))):=by
 obtain⟨V,hV⟩:=nmE (vwA ae.ac xs)
 have ho:V.length=xs.length:=by rw [hV,bm]
 have kV:∀y∈V,y.length=64:=by rw [hV];exact Ba ae.len
 have dV:∀y∈V,y.all dat=true:=by rw [hV];exact oL ae.dat
 have hp:aJ V=(xs.length:Int):=by rw [ak];omega
 have hu:aJ V<=1048576:=by omega
 have ht:0<=aJ V:=by omega
 rw [<-hV]
 refine aU func51 fun g F hg hF=> ?_
 cbv
 refine F6 hg (by decide) (by rw [ho];exact hl) ?_
 cbv
 have hm:qS 64 V (List.replicate (g .ln V).toNat wR) 0:=qS.start (k:=64) (z:=wR) rfl rfl (bu hg V)
 refine bK hg bn (by kernel_rfl) (fun s:Int×LLA=>[(0,.v V),(3,.o 0),(4,.i s.1)]) (fun s=>[.rw ⟨69,64,s.2⟩]) (fun s=>qS 64 V s.2 s.1) (fun s=>(aJ V).toNat-s.1.toNat)
  (0,g .rp (g .ln V) wR) [some 0] ?_ (wkS [0] (by decide) ⟨⟨_,rfl,rfl,?_⟩,zpt⟩ zr3) (fun s B ha hB=> ?_)
 ·simp only [yP hg];exact hm
 ·simp only [yP hg];exact hm.pl
 ·obtain⟨z,es⟩:=s
  simp only at ha
  have h0:=ha.z0
  have h1:=ha.z1
  have hd:=ha.len
  cbv
  cases hc:g .q .lss z (g .ln V)
  ·cbv
   rw [ba hg,bu hg,zqo]at hc
   obtain rfl:=ha.done hc
   exact uJ [.c (.view es)] hF (.c (aX (ab:=⟨_,_,es⟩) rfl kV dV) .nil) ⟨rfl,rfl⟩
  ·cbv
   rw [ba hg,bu hg,zqp]at hc
   obtain⟨x,hx⟩:=pg (xs:=xs) h0 (fZ hp hc)
   have hq:=hs x (zqd hx)
   have he:V[z.toNat]? =some x.ac:=by rw [hV];exact ik hx
   have cx:=vR x hq
   obtain⟨a0,a1,a2,hh,⟨hf⟩⟩:=x
   replace he:V[z.toNat]? =some (List.append [.J a0,.view (vw aj a1)] (List.append (lc (ag.c a2)) [.B hh,.view (vw aD.c hf)])):=he
   replace cx:PC0 _ [.agg (List.append [.J a0,.view (vw aj a1)] (List.append (lc (ag.c a2)) [.B hh,.view (vw aD.c hf)]))] (.t (.agg (List.append [.J a0,.view (vw aj a1)] (List.append (lc (ag.c a2)) [.B hh,.view (vw aD.c hf)])))):=cx
   obtain⟨hr,hi⟩:=nmE (vw aj a1)
   obtain⟨hn,hb⟩:=nmE (vw aD.c hf)
   rw [<-hi,<-hb]at he cx
   refine goX hg _ h0 he rfl ?_
   cbv
   refine ad hg cx ?_
   cbv
   obtain⟨j,hj⟩:=nmE z.toNat
   refine Kj hg h0 hj (rU h0 (Af hd hc) hj) ?_
   cbv
   refine goN hg (ha.mem (rU h0 (Af hd hc) hj)) ?_
   cbv
   have h2:g .w .add .i64 z 1=z+1:=by rw [aG hg,ao _ (by omega)]
   rw [h2,jv hg]
   have hk:=ha.step hc hj he rfl rfl
   exact gY hB (z+1,_) [some 0] (wkS [0] (by decide) ⟨⟨_,rfl,rfl,hk.pl⟩,zpt⟩ zr3) hk (by show(aJ V).toNat-(z+1).toNat<(aJ V).toNat-z.toNat;omega)
theorem tP(xs:List ae)(hl:xs.length<=1048576)(hs:∀y∈xs,y.small):PC0 56 [.c (.view (vwA ae.ac xs)),.c (.view (vwA ae.ac xs))] (.t (abl true)):=by
 obtain⟨V,hV⟩:=nmE (vwA ae.ac xs)
 have hp:V.length=xs.length:=by rw [hV,bm]
 have hj:aJ V=(xs.length:Int):=by rw [ak];omega
 have ho:aJ V<=1048576:=by omega
 have hi:0<=aJ V:=by omega
 rw [<-hV]
 refine aU func56 fun g F hg hF=> ?_
 cbv
 have q:∀a:Int,g .q .neq a a=false:=fun a=>by rw [bB hg];simp
 rw [q]
 cbv
 refine bK hg bn (by kernel_rfl) (fun z:Int=>[(0,.v V),(1,.v V),(5,.i z)]) (fun _=>[]) (fun z=>0<=z/\z<=aJ V) (fun z=>(aJ V).toNat-z.toNat)
  0 [] ⟨zpc 0,hi⟩ (wk0 zr3) (fun z B hk hB=> ?_)
 obtain⟨h0,h1⟩:=hk
 cbv
 cases hc:g .q .lss z (g .ln V)
 ·cbv
  exact bk hF rfl
 ·rw [ba hg,bu hg,zqp]at hc
  cbv
  obtain⟨x,hx⟩:=pg (xs:=xs) h0 (fZ hj hc)
  have hm:=hs x (zqd hx)
  have hb:V[z.toNat]? =some x.ac:=by rw [hV];exact ik hx
  have cx:=v8 x hm
  obtain⟨a0,a1,a2,he,⟨hd⟩⟩:=x
  replace hb:V[z.toNat]? =some (List.append [.J a0,.view (vw aj a1)] (List.append (lc (ag.c a2)) [.B he,.view (vw aD.c hd)])):=hb
  replace cx:PC0 _ [.agg (List.append [.J a0,.view (vw aj a1)] (List.append (lc (ag.c a2)) [.B he,.view (vw aD.c hd)])),.agg (List.append [.J a0,.view (vw aj a1)] (List.append (lc (ag.c a2)) [.B he,.view (vw aD.c hd)]))] (.t (abl true)):=cx
  obtain⟨hn,hf⟩:=nmE (vw aj a1)
  obtain⟨hh,ha⟩:=nmE (vw aD.c hd)
  rw [<-hf,<-ha]at hb cx
  refine goX hg _ h0 hb rfl ?_
  cbv
  refine goX hg _ h0 hb rfl ?_
  cbv
  (refine aa hg cx ?_)
  cbv
  have h3:g .w .add .i64 z 1=z+1:=by rw [aG hg,ao _ (by omega)]
  rw [h3]
  exact gY hB (z+1) [] (wk0 zr3) ⟨by omega,by omega⟩ (by show(aJ V).toNat-(z+1).toNat<(aJ V).toNat-z.toNat;omega)
theorem tJ(xs:List ae)(L:Int)(hl:xs.length<=9223372036854775807)(hf:∀y∈xs,y.fit)(h0L:0<=L)(h1L:L<=1048576):bX prog 46 [.c (.view (vwA ae.ac xs)),ai L] fun res ha=>∃R:Int,res= .i R/\ha=[]/\(R<=L\/R<0)/\(0<=R->xs.length<=1048576/\∀y∈xs,y.small):=by
 obtain⟨V,hV⟩:=nmE (vwA ae.ac xs)
 have hz:V.length=xs.length:=by rw [hV,bm]
 have hn:aJ V=(xs.length:Int):=by rw [ak];omega
 have hw:aJ V<=9223372036854775807:=by omega
 have hs:0<=aJ V:=by omega
 have hu:aJ V<=1048576->xs.length<=1048576:=by omega
 rw [<-hV]
 refine aU func46 fun g F hg hF=> ?_
 cbv
 obtain⟨D,hD⟩:=nmE (L-aJ V)
 have e1:g .w .sub .i64 L (g .ln V)=D:=by rw [bZ hg,bu hg,ao _ (by omega),hD]
 rw [e1]
 cases e:g .q .lss D 0
 case true=>
  cbv
  exact DK hF ⟨.inr (by decide),fun h=>absurd h (by decide)⟩
 rw [ba hg,zqo]at e
 have hk:=hu (by omega)
 cbv
 refine bK hg bn (by kernel_rfl) (fun s:Int×Int=>[(0,.v V),(1,.i s.2),(5,.i s.1)]) (fun _=>[]) (fun s=>0<=s.1/\s.1<=aJ V/\0<=s.2/\s.2<=L/\∀(i:Nat)(y:ae),i<s.1.toNat->xs[i]? =some y->y.small) (fun s=>(aJ V).toNat-s.1.toNat)
  (0,D) [] ⟨zpc 0,hs,by simp only;omega,by simp only;omega,fun i y hi=>by simp at hi⟩ (wk0 zr3) (fun s B ht hB=> ?_)
 obtain⟨z,M⟩:=s
 obtain⟨h0,h1,h2,h3,h4⟩:=ht
 simp only at h0 h1 h2 h3 h4
 cbv
 cases hc:g .q .lss z (g .ln V)
 ·rw [ba hg,bu hg,zqo]at hc
  cbv
  exact DK hF ⟨.inl h3,fun _=>⟨hk,qQ hn (by omega) h4⟩⟩
 ·rw [ba hg,bu hg,zqp]at hc
  cbv
  obtain⟨x,hx⟩:=pg (xs:=xs) h0 (fZ hn hc)
  have ho:=hf x (zqd hx)
  have hd:V[z.toNat]? =some x.ac:=by rw [hV];exact ik hx
  have cx:=vV x M ho h2 (by omega)
  obtain⟨Sm,hh⟩:∃Sm:Prop,Sm=x.small:=⟨_,rfl⟩
  rw [<-hh]at cx
  have hr:Sm->∀y,xs[z.toNat]? =some y->y.small:=fun h y hy=>by rw [hx]at hy;cases hy;rw [<-hh];exact h
  clear hh ho hx
  obtain⟨a0,a1,a2,hm,⟨he⟩⟩:=x
  replace hd:V[z.toNat]? =some (List.append [.J a0,.view (vw aj a1)] (List.append (lc (ag.c a2)) [.B hm,.view (vw aD.c he)])):=hd
  replace cx:bX _ _ [.agg (List.append [.J a0,.view (vw aj a1)] (List.append (lc (ag.c a2)) [.B hm,.view (vw aD.c he)])),ai M] (fun res ha=>∃R:Int,res= .i R/\ha=[]/\(R<=M\/R<0)/\(0<=R->Sm)):=cx
  obtain⟨hv,hj⟩:=nmE (vw aj a1)
  obtain⟨hp,hb⟩:=nmE (vw aD.c he)
  rw [<-hj,<-hb]at hd cx
  refine goX hg _ h0 hd rfl ?_
  cbv
  refine Dr hg cx rfl (fun R hR=> ?_)
  obtain⟨hR,hq⟩:=hR
  cbv
  cases e5:g .q .lss R 0
  case true=>
   cbv
   exact DK hF ⟨.inr (by decide),fun h=>absurd h (by decide)⟩
  rw [ba hg,zqo]at e5
  have pR:0<=R:=by omega
  cbv
  have h6:g .w .add .i64 z 1=z+1:=by rw [aG hg,ao _ (by omega)]
  rw [h6]
  refine gY hB (z+1,R) [] (wk0 zr3) ⟨by simp only;omega,by simp only;omega,pR,by simp only;omega,fun i y hi hy=> ?_⟩ (by show(aJ V).toNat-(z+1).toNat<(aJ V).toNat-z.toNat;omega)
  by_cases hi2:i<z.toNat
  ·exact h4 i y hi2 hy
  ·have:i=z.toNat:=by simp only at hi;omega
   subst this
   exact hr (hq pR) y hy
theorem vN(x:iR)(hs:x.small):PC0 17 [.agg x.ac] (.t (.agg x.ac)):=by
 obtain⟨a0⟩:=x
 obtain⟨hh,hi,-⟩:=hs
 show PC0 _ [.agg [.view (vwA ae.ac a0)]] (.t (.agg [.view (vwA ae.ac a0)]))
 have c0:=tF a0 hh hi
 obtain⟨hb,ha⟩:=nmE (vwA ae.ac a0)
 have he:hb.length=a0.length:=by rw [ha,bm]
 have hf:az hb=true:=by rw [ha];exact lq ae.plain _
 have hd:∀y∈hb,y.length=64:=by rw [ha];exact Ba ae.len
 have hc:∀y∈hb,y.all dat=true:=by rw [ha];exact oL ae.dat
 rw [<-ha]at c0
 rw [<-ha]
 refine aU func17 fun g F hg hF=> ?_
 cbv
 repeat'(refine ad hg c0 ?_;cbv)
 exact uJ [.agg [.view hb]] hF (.agg (by repeat'(first|exact .nil|refine .cons ?_ ?_|exact .imm _|exact .view _|exact aX (ab:=⟨_,_,hb⟩) rfl hd hc)) .nil) ⟨rfl,rfl⟩
theorem vY(x:iR)(hs:x.small):PC0 20 [.agg x.ac,.agg x.ac] (.t (abl true)):=by
 obtain⟨a0⟩:=x
 obtain⟨hh,hi,-⟩:=hs
 show PC0 _ [.agg [.view (vwA ae.ac a0)],.agg [.view (vwA ae.ac a0)]] (.t (abl true))
 have c0:=tP a0 hh hi
 obtain⟨hb,ha⟩:=nmE (vwA ae.ac a0)
 have hc:hb.length=a0.length:=by rw [ha,bm]
 have hf:az hb=true:=by rw [ha];exact lq ae.plain _
 have he:∀y∈hb,y.length=64:=by rw [ha];exact Ba ae.len
 have hd:∀y∈hb,y.all dat=true:=by rw [ha];exact oL ae.dat
 rw [<-ha]at c0
 rw [<-ha]
 refine aU func20 fun g F hg hF=> ?_
 cbv
 have q:∀a:Int,g .q .neq a a=false:=fun a=>by rw [bB hg];simp
 have qb:∀a:Bool,g .qb .neq a a=false:=fun a=>by rw [gg hg];simp
 repeat'(refine ad hg c0 ?_;cbv)
 exact bk hF rfl
theorem vU(x:iR)(L:Int)(hf:x.fit)(h0:0<=L)(h1:L<=1048576):bX prog 15 [.agg x.ac,ai L] fun res hb=>∃R:Int,res= .i R/\hb=[]/\(R<=L\/R<0)/\(0<=R->x.small):=by
 obtain⟨a0⟩:=x
 obtain⟨hl,hm,-⟩:=hf
 show bX _ _ [.agg [.view (vwA ae.ac a0)],ai L] (fun res hb=>∃R:Int,res= .i R/\hb=[]/\(R<=L\/R<0)/\(0<=R->iR.small ⟨a0⟩))
 have c0:=fun(M:Int)(h0:0<=M)(h1:M<=1048576)=>tJ a0 M hl hm h0 h1
 obtain⟨hc,ha⟩:=nmE (vwA ae.ac a0)
 have hh:hc.length=a0.length:=by rw [ha,bm]
 have hk:az hc=true:=by rw [ha];exact lq ae.plain _
 have hj:∀y∈hc,y.length=64:=by rw [ha];exact Ba ae.len
 have hi:∀y∈hc,y.all dat=true:=by rw [ha];exact oL ae.dat
 simp only [<-ha]at c0
 rw [<-ha]
 refine aU func15 fun g F hg hF=> ?_
 cbv
 refine Dr hg (c0 L h0 h1) rfl (fun R0 he=> ?_)
 obtain⟨he,hd⟩:=he
 cbv
 cases e0:g .q .lss R0 0
 case true=>
  cbv
  exact DK hF ⟨.inr (by decide),fun h=>absurd h (by decide)⟩
 rw [ba hg,zqo]at e0
 have p0:0<=R0:=by omega
 have r0:R0<=1048576:=by omega
 cbv
 exact DK hF ⟨.inl (by omega),fun _=>⟨(hd p0).1,(hd p0).2,zpt⟩⟩
def rng(n l m:Int):Bool:=decide (l<=n)&&decide (n<=m)
def vOk(v:io):Bool:=if v.kind=0\/v.kind=3 then decide (v.n=0)else if v.kind=1 then rng v.n (-1048576) 1048576 else if v.kind=2 then rng v.n (-1000) 1000 else false
def zOk(v:io):Bool:=vOk v&&decide (0<=v.n)
def FA(s:bC):Bool:=vOk s.left&&(vOk s.top&&(vOk s.right&&(vOk s.bottom&&(vOk s.start&&vOk s.fin))))
def Ga(e:dp):Bool:=rng e.left 0 1048576&&(rng e.top 0 1048576&&(rng e.right 0 1048576&&rng e.bottom 0 1048576))
def stV(s:ag):List io:=[s.basis,s.width,s.height,s.minWidth,s.minHeight,s.maxWidth,s.maxHeight]
def stN(s:ag):Bool:=rng s.dir 1 4&&(rng s.wrap 1 3&&(rng s.justify 1 6&&(rng s.items 1 5&&(rng s.self 0 5&&(rng s.content 1 6&&(rng s.order (-1000) 1000&&(rng s.grow 0 1000&&(rng s.shrink 0 1000&&(rng s.ratio 0 6400&&(rng s.rowGap 0 1048576&&rng s.colGap 0 1048576))))))))))
def Ca(s:ag):Bool:=stN s&&((stV s).all zOk&&(FA s.margin&&(FA s.inset&&(Ga s.pad&&Ga s.border))))
theorem bf(n l m:Int):PC0 39 [ai n,ai l,ai m] (.t (abl (rng n l m))):=cY n l m
theorem bO(n l m:Int):PC0 68 [ai n,ai l,ai m] (.t (abl (rng n l m))):=ep n l m
theorem gB(k n:Int):PC0 95 [.agg [.J k,.J n]] (.t (abl (vOk ⟨k,n⟩))):=by
 refine aU func95 fun g F hg hF=> ?_
 cbv
 repeat'(first|(refine bz hg (bf _ _ _) rfl (fun R0 ha=> ?_);cases R0<;>cbv)|(split<;>rename_i hh<;>(try rw [hh])<;>(try simp only [dg hg]at hh)<;>cbv))
 all_goals exact bk hF (by(try simp only [bg hg]);simp only [vOk];grind)
theorem gL(k n:Int):PC0 140 [.agg [.J k,.J n]] (.t (abl (vOk ⟨k,n⟩))):=by
 refine aU func140 fun g F hg hF=> ?_
 cbv
 repeat'(first|(refine bz hg (bO _ _ _) rfl (fun R0 ha=> ?_);cases R0<;>cbv)|(split<;>rename_i hh<;>(try rw [hh])<;>(try simp only [dg hg]at hh)<;>cbv))
 all_goals exact bk hF (by(try simp only [bg hg]);simp only [vOk];grind)
theorem mR(k n:Int):PC0 64 [.agg [.J k,.J n]] (.t (abl (zOk ⟨k,n⟩))):=by
 refine aU func64 fun g F hg hF=> ?_
 cbv
 repeat'(first|(refine bz hg (gB _ _) rfl (fun R0 ha=> ?_);cases R0<;>cbv)|(split<;>rename_i hh<;>(try rw [hh])<;>(try simp only [dg hg]at hh)<;>cbv))
 all_goals exact bk hF (by(try simp only [iP hg]);simp only [zOk];grind)
theorem wg(k n:Int):PC0 96 [.agg [.J k,.J n]] (.t (abl (zOk ⟨k,n⟩))):=by
 refine aU func96 fun g F hg hF=> ?_
 cbv
 repeat'(first|(refine bz hg (gL _ _) rfl (fun R0 ha=> ?_);cases R0<;>cbv)|(split<;>rename_i hh<;>(try rw [hh])<;>(try simp only [dg hg]at hh)<;>cbv))
 all_goals exact bk hF (by(try simp only [iP hg]);simp only [zOk];grind)
theorem gC(s:bC):PC0 65 [.agg (lc (bC.c s))] (.t (abl (FA s))):=by
 obtain⟨⟨a0,a1⟩,⟨a2,a3⟩,⟨a4,a5⟩,⟨a6,a7⟩,⟨a8,a9⟩,⟨hb,hc⟩⟩:=s
 refine aU func65 fun g F hg hF=> ?_
 cbv
 repeat'(first|(refine bz hg (gB _ _) rfl (fun R0 ha=> ?_);cases R0<;>cbv)|(split<;>rename_i hh<;>(try rw [hh])<;>(try simp only [dg hg]at hh)<;>cbv))
 all_goals exact bk hF (by simp only [FA];simp_all)
theorem gM(s:bC):PC0 97 [.agg (lc (bC.c s))] (.t (abl (FA s))):=by
 obtain⟨⟨a0,a1⟩,⟨a2,a3⟩,⟨a4,a5⟩,⟨a6,a7⟩,⟨a8,a9⟩,⟨hb,hc⟩⟩:=s
 refine aU func97 fun g F hg hF=> ?_
 cbv
 repeat'(first|(refine bz hg (gL _ _) rfl (fun R0 ha=> ?_);cases R0<;>cbv)|(split<;>rename_i hh<;>(try rw [hh])<;>(try simp only [dg hg]at hh)<;>cbv))
 all_goals exact bk hF (by simp only [FA];simp_all)
theorem gG(s:dp):PC0 66 [.agg (lc (dp.c s))] (.t (abl (Ga s))):=by
 obtain⟨a0,a1,a2,a3⟩:=s
 refine aU func66 fun g F hg hF=> ?_
 cbv
 repeat'(first|(refine bz hg (bf _ _ _) rfl (fun R0 ha=> ?_);cases R0<;>cbv)|(split<;>rename_i hh<;>(try rw [hh])<;>(try simp only [dg hg]at hh)<;>cbv))
 all_goals exact bk hF (by simp only [Ga];simp_all)
theorem gN(s:dp):PC0 98 [.agg (lc (dp.c s))] (.t (abl (Ga s))):=by
 obtain⟨a0,a1,a2,a3⟩:=s
 refine aU func98 fun g F hg hF=> ?_
 cbv
 repeat'(first|(refine bz hg (bO _ _ _) rfl (fun R0 ha=> ?_);cases R0<;>cbv)|(split<;>rename_i hh<;>(try rw [hh])<;>(try simp only [dg hg]at hh)<;>cbv))
 all_goals exact bk hF (by simp only [Ga];simp_all)
theorem tb(s:ag):PC0 35 [.agg (lc (ag.c s))] (.t (abl (Ca s))):=by
 obtain⟨a0,a1,a2,a3,a4,a5,a6,a7,a8,a9,hK,⟨hL,hM⟩,⟨hN,hO⟩,⟨hP,hQ⟩,⟨hR,hS⟩,⟨hT,hU⟩,⟨hV,hW⟩,⟨hX,hY⟩,hZ,⟨⟨hb,hc⟩,⟨hd,he⟩,⟨hf,hi⟩,⟨hj,hk⟩,⟨hl,hm⟩,⟨hn,ho⟩⟩,⟨⟨hp,hq⟩,⟨hr,hs⟩,⟨ht,hu⟩,⟨hv,hw⟩,⟨hx,hy⟩,⟨hz,hA⟩⟩,⟨hB,hC,hD,hE⟩,⟨hG,hH,hI,hJ⟩,h0,h1⟩:=s
 refine aU func35 fun g F hg hF=> ?_
 cbv
 repeat'(first|(refine bz hg (bf _ _ _) rfl (fun R0 ha=> ?_);cases R0<;>cbv)|(refine bz hg (mR _ _) rfl (fun R0 ha=> ?_);cases R0<;>cbv)|(refine bz hg (gC (⟨⟨hb,hc⟩,⟨hd,he⟩,⟨hf,hi⟩,⟨hj,hk⟩,⟨hl,hm⟩,⟨hn,ho⟩⟩:bC)) rfl (fun R0 ha=> ?_);cases R0<;>cbv)|(refine bz hg (gC (⟨⟨hp,hq⟩,⟨hr,hs⟩,⟨ht,hu⟩,⟨hv,hw⟩,⟨hx,hy⟩,⟨hz,hA⟩⟩:bC)) rfl (fun R0 ha=> ?_);cases R0<;>cbv)|(refine bz hg (gG (⟨hB,hC,hD,hE⟩:dp)) rfl (fun R0 ha=> ?_);cases R0<;>cbv)|(refine bz hg (gG (⟨hG,hH,hI,hJ⟩:dp)) rfl (fun R0 ha=> ?_);cases R0<;>cbv)|(split<;>rename_i hh<;>(try rw [hh])<;>(try simp only [dg hg]at hh)<;>cbv))
 all_goals exact bk hF (by clear hF;simp only [Ca,stN,stV,zqD,List.all_nil];simp_all)
theorem G8{a b z:Int}(h:a=b)(hz:z<a):z<b:=h▸hz
variable {xs:List io}
theorem Jm{z M:Int}(hM:M=(xs.length:Int))(hz:M<=z)(h:∀(i:Nat)(v:io),i<z.toNat->xs[i]? =some v->zOk v=true):xs.all zOk=true:=by
 rw [zqf]
 exact qQ hM hz h
theorem Jn{i:Nat}{v:io}(h:xs[i]? =some v)(hv:zOk v=false):xs.all zOk=false:=by
 rw [List.all_eq_false]
 exact⟨v,zqd h,by rw [hv];decide⟩
theorem tV(s:ag):PC0 67 [.agg (lc (ag.c s))] (.t (abl (Ca s))):=by
 obtain⟨W,hW⟩:=nmE (stV s)
 have xg:(7:Int)=(W.length:Int):=by rw [hW];rfl
 obtain⟨V,hV⟩:=nmE (vw io.c W)
 have pV:=pmV hV
 have xf:aJ V=7:=by rw [ak,hV,ar,<-xg]
 obtain⟨a0,a1,a2,a3,a4,a5,a6,a7,a8,a9,xb,⟨hS,hT⟩,⟨hU,hX⟩,⟨hY,hZ⟩,⟨h3,h4⟩,⟨h5,h6⟩,⟨h7,h8⟩,⟨h9,xa⟩,xc,⟨⟨hb,hd⟩,⟨he,hf⟩,⟨hh,hk⟩,⟨hl,hm⟩,⟨hn,ho⟩,⟨hp,hq⟩⟩,⟨⟨hr,ht⟩,⟨hu,hw⟩,⟨hy,hz⟩,⟨hA,hC⟩,⟨hD,hE⟩,⟨hG,hH⟩⟩,⟨hI,hJ,hK,hL⟩,⟨hM,hO,hP,hQ⟩,xd,xe⟩:=s
 have xj:V=[[.J hS,.J hT],[.J hU,.J hX],[.J hY,.J hZ],[.J h3,.J h4],[.J h5,.J h6],[.J h7,.J h8],[.J h9,.J xa]]:=by rw [hV,hW];rfl
 refine aU func67 fun g F hg hF=> ?_
 cbv
 repeat'(first|(refine bz hg (bO _ _ _) rfl (fun R0 ha=> ?_);cases R0<;>cbv))
 all_goals(try exact bk hF (by clear hF;simp only [Ca,stN];simp_all))
 have hN:stN ⟨a0,a1,a2,a3,a4,a5,a6,a7,a8,a9,xb,⟨hS,hT⟩,⟨hU,hX⟩,⟨hY,hZ⟩,⟨h3,h4⟩,⟨h5,h6⟩,⟨h7,h8⟩,⟨h9,xa⟩,xc,⟨⟨hb,hd⟩,⟨he,hf⟩,⟨hh,hk⟩,⟨hl,hm⟩,⟨hn,ho⟩,⟨hp,hq⟩⟩,⟨⟨hr,ht⟩,⟨hu,hw⟩,⟨hy,hz⟩,⟨hA,hC⟩,⟨hD,hE⟩,⟨hG,hH⟩⟩,⟨hI,hJ,hK,hL⟩,⟨hM,hO,hP,hQ⟩,xd,xe⟩=true:=by clear hF;simp only [stN];simp_all
 have xh:Ca ⟨a0,a1,a2,a3,a4,a5,a6,a7,a8,a9,xb,⟨hS,hT⟩,⟨hU,hX⟩,⟨hY,hZ⟩,⟨h3,h4⟩,⟨h5,h6⟩,⟨h7,h8⟩,⟨h9,xa⟩,xc,⟨⟨hb,hd⟩,⟨he,hf⟩,⟨hh,hk⟩,⟨hl,hm⟩,⟨hn,ho⟩,⟨hp,hq⟩⟩,⟨⟨hr,ht⟩,⟨hu,hw⟩,⟨hy,hz⟩,⟨hA,hC⟩,⟨hD,hE⟩,⟨hG,hH⟩⟩,⟨hI,hJ,hK,hL⟩,⟨hM,hO,hP,hQ⟩,xd,xe⟩=(W.all zOk&&(FA ⟨⟨hb,hd⟩,⟨he,hf⟩,⟨hh,hk⟩,⟨hl,hm⟩,⟨hn,ho⟩,⟨hp,hq⟩⟩&&(FA ⟨⟨hr,ht⟩,⟨hu,hw⟩,⟨hy,hz⟩,⟨hA,hC⟩,⟨hD,hE⟩,⟨hG,hH⟩⟩&&(Ga ⟨hI,hJ,hK,hL⟩&&Ga ⟨hM,hO,hP,hQ⟩)))):=by rw [Ca,hN,hW];rfl
 rw [xh]at hF
 clear hN xh
 rw [<-xj]
 refine bK hg bn (by kernel_rfl) (fun z:Int=>[(1,.p 0),(87,.o 1),(88,.i (g .ln V)),(89,.i z)]) (fun _=>[.bx 36 60 (lc (ag.c ⟨a0,a1,a2,a3,a4,a5,a6,a7,a8,a9,xb,⟨hS,hT⟩,⟨hU,hX⟩,⟨hY,hZ⟩,⟨h3,h4⟩,⟨h5,h6⟩,⟨h7,h8⟩,⟨h9,xa⟩,xc,⟨⟨hb,hd⟩,⟨he,hf⟩,⟨hh,hk⟩,⟨hl,hm⟩,⟨hn,ho⟩,⟨hp,hq⟩⟩,⟨⟨hr,ht⟩,⟨hu,hw⟩,⟨hy,hz⟩,⟨hA,hC⟩,⟨hD,hE⟩,⟨hG,hH⟩⟩,⟨hI,hJ,hK,hL⟩,⟨hM,hO,hP,hQ⟩,xd,xe⟩)),.rw ⟨30,2,V⟩]) (fun z=>0<=z/\z<=7/\∀(i:Nat)(v:io),i<z.toNat->W[i]? =some v->zOk v=true) (fun z=>(7:Int).toNat-z.toNat)
  0 [some 0,some 1] ⟨zpc 0,by omega,fun i v hi=>by simp at hi⟩ (wkS [0,1] (by decide) ⟨⟨_,rfl,rfl,rfl⟩,⟨_,rfl,rfl,pV⟩,zpt⟩ zr4) (fun z B hs hB=> ?_)
 obtain⟨h0,h1,h2⟩:=hs
 cbv
 cases hc:g .q .lss z (g .ln V)
 ·rw [ba hg,bu hg,xf,zqo]at hc
  have xk:=Jm xg (by omega) h2
  cbv
  repeat'(first|(refine bz hg (gM (⟨⟨hb,hd⟩,⟨he,hf⟩,⟨hh,hk⟩,⟨hl,hm⟩,⟨hn,ho⟩,⟨hp,hq⟩⟩:bC)) rfl (fun R0 ha=> ?_);cases R0<;>cbv)|(refine bz hg (gM (⟨⟨hr,ht⟩,⟨hu,hw⟩,⟨hy,hz⟩,⟨hA,hC⟩,⟨hD,hE⟩,⟨hG,hH⟩⟩:bC)) rfl (fun R0 ha=> ?_);cases R0<;>cbv)|(refine bz hg (gN (⟨hI,hJ,hK,hL⟩:dp)) rfl (fun R0 ha=> ?_);cases R0<;>cbv)|(refine bz hg (gN (⟨hM,hO,hP,hQ⟩:dp)) rfl (fun R0 ha=> ?_);cases R0<;>cbv))
  all_goals exact bk hF (by clear hF;simp_all)
 ·rw [ba hg,bu hg,xf,zqp]at hc
  cbv
  obtain⟨x,hx⟩:=pg (xs:=W) h0 (G8 xg hc)
  have xi:V[z.toNat]? =some (lc (io.c x)):=by rw [hV];exact aY hx
  obtain⟨j,hj⟩:=nmE z.toNat
  obtain⟨x0,x1⟩:=x
  refine Kj hg h0 hj (rU h0 (by rw [xf];exact hc) hj) ?_
  cbv
  rw [<-hj]at xi
  refine⟨_,xi,?_⟩
  cbv
  refine bz hg (wg x0 x1) rfl (fun R hR=> ?_)
  cases R
  ·cbv
   exact bk hF (by rw [Jn hx hR.symm];rfl)
  ·cbv
   have e1:g .w .add .i64 z 1=z+1:=by rw [aG hg,ao _ (by omega)]
   rw [e1]
   refine gY hB (z+1) [some 0,some 1] (wkS [0,1] (by decide) ⟨⟨_,rfl,rfl,rfl⟩,⟨_,rfl,rfl,pV⟩,zpt⟩ zr4) ⟨by omega,by omega,fun i v hi hv=> ?_⟩ (by omega)
   by_cases hi2:i<z.toNat
   ·exact h2 i v hi2 hv
   ·rw [show i=z.toNat by omega,hx]at hv
    cases hv
    exact hR.symm
def vm(r:aD):Bool:=rng r.room (-1) 1048576&&(rng r.wide 0 1048576&&rng r.high 0 1048576)
def Gy(rs:List aD):Bool:=rng (rs.length:Int) 1 6&&rs.all vm
theorem Ie{xs:List aD}{z M:Int}(hM:M=(xs.length:Int))(hz:M<=z)(h:∀(i:Nat)(v:aD),i<z.toNat->xs[i]? =some v->vm v=true):xs.all vm=true:=by
 rw [zqf]
 exact qQ hM hz h
theorem Ig{xs:List aD}{i:Nat}{v:aD}(h:xs[i]? =some v)(hv:vm v=false):xs.all vm=false:=by
 rw [List.all_eq_false]
 exact⟨v,zqd h,by rw [hv];decide⟩
def isN(ns:List ae)(n:Int):Bool:=rng n 1 (ns.length:Int)
def upN(ns:List ae)(n:Int):Int:=match ns[(n-1).toNat]? with|some x=>x.up|none=>0
def uL(ns:List ae):Nat->Int->Int->Int
 |0,k,n=>if n=0 then k else 0
 |f+1,k,n=>if n=0 then k else if isN ns n=true then uL ns f (k+1) (upN ns n)else 0
def wB(ns:List ae)(n:Int):Int:=uL ns ns.length 0 n
theorem mC(ns:List ae)(f:Nat)(k:Int):uL ns f k 0=k:=by cases f<;>simp [uL]
theorem wA(ns:List ae)(f:Nat)(k n:Int)(h0:n≠0)(h:isN ns n=false):uL ns f k n=0:=by cases f<;>simp [uL,h0,h]
theorem kz(ns:List ae){f:Nat}{k n:Int}(h0:n≠0)(h:isN ns n=true):uL ns (f+1) k n=uL ns f (k+1) (upN ns n):=by simp [uL,h0,h]
theorem yX(ns:List ae){k n:Int}(h0:n≠0):uL ns 0 k n=0:=by simp [uL,h0]
variable {ns:List ae}
theorem bj{n:Int}(h:isN ns n=true):1<=n/\n<=(ns.length:Int)/\∃x,ns[(n-1).toNat]? =some x:=by
 simp only [isN,rng,zqs,zqp]at h
 exact⟨h.1,h.2,ns[(n-1).toNat]'(by omega),zqc _⟩
theorem wX{n:Int}{x:ae}(h:ns[(n-1).toNat]? =some x):upN ns n=x.up:=by unfold upN;rw [h]
theorem AA{M d:Int}{L:Nat}(hM:M=(L:Int))(h0:0<=d)(h1:d<M):L-d.toNat=(L-(d+1).toNat)+1:=by omega
theorem xM{M d:Int}{L:Nat}(hM:M=(L:Int))(h:d=M):L-d.toNat=0:=by omega
def cnt(xs:List Int)(n:Int):Int:=(xs.map fun k=>if k=n then 1 else 0).sum
theorem fJ(V:LLA)(n:Int):PC0 36 [.agg [.view V],ai n] (.t (abl (rng n 1 (aJ V)))):=by
 refine aU func36 fun g F hg hF=> ?_
 cbv
 repeat'(first|(refine bz hg (bf _ _ _) rfl (fun R0 ha=> ?_);cases R0<;>cbv))
 all_goals exact bk hF (by rw [ha,bu hg])
theorem kj(V:LLA)(n:Int):PC0 41 [.agg [.view V],ai n] (.t (abl (rng n 1 (aJ V)))):=by
 refine aU func41 fun g F hg hF=> ?_
 cbv
 repeat'(first|(refine bz hg (bO _ _ _) rfl (fun R0 ha=> ?_);cases R0<;>cbv))
 all_goals exact bk hF (by rw [ha,bu hg])
theorem eD(V:LLA)(n:Int)(h1:1<=n)(h2:n<=1048576){a0:Int}{Va1:LLA}{a2:Int}{a3:Int}{a4:Int}{a5:Int}{a6:Int}{a7:Int}{a8:Bool}{a9:Bool}{a10:Int}{a11:Int}{a12:Int}{a13:Int}{a14:Int}{a15:Int}{a16:Int}{a17:Int}{a18:Int}{a19:Int}{a20:Int}{a21:Int}{a22:Int}{a23:Int}{a24:Int}{a25:Int}{a26:Int}{a27:Int}{a28:Int}{a29:Int}{a30:Int}{a31:Int}{a32:Int}{a33:Int}{a34:Int}{a35:Int}{a36:Int}{a37:Int}{a38:Int}{a39:Int}{a40:Int}{a41:Int}{a42:Int}{a43:Int}{a44:Int}{a45:Int}{a46:Int}{a47:Int}{a48:Int}{a49:Int}{a50:Int}{a51:Int}{a52:Int}{a53:Int}{a54:Int}{a55:Int}{a56:Int}{a57:Int}{a58:Int}{a59:Int}{a60:Int}{a61:Int}{a62:Bool}{Va63:LLA}(hy:V[(n-1).toNat]? =some [.J a0,.view Va1,.J a2,.J a3,.J a4,.J a5,.J a6,.J a7,.B a8,.B a9,.J a10,.J a11,.J a12,.J a13,.J a14,.J a15,.J a16,.J a17,.J a18,.J a19,.J a20,.J a21,.J a22,.J a23,.J a24,.J a25,.J a26,.J a27,.J a28,.J a29,.J a30,.J a31,.J a32,.J a33,.J a34,.J a35,.J a36,.J a37,.J a38,.J a39,.J a40,.J a41,.J a42,.J a43,.J a44,.J a45,.J a46,.J a47,.J a48,.J a49,.J a50,.J a51,.J a52,.J a53,.J a54,.J a55,.J a56,.J a57,.J a58,.J a59,.J a60,.J a61,.B a62,.view Va63]):PC0 38 [.agg [.view V],ai n] (.t (.agg [.J a0,.view Va1,.J a2,.J a3,.J a4,.J a5,.J a6,.J a7,.B a8,.B a9,.J a10,.J a11,.J a12,.J a13,.J a14,.J a15,.J a16,.J a17,.J a18,.J a19,.J a20,.J a21,.J a22,.J a23,.J a24,.J a25,.J a26,.J a27,.J a28,.J a29,.J a30,.J a31,.J a32,.J a33,.J a34,.J a35,.J a36,.J a37,.J a38,.J a39,.J a40,.J a41,.J a42,.J a43,.J a44,.J a45,.J a46,.J a47,.J a48,.J a49,.J a50,.J a51,.J a52,.J a53,.J a54,.J a55,.J a56,.J a57,.J a58,.J a59,.J a60,.J a61,.B a62,.view Va63])):=by
 obtain⟨m,hm⟩:=nmE (n-1)
 rw [<-hm]at hy
 refine aU func38 fun g F hg hF=> ?_
 cbv
 have e1:g .w .sub .i64 n 1=m:=by rw [bZ hg,ao _ (by omega),hm]
 rw [e1]
 refine goX hg _ (by omega) hy rfl ?_
 cbv
 exact gj hF rfl ⟨rfl,rfl⟩
theorem gq(V:LLA)(n:Int)(h1:1<=n)(h2:n<=1048576){a0:Int}{Va1:LLA}{a2:Int}{a3:Int}{a4:Int}{a5:Int}{a6:Int}{a7:Int}{a8:Bool}{a9:Bool}{a10:Int}{a11:Int}{a12:Int}{a13:Int}{a14:Int}{a15:Int}{a16:Int}{a17:Int}{a18:Int}{a19:Int}{a20:Int}{a21:Int}{a22:Int}{a23:Int}{a24:Int}{a25:Int}{a26:Int}{a27:Int}{a28:Int}{a29:Int}{a30:Int}{a31:Int}{a32:Int}{a33:Int}{a34:Int}{a35:Int}{a36:Int}{a37:Int}{a38:Int}{a39:Int}{a40:Int}{a41:Int}{a42:Int}{a43:Int}{a44:Int}{a45:Int}{a46:Int}{a47:Int}{a48:Int}{a49:Int}{a50:Int}{a51:Int}{a52:Int}{a53:Int}{a54:Int}{a55:Int}{a56:Int}{a57:Int}{a58:Int}{a59:Int}{a60:Int}{a61:Int}{a62:Bool}{Va63:LLA}(hy:V[(n-1).toNat]? =some [.J a0,.view Va1,.J a2,.J a3,.J a4,.J a5,.J a6,.J a7,.B a8,.B a9,.J a10,.J a11,.J a12,.J a13,.J a14,.J a15,.J a16,.J a17,.J a18,.J a19,.J a20,.J a21,.J a22,.J a23,.J a24,.J a25,.J a26,.J a27,.J a28,.J a29,.J a30,.J a31,.J a32,.J a33,.J a34,.J a35,.J a36,.J a37,.J a38,.J a39,.J a40,.J a41,.J a42,.J a43,.J a44,.J a45,.J a46,.J a47,.J a48,.J a49,.J a50,.J a51,.J a52,.J a53,.J a54,.J a55,.J a56,.J a57,.J a58,.J a59,.J a60,.J a61,.B a62,.view Va63]):PC0 44 [.agg [.view V],ai n] (.t (.agg [.J a0,.view Va1,.J a2,.J a3,.J a4,.J a5,.J a6,.J a7,.B a8,.B a9,.J a10,.J a11,.J a12,.J a13,.J a14,.J a15,.J a16,.J a17,.J a18,.J a19,.J a20,.J a21,.J a22,.J a23,.J a24,.J a25,.J a26,.J a27,.J a28,.J a29,.J a30,.J a31,.J a32,.J a33,.J a34,.J a35,.J a36,.J a37,.J a38,.J a39,.J a40,.J a41,.J a42,.J a43,.J a44,.J a45,.J a46,.J a47,.J a48,.J a49,.J a50,.J a51,.J a52,.J a53,.J a54,.J a55,.J a56,.J a57,.J a58,.J a59,.J a60,.J a61,.B a62,.view Va63])):=by
 obtain⟨m,hm⟩:=nmE (n-1)
 rw [<-hm]at hy
 refine aU func44 fun g F hg hF=> ?_
 cbv
 have e1:g .w .sub .i64 n 1=m:=by rw [bZ hg,ao _ (by omega),hm]
 rw [e1]
 refine goX hg _ (by omega) hy rfl ?_
 cbv
 exact gj hF rfl ⟨rfl,rfl⟩
theorem ta(rs:List aD)(hl:rs.length<=1048576):PC0 63 [.agg [.view (vw aD.c rs)]] (.t (abl (Gy rs))):=by
 obtain⟨V,hV⟩:=nmE (vw aD.c rs)
 have hn:=lmV hV
 have hd:aJ V=(rs.length:Int):=by rw [ak];omega
 have hf:0<=aJ V:=by omega
 have hm:aJ V<=1048576:=by omega
 have hj:Gy rs=(rng (aJ V) 1 6&&rs.all vm):=by rw [hd];rfl
 rw [<-hV,hj]
 refine aU func63 fun g F hg hF=> ?_
 cbv
 refine bK hg bn (by kernel_rfl) (fun z:Int=>[(1,.p 0),(3,.i z)]) (fun _=>[.bx 67 1 [.view V]]) (fun z=>0<=z/\z<=aJ V/\∀(i:Nat)(v:aD),i<z.toNat->rs[i]? =some v->vm v=true) (fun z=>(aJ V).toNat-z.toNat)
  0 [some 0] ⟨zpc 0,hf,fun i v hi=>by simp at hi⟩ (wkS [0] (by decide) ⟨⟨_,rfl,rfl,rfl⟩,zpt⟩ zr2) (fun z B hs hB=> ?_)
 obtain⟨h0,h1,h2⟩:=hs
 cbv
 cases hc:g .q .lss z (g .ln V)
 ·rw [ba hg,bu hg,zqo]at hc
  have he:=Ie hd (by omega) h2
  cbv
  repeat'(first|(refine bz hg (bf _ _ _) rfl (fun R0 hb=> ?_);cases R0<;>cbv))
  all_goals exact bk hF (by rw [hb,bu hg,he,Bool.and_true])
 ·rw [ba hg,bu hg,zqp]at hc
  cbv
  obtain⟨x,hx⟩:=pg (xs:=rs) h0 (fZ hd hc)
  have hk:V[z.toNat]? =some (lc (aD.c x)):=by rw [hV];exact aY hx
  obtain⟨x0,x1,x2⟩:=x
  refine goX hg _ h0 hk rfl ?_
  cbv
  have ha:vm ⟨x0,x1,x2⟩=false->(rng (aJ V) 1 6&&rs.all vm)=false:=fun h=>by rw [Ig hx h,Bool.and_false]
  have e1:g .w .add .i64 z 1=z+1:=by rw [aG hg,ao _ (by omega)]
  repeat'(first|(refine bz hg (bf _ _ _) rfl (fun R0 hb=> ?_);cases R0<;>cbv))
  all_goals first
   |exact bk hF (ha (by simp only [vm];clear hF;simp_all)).symm
   |skip
  have hh:vm ⟨x0,x1,x2⟩=true:=by simp only [vm];clear hF hB;simp_all
  rw [e1]
  refine gY hB (z+1) [some 0] (wkS [0] (by decide) ⟨⟨_,rfl,rfl,rfl⟩,zpt⟩ zr2) ⟨by omega,by omega,fun i v hi hv=> ?_⟩ (by omega)
  by_cases hi2:i<z.toNat
  ·exact h2 i v hi2 hv
  ·rw [show i=z.toNat by omega,hx]at hv
   cases hv
   exact hh
theorem tU(rs:List aD)(hl:rs.length<=1048576):PC0 70 [.agg [.view (vw aD.c rs)]] (.t (abl (Gy rs))):=by
 obtain⟨V,hV⟩:=nmE (vw aD.c rs)
 have hn:=lmV hV
 have hb:aJ V=(rs.length:Int):=by rw [ak];omega
 have hf:0<=aJ V:=by omega
 have hm:aJ V<=1048576:=by omega
 have hj:Gy rs=(rng (aJ V) 1 6&&rs.all vm):=by rw [hb];rfl
 rw [<-hV,hj]
 refine aU func70 fun g F hg hF=> ?_
 cbv
 have cr:=bO (g .ln V) 1 6
 rw [bu hg]at cr
 obtain⟨Q,hQ⟩:=nmE (rng (aJ V) 1 6)
 rw [<-hQ]at cr hF
 rw [bu hg]
 (refine ad hg cr ?_)
 cases Q
 case false=>
  cbv
  exact bk hF rfl
 cbv
 refine bK hg bn (by kernel_rfl) (fun z:Int=>[(1,.p 0),(11,.v V),(12,.i (g .ln V)),(13,.i z)]) (fun _=>[.bx 67 1 [.view V]]) (fun z=>0<=z/\z<=aJ V/\∀(i:Nat)(v:aD),i<z.toNat->rs[i]? =some v->vm v=true) (fun z=>(aJ V).toNat-z.toNat)
  0 [some 0] ⟨zpc 0,hf,fun i v hi=>by simp at hi⟩ (wkS [0] (by decide) ⟨⟨_,rfl,rfl,rfl⟩,zpt⟩ zr4) (fun z B hs hB=> ?_)
 obtain⟨h0,h1,h2⟩:=hs
 cbv
 cases hc:g .q .lss z (g .ln V)
 ·rw [ba hg,bu hg,zqo]at hc
  have hd:=Ie hb (by omega) h2
  cbv
  exact bk hF (by rw [hd];rfl)
 ·rw [ba hg,bu hg,zqp]at hc
  cbv
  obtain⟨x,hx⟩:=pg (xs:=rs) h0 (fZ hb hc)
  have hk:V[z.toNat]? =some (lc (aD.c x)):=by rw [hV];exact aY hx
  obtain⟨x0,x1,x2⟩:=x
  refine goX hg _ h0 hk rfl ?_
  cbv
  have ha:vm ⟨x0,x1,x2⟩=false->(true&&rs.all vm)=false:=fun h=>by rw [Ig hx h,Bool.and_false]
  have e1:g .w .add .i64 z 1=z+1:=by rw [aG hg,ao _ (by omega)]
  repeat'(first|(refine bz hg (bO _ _ _) rfl (fun R0 he=> ?_);cases R0<;>cbv))
  all_goals first
   |exact bk hF (ha (by simp only [vm];clear hF;simp_all)).symm
   |skip
  have hh:vm ⟨x0,x1,x2⟩=true:=by simp only [vm];clear hF hB;simp_all
  rw [e1]
  refine gY hB (z+1) [some 0] (wkS [0] (by decide) ⟨⟨_,rfl,rfl,rfl⟩,zpt⟩ zr4) ⟨by omega,by omega,fun i v hi hv=> ?_⟩ (by omega)
  by_cases hi2:i<z.toNat
  ·exact h2 i v hi2 hv
  ·rw [show i=z.toNat by omega,hx]at hv
   cases hv
   exact hh
theorem jS(xs:List Int)(n:Int)(hl:xs.length<=1048576):PC0 48 [.c (.view (vw aj xs)),ai n] (.i (cnt xs n)):=by
 obtain⟨V,hV⟩:=nmE (vw aj xs)
 have hj:=lmV hV
 have hf:aJ V=(xs.length:Int):=by rw [ak];omega
 have hd:0<=aJ V:=by omega
 have hi:aJ V<=1048576:=by omega
 have ha:∀z:Int,aJ V<=z->yx (fun k=>if k=n then 1 else 0) xs z.toNat=cnt xs n:=fun z hz=>mq _ (by omega)
 rw [<-hV]
 refine aU func48 fun g F hg hF=> ?_
 cbv
 refine bK hg bn (by kernel_rfl) (fun s:Int×Int=>[(0,.v V),(1,.i n),(5,.i s.2),(6,.i s.1)]) (fun _=>[]) (fun s=>0<=s.1/\s.1<=aJ V/\0<=s.2/\s.2<=s.1/\s.2=yx (fun k=>if k=n then 1 else 0) xs s.1.toNat) (fun s=>(aJ V).toNat-s.1.toNat)
  (0,0) [] ⟨zpc 0,hd,zpc 0,zpc 0,(jG _ _).symm⟩ (wk0 zr4) (fun s B hs hB=> ?_)
 obtain⟨z,d⟩:=s
 obtain⟨h0,h1,h2,h3,h4⟩:=hs
 simp only at h0 h1 h2 h3 h4
 cbv
 cases hc:g .q .lss z (g .ln V)
 ·rw [ba hg,bu hg,zqo]at hc
  cbv
  exact aO hF (by rw [h4,ha z (by omega)])
 ·rw [ba hg,bu hg,zqp]at hc
  cbv
  obtain⟨x,hx⟩:=pg (xs:=xs) h0 (fZ hf hc)
  have hh:V[z.toNat]? =some (lc (aj x)):=by rw [hV];exact aY hx
  have hs:=jH (fun k:Int=>if k=n then(1:Int)else 0) hx
  refine goX hg _ h0 hh rfl ?_
  cbv
  have e1:g .w .add .i64 z 1=z+1:=by rw [aG hg,ao _ (by omega)]
  cases he:g .q .eql x n
  ·have hb:x≠n:=by rw [bg hg]at he;simpa using he
   simp only [if_neg hb]at hs
   cbv
   rw [e1]
   exact gY hB (z+1,d) [] (wk0 zr4) ⟨by simp only;omega,by simp only;omega,h2,by simp only;omega,by simp only;rw [show(z+1).toNat=z.toNat+1 by omega,hs];omega⟩ (by show(aJ V).toNat-(z+1).toNat<(aJ V).toNat-z.toNat;omega)
  ·have hb:x=n:=by rw [bg hg]at he;simpa using he
   simp only [if_pos hb]at hs
   cbv
   have e2:g .w .add .i64 d 1=d+1:=by rw [aG hg,ao _ (by omega)]
   rw [e1,e2]
   exact gY hB (z+1,d+1) [] (wk0 zr4) ⟨by simp only;omega,by simp only;omega,by simp only;omega,by simp only;omega,by simp only;rw [show(z+1).toNat=z.toNat+1 by omega,hs];omega⟩ (by show(aJ V).toNat-(z+1).toNat<(aJ V).toNat-z.toNat;omega)
theorem tZ(ns:List ae)(n0:Int)(hl:ns.length<=1048576):PC0 69 [.agg [.view (vwA ae.ac ns)],ai n0] (.i (wB ns n0)):=by
 obtain⟨V,hV⟩:=nmE (vwA ae.ac ns)
 have hc:aJ V=(ns.length:Int):=by rw [ak,hV,bm]
 have xq:0<=aJ V:=by omega
 have xr:aJ V<=1048576:=by omega
 have hh:∀n,isN ns n=rng n 1 (aJ V):=fun n=>by rw [hc];rfl
 have xu:∀d:Int,0<=d->d<aJ V->ns.length-d.toNat=(ns.length-(d+1).toNat)+1:=fun d h0 h1=>AA hc h0 h1
 have xt:∀d:Int,d=aJ V->ns.length-d.toNat=0:=fun d h=>xM hc h
 have hm:uL ns (ns.length-(0:Int).toNat) 0 n0=wB ns n0:=rfl
 obtain⟨R,hR⟩:=nmE (wB ns n0)
 rw [<-hR]at hm⊢
 rw [<-hV]
 refine aU func69 fun g F hg hF=> ?_
 cbv
 refine bK hg bn (by kernel_rfl) (fun s:Int×Int=>[(1,.i s.1),(2,.p 0),(5,.i s.2)]) (fun _=>[.bx 28 1 [.view V]]) (fun s=>0<=s.2/\s.2<=aJ V/\uL ns (ns.length-s.2.toNat) s.2 s.1=R) (fun s=>(aJ V).toNat-s.2.toNat)
  (n0,0) [some 0] ⟨zpc 0,xq,hm⟩ (wkS [0] (by decide) ⟨⟨_,rfl,rfl,rfl⟩,zpt⟩ zr3) (fun s B hs hB=> ?_)
 obtain⟨n,d⟩:=s
 obtain⟨h0,h1,h2⟩:=hs
 simp only at h0 h1 h2
 cbv
 cases hn:g .q .neq n 0
 ·have hb:n=0:=by rw [bB hg]at hn;simpa using hn
  cbv
  exact aO hF (by rw [<-h2,hb,mC])
 have hb:n≠0:=by rw [bB hg]at hn;simpa using hn
 cbv
 have e1:g .w .add .i64 d 1=d+1:=by rw [aG hg,ao _ (by omega)]
 obtain⟨D,hD⟩:=nmE (d+1)
 rw [<-hD]at e1
 rw [e1]
 have ci:=kj V n
 rw [<-hh n]at ci
 cases hi:isN ns n
 ·rw [hi]at ci
  refine ad hg ci ?_
  cbv
  exact aO hF (by rw [<-h2,wA ns _ _ _ hb hi])
 rw [hi]at ci
 refine ad hg ci ?_
 cbv
 cases hd:g .q .gtr D (g .ln V)
 case true=>
  rw [di hg,bu hg,zqp]at hd
  cbv
  exact aO hF (by rw [<-h2,xt d (by omega),yX ns hb])
 rw [di hg,bu hg,zqo]at hd
 have xw:d<aJ V:=by omega
 have xs:=xu d h0 xw
 obtain⟨i1,i2,x,hx⟩:=bj hi
 have xv:n<=1048576:=zpv (hc▸i2) xr
 have he:V[(n-1).toNat]? =some x.ac:=by rw [hV];exact ik hx
 have xx:=wX hx
 have hj:uL ns (ns.length-D.toNat) D x.up=R:=by rw [<-h2,xs,kz ns hb hi,xx,hD]
 obtain⟨a0,a1,⟨a2,a3,a4,a5,a6,a7,a8,a9,hp,hq,hr,⟨ht,hu⟩,⟨hv,hw⟩,⟨hy,hz⟩,⟨hA,hC⟩,⟨hE,hG⟩,⟨hH,hI⟩,⟨hJ,hK⟩,hL,⟨⟨hM,hN⟩,⟨hO,hP⟩,⟨hQ,hS⟩,⟨hT,hU⟩,⟨hW,hX⟩,⟨hY,hZ⟩⟩,⟨⟨h3,h4⟩,⟨h5,h6⟩,⟨h7,h8⟩,⟨h9,xa⟩,⟨xb,xc⟩,⟨xd,xe⟩⟩,⟨xf,xg,xh,xi⟩,⟨xj,xk,xl,xm⟩,xn,xo⟩,xp,⟨hk⟩⟩:=x
 replace he:V[(n-1).toNat]? =some [.J a0,.view (vw aj a1),.J a2,.J a3,.J a4,.J a5,.J a6,.J a7,.B a8,.B a9,.J hp,.J hq,.J hr,.J ht,.J hu,.J hv,.J hw,.J hy,.J hz,.J hA,.J hC,.J hE,.J hG,.J hH,.J hI,.J hJ,.J hK,.J hL,.J hM,.J hN,.J hO,.J hP,.J hQ,.J hS,.J hT,.J hU,.J hW,.J hX,.J hY,.J hZ,.J h3,.J h4,.J h5,.J h6,.J h7,.J h8,.J h9,.J xa,.J xb,.J xc,.J xd,.J xe,.J xf,.J xg,.J xh,.J xi,.J xj,.J xk,.J xl,.J xm,.J xn,.J xo,.B xp,.view (vw aD.c hk)]:=he
 obtain⟨xy,hf⟩:=nmE (vw aj a1)
 obtain⟨ho,ha⟩:=nmE (vw aD.c hk)
 rw [<-hf,<-ha]at he
 cbv
 refine ad hg (gq V n i1 xv he) ?_
 cbv
 exact gY hB (a0,D) [some 0] (wkS [0] (by decide) ⟨⟨_,rfl,rfl,rfl⟩,zpt⟩ zr3) ⟨by simp only;omega,by simp only;omega,hj⟩ (by show(aJ V).toNat-D.toNat<(aJ V).toNat-d.toNat;omega)
theorem th(ns:List ae)(n0:Int)(hl:ns.length<=1048576):PC0 62 [.agg [.view (vwA ae.ac ns)],ai n0] (.i (wB ns n0)):=by
 obtain⟨V,hV⟩:=nmE (vwA ae.ac ns)
 have hc:aJ V=(ns.length:Int):=by rw [ak,hV,bm]
 have xz:0<=aJ V:=by omega
 have xs:aJ V<=1048576:=by omega
 have hk:∀n,isN ns n=rng n 1 (aJ V):=fun n=>by rw [hc];rfl
 have xu:∀d:Int,0<=d->d<aJ V->ns.length-d.toNat=(ns.length-(d+1).toNat)+1:=fun d h0 h1=>AA hc h0 h1
 have xt:∀d:Int,d=aJ V->ns.length-d.toNat=0:=fun d h=>xM hc h
 have hq:uL ns (ns.length-(0:Int).toNat) 0 n0=wB ns n0:=rfl
 obtain⟨R,hR⟩:=nmE (wB ns n0)
 rw [<-hR]at hq⊢
 rw [<-hV]
 refine aU func62 fun g F hg hF=> ?_
 cbv
 refine bK hg bn (by kernel_rfl) (fun s:Int×Int=>[(1,.i s.1),(2,.p 0),(5,.i s.2)]) (fun _=>[.bx 28 1 [.view V]]) (fun s=>0<=s.2/\s.2<=aJ V+1/\(s.2<=aJ V->uL ns (ns.length-s.2.toNat) s.2 s.1=R)/\(s.2=aJ V+1->R=0)) (fun s=>(aJ V+1).toNat-s.2.toNat)
  (n0,0) [some 0] ⟨zpc 0,by simp only;omega,fun _=>hq,fun h=>by simp only at h;omega⟩ (wkS [0] (by decide) ⟨⟨_,rfl,rfl,rfl⟩,zpt⟩ zr3) (fun s B hs hB=> ?_)
 obtain⟨n,d⟩:=s
 obtain⟨h0,h1,h2,hh⟩:=hs
 simp only at h0 h1 h2 hh
 cbv
 cases hd:g .q .leq d (g .ln V)
 case false=>
  rw [iU hg,bu hg,zqo]at hd
  cbv
  exact aO hF (hh (by omega)).symm
 rw [iU hg,bu hg,zqp]at hd
 replace h2:=h2 hd
 clear hh
 cbv
 cases hn:g .q .eql n 0
 case true=>
  have hb:n=0:=by rw [bg hg]at hn;simpa using hn
  cbv
  exact aO hF (by rw [<-h2,hb,mC])
 have hb:n≠0:=by rw [bg hg]at hn;simpa using hn
 cbv
 have e1:g .w .add .i64 d 1=d+1:=by rw [aG hg,ao _ (by omega)]
 have ci:=fJ V n
 rw [<-hk n]at ci
 cases hi:isN ns n
 ·rw [hi]at ci
  refine ad hg ci ?_
  cbv
  exact aO hF (by rw [<-h2,wA ns _ _ _ hb hi])
 rw [hi]at ci
 refine ad hg ci ?_
 obtain⟨i1,i2,x,hx⟩:=bj hi
 have xv:n<=1048576:=zpv (hc▸i2) xs
 have hf:V[(n-1).toNat]? =some x.ac:=by rw [hV];exact ik hx
 have xx:=wX hx
 have hm:d<aJ V->uL ns (ns.length-(d+1).toNat) (d+1) x.up=R:=fun xw=>by rw [<-h2,xu d h0 xw,kz ns hb hi,xx]
 have ho:d=aJ V->R=0:=fun he=>by rw [<-h2,xt d he,yX ns hb]
 obtain⟨a0,a1,⟨a2,a3,a4,a5,a6,a7,a8,a9,ht,hu,hv,⟨hw,hy⟩,⟨hz,hA⟩,⟨hC,hD⟩,⟨hE,hG⟩,⟨hH,hI⟩,⟨hJ,hK⟩,⟨hL,hM⟩,hN,⟨⟨hO,hP⟩,⟨hQ,hS⟩,⟨hT,hU⟩,⟨hW,hX⟩,⟨hY,hZ⟩,⟨h3,h4⟩⟩,⟨⟨h5,h6⟩,⟨h7,h8⟩,⟨h9,xa⟩,⟨xb,xc⟩,⟨xd,xe⟩,⟨xf,xg⟩⟩,⟨xh,xi,xj,xk⟩,⟨xl,xm,xn,xo⟩,xp,xq⟩,xr,⟨hp⟩⟩:=x
 replace hf:V[(n-1).toNat]? =some [.J a0,.view (vw aj a1),.J a2,.J a3,.J a4,.J a5,.J a6,.J a7,.B a8,.B a9,.J ht,.J hu,.J hv,.J hw,.J hy,.J hz,.J hA,.J hC,.J hD,.J hE,.J hG,.J hH,.J hI,.J hJ,.J hK,.J hL,.J hM,.J hN,.J hO,.J hP,.J hQ,.J hS,.J hT,.J hU,.J hW,.J hX,.J hY,.J hZ,.J h3,.J h4,.J h5,.J h6,.J h7,.J h8,.J h9,.J xa,.J xb,.J xc,.J xd,.J xe,.J xf,.J xg,.J xh,.J xi,.J xj,.J xk,.J xl,.J xm,.J xn,.J xo,.J xp,.J xq,.B xr,.view (vw aD.c hp)]:=hf
 obtain⟨xy,hj⟩:=nmE (vw aj a1)
 obtain⟨hr,ha⟩:=nmE (vw aD.c hp)
 rw [<-hj,<-ha]at hf
 cbv
 refine ad hg (eD V n i1 xv hf) ?_
 cbv
 rw [e1]
 exact gY hB (a0,d+1) [some 0] (wkS [0] (by decide) ⟨⟨_,rfl,rfl,rfl⟩,zpt⟩ zr3) ⟨by simp only;omega,by simp only;omega,fun h=>hm (by simp only at h;omega),fun h=>ho (by simp only at h;omega)⟩ (by show(aJ V+1).toNat-(d+1).toNat<(aJ V+1).toNat-d.toNat;omega)
def jo(s:bC)(sd:Int)(rtl:Bool)(base:Int):Int:=if kn (rj s sd rtl) base=false then 0 else sg (FP (rj s sd rtl) base)
def qt(s:aM)(less:Int):aM:=if s.mode=1 then s else⟨s.mode,cl (wrap64 (cl s.n-cl less))⟩
def rD(s:ag)(w:Bool)(o:Int):Int:=if s.ratio<=0\/o<0 then-1 else if w then cl (fdv (wrap64 (cl o*cl s.ratio)) 64)else cl (fdv (wrap64 (cl o*64)) (cl s.ratio))
def G6(s:ag)(w rtl:Bool)(base:Int):Int:=if w then wrap64 (jo s.margin 0 rtl base+jo s.margin 2 rtl base)else wrap64 (jo s.margin 1 rtl base+jo s.margin 3 rtl base)
def Hv(s:ag)(a b:Int)(rtl:Bool)(base mb:Int):Int:=if x9 s a rtl base=false\/x9 s b rtl base=false then-1 else cl (wrap64 (base-xZ s a rtl base-xZ s b rtl base-jo s.margin a rtl mb-jo s.margin b rtl mb))
def FQ(s:ag)(w rtl:Bool)(base mb:Int):Int:=if qB s w base= -1 then(if w then Hv s 0 2 rtl base mb else Hv s 1 3 rtl base mb)else qB s w base
def Ij(s:ag)(w:Bool)(base n m:Int):aM:=if n= -1 then qt ⟨2,base⟩ m else⟨3,me s w base n⟩
def apW(s:ag)(rtl:Bool)(wide high:Int):Int:=if FQ s true rtl wide wide= -1 then rD s true (FQ s false rtl high wide)else FQ s true rtl wide wide
def apH(s:ag)(rtl:Bool)(wide high:Int):Int:=if FQ s false rtl high wide= -1 then rD s false (apW s rtl wide high)else FQ s false rtl high wide
def apX(s:ag)(rtl:Bool)(wide high:Int):aM:=Ij s true wide (apW s rtl wide high) (G6 s true rtl wide)
def apY(s:ag)(rtl:Bool)(wide high:Int):aM:=Ij s false high (apH s rtl wide high) (G6 s false rtl wide)
def apC(p s:ag)(rtl:Bool)(wide high:Int):List AC:=lc (ag.c p)++(lc (ag.c s)++[.B rtl,.J wide,.J high])
theorem zl(a b c d e:Int):wrap64 (wrap64 (wrap64 (wrap64 (a-b)-c)-d)-e)=wrap64 (a-b-c-d-e):=by unfold wrap64;omega
theorem BV(a b c d e:Int):wrap64 (wrap64 (wrap64 (a-b)-c)-wrap64 (d+e))=wrap64 (a-b-c-d-e):=by
 unfold wrap64;omega
theorem dF(s:bC)(sd:Int)(rtl:Bool)(base:Int):PC0 116 [.agg (lc (bC.c s)),ai sd,abl rtl,ai base] (.i (jo s sd rtl base)):=by
 obtain⟨⟨a0,a1⟩,⟨a2,a3⟩,⟨a4,a5⟩,⟨a6,a7⟩,⟨a8,a9⟩,⟨hc,hd⟩⟩:=s
 have hb:=jU (⟨⟨a0,a1⟩,⟨a2,a3⟩,⟨a4,a5⟩,⟨a6,a7⟩,⟨a8,a9⟩,⟨hc,hd⟩⟩:bC)
 refine aU func116 fun g F hg hF=> ?_
 cbv
 repeat'(first|(refine mM hg (hb _ _) rfl (fun R0 R1 ha he=> ?_);cbv)|(refine bz hg (dQ _ _ _) rfl (fun R0 ha=> ?_);cases R0<;>cbv)|((first|refine aZ hg (dI _ _ _) rfl (fun R0 ha=> ?_)|refine aZ hg (cj _) rfl (fun R0 ha=> ?_));cbv)|(split<;>rename_i hh<;>(try rw [hh])<;>(try simp only [dg hg]at hh)<;>cbv))
 all_goals exact aO hF (by simp only [jo];subst_vars;simp_all)
theorem gc(s:bC)(sd:Int)(rtl:Bool)(base:Int):PC0 134 [.agg (lc (bC.c s)),ai sd,abl rtl,ai base] (.i (jo s sd rtl base)):=by
 obtain⟨⟨a0,a1⟩,⟨a2,a3⟩,⟨a4,a5⟩,⟨a6,a7⟩,⟨a8,a9⟩,⟨hc,hd⟩⟩:=s
 have hb:=km (⟨⟨a0,a1⟩,⟨a2,a3⟩,⟨a4,a5⟩,⟨a6,a7⟩,⟨a8,a9⟩,⟨hc,hd⟩⟩:bC)
 refine aU func134 fun g F hg hF=> ?_
 cbv
 repeat'(first|(refine mM hg (hb _ _) rfl (fun R0 R1 ha he=> ?_);cbv)|(refine bz hg (dX _ _ _) rfl (fun R0 ha=> ?_);cases R0<;>cbv)|((first|refine aZ hg (dK _ _ _) rfl (fun R0 ha=> ?_)|refine aZ hg (cV _) rfl (fun R0 ha=> ?_));cbv)|(split<;>rename_i hh<;>(try rw [hh])<;>(try simp only [dg hg]at hh)<;>cbv))
 all_goals exact aO hF (by simp only [jo];subst_vars;simp_all)
theorem dz(m n less:Int):PC0 145 [.agg [.J m,.J n],ai less] (.t (agP (qt ⟨m,n⟩ less))):=by
 refine aU func145 fun g F hg hF=> ?_
 cbv
 repeat'(first|(refine aZ hg (aI _) rfl (fun R0 ha=> ?_);cbv)|(split<;>rename_i hh<;>(try rw [hh])<;>(try simp only [dg hg]at hh)<;>cbv))
 all_goals exact l8 hF (by simp only [qt,(bZ hg)]at *;subst_vars;simp_all)
theorem eV(m n less:Int):PC0 124 [.agg [.J m,.J n],ai less] (.t (agP (qt ⟨m,n⟩ less))):=by
 refine aU func124 fun g F hg hF=> ?_
 cbv
 repeat'(first|(refine aZ hg (aN _) rfl (fun R0 ha=> ?_);cbv)|(split<;>rename_i hh<;>(try rw [hh])<;>(try simp only [dg hg]at hh)<;>cbv))
 all_goals exact l8 hF (by simp only [qt,(bZ hg)]at *;subst_vars;simp_all)
theorem jl(s:ag)(w:Bool)(o:Int):PC0 105 [.agg (lc (ag.c s)),abl w,ai o] (.i (rD s w o)):=by
 cases w<;>(refine aU func105 fun g F hg hF=> ?_;cbv;repeat'(first|((first|refine aK hg (aI _) rfl (fun R0 ha=> ?_)|refine aK hg (bQ _ _) rfl (fun R0 ha=> ?_));cbv)|(split<;>rename_i hh<;>(try rw [hh])<;>(try simp only [dg hg]at hh)<;>cbv)))
 all_goals exact aO hF (by simp only [rD,(gx hg)]at *;subst_vars;(try simp_all);(try(intro hx;omega)))
theorem gO(s:ag)(w:Bool)(o:Int):PC0 123 [.agg (lc (ag.c s)),abl w,ai o] (.i (rD s w o)):=by
 cases w<;>(refine aU func123 fun g F hg hF=> ?_;cbv;repeat'(first|((first|refine aZ hg (aN _) rfl (fun R0 ha=> ?_)|refine aK hg (aN _) rfl (fun R0 ha=> ?_)|refine aZ hg (bR _ _) rfl (fun R0 ha=> ?_));cbv)|(split<;>rename_i hh<;>(try rw [hh])<;>(try simp only [dg hg]at hh)<;>cbv)))
 all_goals exact aO hF (by simp only [rD,(gx hg)]at *;subst_vars;(try simp_all);(try(intro hx;omega)))
theorem sj(w h:Int):PC0 54 [ai w,ai h] (.t (abl (rng w 0 1048576&&rng h 0 1048576))):=by
 refine aU func54 fun g F hg hF=> ?_
 cbv
 repeat'(first|(refine bz hg (bO _ _ _) rfl (fun R0 ha=> ?_);cases R0<;>cbv)|(split<;>rename_i hh<;>(try rw [hh])<;>(try simp only [dg hg]at hh)<;>cbv))
 all_goals exact bk hF (by simp_all)
theorem jC(s:ag)(w rtl:Bool)(base:Int):PC0 103 [.agg (lc (ag.c s)),abl w,abl rtl,ai base] (.i (G6 s w rtl base)):=by
 obtain⟨b0,b1,b2,b3,b4,b5,b6,b7,b8,b9,hp,⟨hq,hr⟩,⟨hs,ht⟩,⟨hu,hv⟩,⟨hw,hx⟩,⟨hy,hz⟩,⟨hA,hB⟩,⟨hC,hD⟩,hE,⟨⟨ha,hb⟩,⟨hc,hd⟩,⟨he,hf⟩,⟨hi,hj⟩,⟨hk,hl⟩,⟨hm,hn⟩⟩,⟨⟨hG,hH⟩,⟨hI,hJ⟩,⟨hK,hL⟩,⟨hM,hN⟩,⟨hO,hP⟩,⟨hQ,hR⟩⟩,⟨hS,hT,hU,hV⟩,⟨hW,hX,hY,hZ⟩,h0,h1⟩:=s
 cases w<;>(refine aU func103 fun g F hg hF=> ?_;cbv;repeat'(first|(refine aK hg (dF (⟨⟨ha,hb⟩,⟨hc,hd⟩,⟨he,hf⟩,⟨hi,hj⟩,⟨hk,hl⟩,⟨hm,hn⟩⟩:bC) _ _ _) rfl (fun R0 ho=> ?_);cbv)|(split<;>rename_i hh<;>(try rw [hh])<;>(try simp only [dg hg]at hh)<;>cbv)))
 all_goals exact aO hF (by simp only [G6,(aG hg)]at *;subst_vars;simp_all)
theorem sV(s:ag)(w:Bool)(base n m:Int):PC0 106 [.agg (lc (ag.c s)),abl w,ai base,ai n,ai m] (.t (agP (Ij s w base n m))):=by
 refine aU func106 fun g F hg hF=> ?_
 cbv
 repeat'(first|((first|refine mM hg (dz _ _ _) rfl (fun R0 R1 ha hb=> ?_)|refine aZ hg (cu s _ _ _) rfl (fun R0 ha=> ?_));cbv)|(split<;>rename_i hh<;>(try rw [hh])<;>(try simp only [dg hg]at hh)<;>cbv))
 all_goals exact l8 hF (by simp only [Ij];subst_vars;simp_all)
theorem lr(p s:ag)(w:Bool)(base mb:Int)(rtl:Bool)(M:Int)(hM:M=G6 s w rtl mb):PC0 104 [.agg (lc (ag.c p)),.agg (lc (ag.c s)),abl w,ai base,ai M,abl rtl] (.i (FQ s w rtl base mb)):=by
 obtain⟨b0,b1,b2,b3,b4,b5,b6,b7,b8,b9,hc,⟨hd,he⟩,⟨hf,hi⟩,⟨hj,hk⟩,⟨hl,hm⟩,⟨hn,ho⟩,⟨hp,hq⟩,⟨hr,hs⟩,ht,⟨⟨hu,hv⟩,⟨hw,hx⟩,⟨hy,hz⟩,⟨hA,hB⟩,⟨hC,hD⟩,⟨hE,hG⟩⟩,⟨⟨hH,hI⟩,⟨hJ,hK⟩,⟨hL,hN⟩,⟨hO,hP⟩,⟨hQ,hR⟩,⟨hS,hT⟩⟩,⟨hU,hV,hW,hX⟩,⟨hY,hZ,h0,h1⟩,h2,h3⟩:=p
 cases w<;>(refine aU func104 fun g F hg hF=> ?_;cbv;repeat'(first|(refine aZ hg (eI s _ _) rfl (fun R0 ha=> ?_);cbv)|(refine y9 hg (gF s _ _ _) rfl (fun R0 R1 ha hb=> ?_);cases R1<;>cbv)|(refine aZ hg (aI _) rfl (fun R0 ha=> ?_);cbv)|(split<;>rename_i hh<;>(try rw [hh])<;>(try simp only [dg hg]at hh)<;>cbv)))
 all_goals exact aO hF (by simp only [FQ,Hv,G6,(bZ hg),Bool.false_eq_true,if_false,if_true]at *;subst_vars;simp_all [BV])
theorem bJ(p s:ag)(rtl:Bool)(wide high sd:Int):PC0 87 [.agg (apC p s rtl wide high),ai sd] (.i (jo s.margin sd rtl wide)):=by
 obtain⟨b0,b1,b2,b3,b4,b5,b6,b7,b8,b9,hp,⟨hq,hr⟩,⟨hs,ht⟩,⟨hu,hv⟩,⟨hw,hx⟩,⟨hy,hz⟩,⟨hA,hB⟩,⟨hC,hD⟩,hE,⟨⟨ha,hb⟩,⟨hc,hd⟩,⟨he,hf⟩,⟨hi,hj⟩,⟨hk,hl⟩,⟨hm,hn⟩⟩,⟨⟨hG,hH⟩,⟨hI,hJ⟩,⟨hK,hL⟩,⟨hM,hN⟩,⟨hO,hP⟩,⟨hQ,hR⟩⟩,⟨hS,hT,hU,hV⟩,⟨hW,hX,hY,hZ⟩,h0,h1⟩:=s
 refine aU func87 fun g F hg hF=> ?_
 cbv
 repeat'(first|(refine aZ hg (gc (⟨⟨ha,hb⟩,⟨hc,hd⟩,⟨he,hf⟩,⟨hi,hj⟩,⟨hk,hl⟩,⟨hm,hn⟩⟩:bC) _ _ _) rfl (fun R0 ho=> ?_);cbv)|(split<;>rename_i hh<;>(try rw [hh])<;>(try simp only [dg hg]at hh)<;>cbv))
 all_goals exact aO hF (by subst_vars;rfl)
theorem iA(p s:ag)(rtl:Bool)(wide high sd:Int)(hw:sd=0\/sd=2):PC0 86 [.agg (apC p s rtl wide high),ai sd] (.tup [ai (xZ s sd rtl wide),abl (x9 s sd rtl wide)]):=by
 obtain⟨b0,b1,b2,b3,b4,b5,b6,b7,b8,b9,ha,⟨hb,hc⟩,⟨hd,he⟩,⟨hf,hh⟩,⟨hi,hj⟩,⟨hk,hl⟩,⟨hm,hn⟩,⟨ho,hp⟩,hq,⟨⟨hr,hs⟩,⟨ht,hu⟩,⟨hv,hx⟩,⟨hy,hz⟩,⟨hA,hB⟩,⟨hC,hD⟩⟩,⟨⟨hE,hG⟩,⟨hH,hI⟩,⟨hJ,hK⟩,⟨hL,hM⟩,⟨hN,hO⟩,⟨hP,hQ⟩⟩,⟨hR,hS,hT,hU⟩,⟨hV,hW,hX,hY⟩,hZ,h0⟩:=p
 rcases hw with rfl|rfl<;>(
  refine aU func86 fun g F hg hF=> ?_
  cbv
  (repeat'((first|refine y9 hg (m7 s _ _ _) rfl (fun R0 R1 h1 h2=> ?_)|have e:g .q .eql 0 0=true:=(by rw [bg hg];rfl);rw [e]|have e:g .q .eql 2 0=false:=(by rw [bg hg];rfl);rw [e]|have e:g .q .eql 2 2=true:=(by rw [bg hg];rfl);rw [e]);cbv))
  all_goals exact EP hF (by subst_vars;exact⟨rfl,rfl⟩))
theorem iz(p s:ag)(rtl:Bool)(wide high sd:Int)(hw:sd=1\/sd=3):PC0 86 [.agg (apC p s rtl wide high),ai sd] (.tup [ai (xZ s sd rtl high),abl (x9 s sd rtl high)]):=by
 obtain⟨b0,b1,b2,b3,b4,b5,b6,b7,b8,b9,ha,⟨hb,hc⟩,⟨hd,he⟩,⟨hf,hh⟩,⟨hi,hj⟩,⟨hk,hl⟩,⟨hm,hn⟩,⟨ho,hp⟩,hq,⟨⟨hr,hs⟩,⟨ht,hu⟩,⟨hv,hx⟩,⟨hy,hz⟩,⟨hA,hB⟩,⟨hC,hD⟩⟩,⟨⟨hE,hG⟩,⟨hH,hI⟩,⟨hJ,hK⟩,⟨hL,hM⟩,⟨hN,hO⟩,⟨hP,hQ⟩⟩,⟨hR,hS,hT,hU⟩,⟨hV,hW,hX,hY⟩,hZ,h0⟩:=p
 rcases hw with rfl|rfl<;>(
  refine aU func86 fun g F hg hF=> ?_
  cbv
  (repeat'((first|refine y9 hg (m7 s _ _ _) rfl (fun R0 R1 h1 h2=> ?_)|have e:g .q .eql 1 0=false:=(by rw [bg hg];rfl);rw [e]|have e:g .q .eql 3 0=false:=(by rw [bg hg];rfl);rw [e]|have e:g .q .eql 1 2=false:=(by rw [bg hg];rfl);rw [e]|have e:g .q .eql 3 2=false:=(by rw [bg hg];rfl);rw [e]);cbv))
  all_goals exact EP hF (by subst_vars;exact⟨rfl,rfl⟩))
theorem sI(p s:ag)(rtl:Bool)(wide high:Int):PC0 122 [.agg (apC p s rtl wide high),ai 0,ai 2,ai wide] (.i (Hv s 0 2 rtl wide wide)):=by
 have c0:=iA p s rtl wide high 0 (.inl rfl)
 have c2:=iA p s rtl wide high 2 (.inr rfl)
 have m0:=bJ p s rtl wide high 0
 have m2:=bJ p s rtl wide high 2
 obtain⟨b0,b1,b2,b3,b4,b5,b6,b7,b8,b9,hc,⟨hd,he⟩,⟨hf,hi⟩,⟨hj,hk⟩,⟨hl,hm⟩,⟨hn,ho⟩,⟨hp,hq⟩,⟨hr,hs⟩,ht,⟨⟨hu,hv⟩,⟨hw,hx⟩,⟨hy,hz⟩,⟨hA,hB⟩,⟨hC,hD⟩,⟨hE,hG⟩⟩,⟨⟨hH,hI⟩,⟨hJ,hK⟩,⟨hL,hM⟩,⟨hN,hO⟩,⟨hP,hQ⟩,⟨hR,hS⟩⟩,⟨hT,hU,hV,hW⟩,⟨hX,hY,hZ,h0⟩,h1,h2⟩:=s
 refine aU func122 fun g F hg hF=> ?_
 cbv
 repeat'(first|(refine y9 hg c0 rfl (fun R0 R1 ha hb=> ?_);cases R1<;>cbv)|(refine y9 hg c2 rfl (fun R0 R1 ha hb=> ?_);cases R1<;>cbv)|((first|refine aK hg m0 rfl (fun R0 ha=> ?_)|refine aK hg m2 rfl (fun R0 ha=> ?_)|refine aK hg (aN _) rfl (fun R0 ha=> ?_));cbv)|(split<;>rename_i hh<;>(try rw [hh])<;>(try simp only [dg hg]at hh)<;>(first|(exfalso;omega)|cbv)))
 all_goals exact aO hF (by simp only [Hv,(bZ hg)]at *;subst_vars;simp_all [zl])
theorem sH(p s:ag)(rtl:Bool)(wide high:Int):PC0 122 [.agg (apC p s rtl wide high),ai 1,ai 3,ai high] (.i (Hv s 1 3 rtl high wide)):=by
 have c0:=iz p s rtl wide high 1 (.inl rfl)
 have c2:=iz p s rtl wide high 3 (.inr rfl)
 have m0:=bJ p s rtl wide high 1
 have m2:=bJ p s rtl wide high 3
 obtain⟨b0,b1,b2,b3,b4,b5,b6,b7,b8,b9,hc,⟨hd,he⟩,⟨hf,hi⟩,⟨hj,hk⟩,⟨hl,hm⟩,⟨hn,ho⟩,⟨hp,hq⟩,⟨hr,hs⟩,ht,⟨⟨hu,hv⟩,⟨hw,hx⟩,⟨hy,hz⟩,⟨hA,hB⟩,⟨hC,hD⟩,⟨hE,hG⟩⟩,⟨⟨hH,hI⟩,⟨hJ,hK⟩,⟨hL,hM⟩,⟨hN,hO⟩,⟨hP,hQ⟩,⟨hR,hS⟩⟩,⟨hT,hU,hV,hW⟩,⟨hX,hY,hZ,h0⟩,h1,h2⟩:=s
 refine aU func122 fun g F hg hF=> ?_
 cbv
 repeat'(first|(refine y9 hg c0 rfl (fun R0 R1 ha hb=> ?_);cases R1<;>cbv)|(refine y9 hg c2 rfl (fun R0 R1 ha hb=> ?_);cases R1<;>cbv)|((first|refine aK hg m0 rfl (fun R0 ha=> ?_)|refine aK hg m2 rfl (fun R0 ha=> ?_)|refine aK hg (aN _) rfl (fun R0 ha=> ?_));cbv)|(split<;>rename_i hh<;>(try rw [hh])<;>(try simp only [dg hg]at hh)<;>(first|(exfalso;omega)|cbv)))
 all_goals exact aO hF (by simp only [Hv,(bZ hg)]at *;subst_vars;simp_all [zl])
theorem ue(p s:ag)(rtl:Bool)(wide high:Int):PC0 82 [.agg (apC p s rtl wide high)] (.tup [agP (apX s rtl wide high),agP (apY s rtl wide high)]):=by
 have q0:=sI p s rtl wide high
 have q1:=sH p s rtl wide high
 have m0:=bJ p s rtl wide high 0
 have m1:=bJ p s rtl wide high 1
 have m2:=bJ p s rtl wide high 2
 have m3:=bJ p s rtl wide high 3
 have fw:=eY s true wide
 have fh:=eY s false high
 have br:=gO s
 have bo:=dB s
 refine CE [(16,.op 0 (.op 1 (.op 2 (.op 3 .done .none) .none) (.op 2 (.op 1 (.op 3 .done .none) .none) .none)) (.op 1 (.op 0 (.op 2 (.op 3 .done .none) .none) .none) .none))] (c:=jx f82) bn func82 (by kernel_rfl) (by kernel_rfl) (by rfl) (by kernel_rfl) fun g F hg hF=> ?_
 cbv
 repeat'(first|((first|refine aK hg fw rfl (fun R0 ha=> ?_)|refine aK hg fh rfl (fun R0 ha=> ?_)|refine aZ hg q0 rfl (fun R0 ha=> ?_)|refine aZ hg q1 rfl (fun R0 ha=> ?_)|refine aZ hg (br _ _) rfl (fun R0 ha=> ?_)|refine aK hg m0 rfl (fun R0 ha=> ?_)|refine aK hg m1 rfl (fun R0 ha=> ?_)|refine aK hg m2 rfl (fun R0 ha=> ?_)|refine aK hg m3 rfl (fun R0 ha=> ?_)|refine jd hg (eV _ _ _) rfl (fun R0 R1 ha hb=> ?_)|refine aZ hg (bo _ _ _) rfl (fun R0 ha=> ?_)|refine mM hg (fD _) rfl (fun R0 R1 ha hb=> ?_));cbv)|(split<;>rename_i hh<;>(try rw [hh])<;>(try simp only [dg hg]at hh)<;>(first|(exfalso;omega)|cbv)))
 all_goals(clear q0 q1 m0 m1 m2 m3 fw fh br bo;repeat'(first|exact True.intro|apply And.intro))
 all_goals refine IZ hF ?_
 all_goals(simp only [(aG hg)]at *;clear hF hg;simp only [apX,apY,apW,apH,FQ,Ij,G6];grind)
theorem p8(p s:ag)(wide high:Int)(rtl:Bool):PC0 74 [.agg (lc (ag.c p)),.agg (lc (ag.c s)),ai wide,ai high,abl rtl] (.tup [agP (apX s rtl (vx p wide) (xq p high)),agP (apY s rtl (vx p wide) (xq p high))]):=by
 have cp:=nI p wide high
 have br:=jl s
 have ro:=sV s
 refine aU func74 fun g F hg hF=> ?_
 cbv
 refine Ds hg cp rfl (fun W H hW hH=> ?_)
 cbv
 have mw:=jC s true rtl W
 refine aZ hg mw rfl (fun MW hc=> ?_)
 cbv
 have mh:=jC s false rtl W
 refine aZ hg mh rfl (fun MH hb=> ?_)
 cbv
 have kw:=lr p s true W W rtl MW hc
 refine aZ hg kw rfl (fun KW hf=> ?_)
 cbv
 have kh:=lr p s false H W rtl MH hb
 refine aZ hg kh rfl (fun KH he=> ?_)
 cbv
 clear cp mw mh kw kh
 repeat'(first|((first|refine aZ hg (br _ _) rfl (fun R0 ha=> ?_)|refine jd hg (ro _ _ _ _) rfl (fun R0 R1 ha hd=> ?_));cbv)|(split<;>rename_i hh<;>(try rw [hh])<;>(try simp only [dg hg]at hh)<;>(first|(exfalso;omega)|cbv)))
 all_goals refine IZ hF ?_
 all_goals(clear hF hg br ro;simp only [apX,apY,apW,apH,<-hW,<-hH];grind)
def jY(s:ag):Bool:=decide (s.dir=1)||decide (s.dir=3)
def lN(s:ag)(rtl:Bool):Bool:=if s.dir=1 then rtl else if s.dir=3 then !rtl else decide (s.dir=4)
def mc(s:ag)(rtl:Bool):Bool:=xor (decide (s.wrap=3)) (rtl&& !jY s)
def sd1(row gY:Bool):Int:=if row then(if gY then 2 else 0)else(if gY then 3 else 1)
def sd2(row gY:Bool):Int:=if row then(if gY then 0 else 2)else(if gY then 1 else 3)
def BQ(s k:ag):Int:=if(if k.self=0 then s.items else k.self)=5/\jY s=false then 2 else(if k.self=0 then s.items else k.self)
def FL(inner at_ size:Int)(gY:Bool):Int:=if gY then wrap64 (wrap64 (inner-at_)-size)else at_
def jA(s:ag)(wide:Bool):Int:=if wide then cl s.colGap else cl s.rowGap
def wO(m:bC)(sd:Int)(rtl:Bool):Bool:=decide ((rj m sd rtl).kind=3)
def tak(s:aM)(n:Int):Int:=if s.mode=3\/(s.mode=2/\s.n<n)then cl s.n else cl n
def lj(s:aM):Int:=if s.mode=2\/s.mode=3 then s.n else-1
def Ei(s:aM):aM:=if s.mode=3 then⟨2,s.n⟩else s
def knS(s:aM):Int:=if s.mode=3 then s.n else-1
def wN(c:Int):Int:=if c=3 then 2 else if c=4 then 3 else if c=5 then 4 else if c=6 then 5 else 1
def vd(x:aw):Bool:=rng x.size 0 1048576&&(rng x.base 0 1048576&&(rng x.before (-1048576) 1048576&&(rng x.behind (-1048576) 1048576&&rng x.align 1 5)))
def onB(x:aw):Bool:=decide (x.align=5)&&(!x.autoBefore&& !x.autoBehind)
def Ax(x:aw):Bool:=decide (x.align=1)&&(!x.autoBefore&& !x.autoBehind)
def GY(x:aw)(cross base:Int):Int:=
 if vd x=false then 0 else
 let free:=wrap64 (wrap64 (wrap64 (cross-x.size)-x.before)-x.behind)
 if x.autoBefore||x.autoBehind then(if free<=0\/x.autoBefore=false then x.before else if x.autoBehind then wrap64 (x.before+fdv free 2)else wrap64 (x.before+free))
 else if x.align=3 then wrap64 (x.before+free)else if x.align=4 then wrap64 (x.before+fdv free 2)else if x.align=5 then wrap64 (base-x.base)else x.before
theorem gU(s:ag):PC0 205 [.agg (lc (ag.c s))] (.t (abl (jY s))):=by
 refine aU func205 fun g F hg hF=> ?_
 cbv
 repeat'(first|(split<;>rename_i hh<;>(try rw [hh])<;>(try simp only [dg hg]at hh)<;>cbv))
 all_goals exact bk hF (by(try simp only [bg hg,gg hg,zqn]);clear hF hg;simp_all [jY])
theorem gX(s:ag):PC0 229 [.agg (lc (ag.c s))] (.t (abl (jY s))):=by
 refine aU func229 fun g F hg hF=> ?_
 cbv
 repeat'(first|(split<;>rename_i hh<;>(try rw [hh])<;>(try simp only [dg hg]at hh)<;>cbv))
 all_goals exact bk hF (by(try simp only [bg hg,gg hg,zqn]);clear hF hg;simp_all [jY])
theorem lB(s:ag)(rtl:Bool):PC0 223 [.agg (lc (ag.c s)),abl rtl] (.t (abl (lN s rtl))):=by
 cases rtl<;>(refine aU func223 fun g F hg hF=> ?_;cbv;repeat'(first|(split<;>rename_i hh<;>(try rw [hh])<;>(try simp only [dg hg]at hh)<;>cbv)))
 all_goals exact bk hF (by(try simp only [bg hg,gg hg,zqn]);clear hF hg;simp_all [lN])
theorem lY(s:ag)(rtl:Bool):PC0 189 [.agg (lc (ag.c s)),abl rtl] (.t (abl (lN s rtl))):=by
 cases rtl<;>(refine aU func189 fun g F hg hF=> ?_;cbv;repeat'(first|(split<;>rename_i hh<;>(try rw [hh])<;>(try simp only [dg hg]at hh)<;>cbv)))
 all_goals exact bk hF (by(try simp only [bg hg,gg hg,zqn]);clear hF hg;simp_all [lN])
theorem kJ(s:ag)(rtl:Bool):PC0 225 [.agg (lc (ag.c s)),abl rtl] (.t (abl (mc s rtl))):=by
 have c1:=gU s
 cases rtl<;>(refine aU func225 fun g F hg hF=> ?_;cbv;repeat'(first|(refine bd hg c1 rfl (fun R0 ha=> ?_);cases R0<;>cbv)|(split<;>rename_i hh<;>(try rw [hh])<;>(try simp only [dg hg]at hh)<;>cbv)))
 all_goals exact bk hF (by(try simp only [bg hg,gg hg,zqn]);clear hF hg;simp_all [mc])
theorem k9(s:ag)(rtl:Bool):PC0 191 [.agg (lc (ag.c s)),abl rtl] (.t (abl (mc s rtl))):=by
 have c1:=gX s
 cases rtl<;>(refine aU func191 fun g F hg hF=> ?_;cbv;repeat'(first|(refine bd hg c1 rfl (fun R0 ha=> ?_);cases R0<;>cbv)|(split<;>rename_i hh<;>(try rw [hh])<;>(try simp only [dg hg]at hh)<;>cbv)))
 all_goals exact bk hF (by(try simp only [bg hg,gg hg,zqn]);clear hF hg;simp_all [mc])
theorem lz(row gY:Bool):PC0 313 [abl row,abl gY] (.tup [ai (sd1 row gY),ai (sd2 row gY)]):=by
 cases row<;>cases gY<;>(refine aU func313 fun g F hg hF=> ?_;cbv)
 all_goals exact sv hF (by exact⟨rfl,rfl⟩)
theorem m6(row gY:Bool):PC0 282 [abl row,abl gY] (.tup [ai (sd1 row gY),ai (sd2 row gY)]):=by
 cases row<;>cases gY<;>(refine aU func282 fun g F hg hF=> ?_;cbv)
 all_goals exact sv hF (by exact⟨rfl,rfl⟩)
theorem qe(s:ag)(rtl:Bool):PC0 293 [.agg (lc (ag.c s)),abl rtl] (.tup [ai (sd1 (jY s) (lN s rtl)),ai (sd2 (jY s) (lN s rtl))]):=by
 have c1:=gU s
 have c2:=lB s rtl
 have c3:=lz
 refine aU func293 fun g F hg hF=> ?_
 cbv
 repeat'(first|(refine bd hg c1 rfl (fun R0 ha=> ?_);cases R0<;>cbv)|(refine bd hg c2 rfl (fun R0 ha=> ?_);cases R0<;>cbv)|(refine AK hg (c3 _ _) rfl (fun R0 R1 ha hb=> ?_);cbv)|(split<;>rename_i hh<;>(try rw [hh])<;>(try simp only [dg hg]at hh)<;>cbv))
 all_goals exact sv hF (by subst_vars;simp_all)
theorem kT(s:ag)(rtl:Bool):PC0 232 [.agg (lc (ag.c s)),abl rtl] (.tup [ai (sd1 (jY s) (lN s rtl)),ai (sd2 (jY s) (lN s rtl))]):=by
 have c1:=gX s
 have c2:=lY s rtl
 have c3:=m6
 refine aU func232 fun g F hg hF=> ?_
 cbv
 repeat'(first|(refine bd hg c1 rfl (fun R0 ha=> ?_);cases R0<;>cbv)|(refine bd hg c2 rfl (fun R0 ha=> ?_);cases R0<;>cbv)|(refine AK hg (c3 _ _) rfl (fun R0 R1 ha hb=> ?_);cbv)|(split<;>rename_i hh<;>(try rw [hh])<;>(try simp only [dg hg]at hh)<;>cbv))
 all_goals exact sv hF (by subst_vars;simp_all)
theorem oV(s:ag)(rtl:Bool):PC0 292 [.agg (lc (ag.c s)),abl rtl] (.tup [ai (sd1 (!jY s) (mc s rtl)),ai (sd2 (!jY s) (mc s rtl))]):=by
 have c1:=gU s
 have c2:=kJ s rtl
 have c3:=lz
 refine aU func292 fun g F hg hF=> ?_
 cbv
 repeat'(first|(refine bd hg c1 rfl (fun R0 ha=> ?_);cases R0<;>cbv)|(refine bd hg c2 rfl (fun R0 ha=> ?_);cases R0<;>cbv)|(refine AK hg (c3 _ _) rfl (fun R0 R1 ha hb=> ?_);cbv)|(split<;>rename_i hh<;>(try rw [hh])<;>(try simp only [dg hg]at hh)<;>cbv))
 all_goals exact sv hF (by subst_vars;simp_all)
theorem jL(s:ag)(rtl:Bool):PC0 239 [.agg (lc (ag.c s)),abl rtl] (.tup [ai (sd1 (!jY s) (mc s rtl)),ai (sd2 (!jY s) (mc s rtl))]):=by
 have c1:=gX s
 have c2:=k9 s rtl
 have c3:=m6
 refine aU func239 fun g F hg hF=> ?_
 cbv
 repeat'(first|(refine bd hg c1 rfl (fun R0 ha=> ?_);cases R0<;>cbv)|(refine bd hg c2 rfl (fun R0 ha=> ?_);cases R0<;>cbv)|(refine AK hg (c3 _ _) rfl (fun R0 R1 ha hb=> ?_);cbv)|(split<;>rename_i hh<;>(try rw [hh])<;>(try simp only [dg hg]at hh)<;>cbv))
 all_goals exact sv hF (by subst_vars;simp_all)
theorem mU(s k:ag):PC0 265 [.agg (lc (ag.c s)),.agg (lc (ag.c k))] (.i (BQ s k)):=by
 have c1:=gU s
 refine aU func265 fun g F hg hF=> ?_
 cbv
 repeat'(first|(refine bz hg c1 rfl (fun R0 ha=> ?_);cases R0<;>cbv)|(split<;>rename_i hh<;>(try rw [hh])<;>(try simp only [dg hg]at hh)<;>cbv))
 all_goals exact aO hF (by simp only [BQ];grind)
theorem m8(s k:ag):PC0 243 [.agg (lc (ag.c s)),.agg (lc (ag.c k))] (.i (BQ s k)):=by
 have c1:=gX s
 refine aU func243 fun g F hg hF=> ?_
 cbv
 repeat'(first|(refine bz hg c1 rfl (fun R0 ha=> ?_);cases R0<;>cbv)|(split<;>rename_i hh<;>(try rw [hh])<;>(try simp only [dg hg]at hh)<;>cbv))
 all_goals exact aO hF (by simp only [BQ];grind)
theorem lA(i a s:Int)(b:Bool):PC0 222 [ai i,ai a,ai s,abl b] (.i (FL i a s b)):=by
 cases b<;>(refine aU func222 fun g F hg hF=> ?_;cbv)
 all_goals exact aO hF (by(try simp only [bZ hg]);rfl)
theorem lX(i a s:Int)(b:Bool):PC0 187 [ai i,ai a,ai s,abl b] (.i (FL i a s b)):=by
 cases b<;>(refine aU func187 fun g F hg hF=> ?_;cbv)
 all_goals exact aO hF (by(try simp only [bZ hg]);rfl)
theorem gV(s:ag)(w:Bool):PC0 211 [.agg (lc (ag.c s)),abl w] (.i (jA s w)):=by
 cases w<;>(refine aU func211 fun g F hg hF=> ?_;cbv;repeat'(first|(refine aZ hg (aI _) rfl (fun R0 ha=> ?_);cbv)|(split<;>rename_i hh<;>(try rw [hh])<;>(try simp only [dg hg]at hh)<;>cbv)))
 all_goals exact aO hF (by subst_vars;rfl)
theorem ja(s:ag)(w:Bool):PC0 177 [.agg (lc (ag.c s)),abl w] (.i (jA s w)):=by
 cases w<;>(refine aU func177 fun g F hg hF=> ?_;cbv;repeat'(first|(refine aZ hg (aN _) rfl (fun R0 ha=> ?_);cbv)|(split<;>rename_i hh<;>(try rw [hh])<;>(try simp only [dg hg]at hh)<;>cbv)))
 all_goals exact aO hF (by subst_vars;rfl)
theorem lD(s:bC)(sd:Int)(rtl:Bool):PC0 294 [.agg (lc (bC.c s)),ai sd,abl rtl] (.t (abl (wO s sd rtl))):=by
 have c1:=jU s sd rtl
 refine aU func294 fun g F hg hF=> ?_
 cbv
 repeat'(first|(refine mM hg c1 rfl (fun R0 R1 ha hb=> ?_);cbv)|(split<;>rename_i hh<;>(try rw [hh])<;>(try simp only [dg hg]at hh)<;>cbv))
 all_goals exact bk hF (by(try simp only [bg hg]);subst_vars;simp [wO];try exact(zqn _ _))
theorem dL(s:bC)(sd:Int)(rtl:Bool):PC0 235 [.agg (lc (bC.c s)),ai sd,abl rtl] (.t (abl (wO s sd rtl))):=by
 have c1:=km s sd rtl
 refine aU func235 fun g F hg hF=> ?_
 cbv
 repeat'(first|(refine mM hg c1 rfl (fun R0 R1 ha hb=> ?_);cbv)|(split<;>rename_i hh<;>(try rw [hh])<;>(try simp only [dg hg]at hh)<;>cbv))
 all_goals exact bk hF (by(try simp only [bg hg]);subst_vars;simp [wO];try exact(zqn _ _))
theorem dP(m n k:Int):PC0 151 [.agg [.J m,.J n],ai k] (.i (tak ⟨m,n⟩ k)):=by
 refine aU func151 fun g F hg hF=> ?_
 cbv
 repeat'(first|(refine aZ hg (aI _) rfl (fun R0 ha=> ?_);cbv)|(split<;>rename_i hh<;>(try rw [hh])<;>(try simp only [dg hg]at hh)<;>cbv))
 all_goals exact aO hF (by simp only [tak];subst_vars;grind)
theorem fP(m n k:Int):PC0 178 [.agg [.J m,.J n],ai k] (.i (tak ⟨m,n⟩ k)):=by
 refine aU func178 fun g F hg hF=> ?_
 cbv
 repeat'(first|(refine aZ hg (aN _) rfl (fun R0 ha=> ?_);cbv)|(split<;>rename_i hh<;>(try rw [hh])<;>(try simp only [dg hg]at hh)<;>cbv))
 all_goals exact aO hF (by simp only [tak];subst_vars;grind)
theorem iq(m n:Int):PC0 150 [.agg [.J m,.J n]] (.i (lj ⟨m,n⟩)):=by
 refine aU func150 fun g F hg hF=> ?_
 cbv
 repeat'(first|(split<;>rename_i hh<;>(try rw [hh])<;>(try simp only [dg hg]at hh)<;>cbv))
 all_goals exact aO hF (by simp only [lj];grind)
theorem ou(m n:Int):PC0 172 [.agg [.J m,.J n]] (.i (lj ⟨m,n⟩)):=by
 refine aU func172 fun g F hg hF=> ?_
 cbv
 repeat'(first|(split<;>rename_i hh<;>(try rw [hh])<;>(try simp only [dg hg]at hh)<;>cbv))
 all_goals exact aO hF (by simp only [lj];grind)
theorem lC(m n:Int):PC0 295 [.agg [.J m,.J n]] (.t (agP (Ei ⟨m,n⟩))):=by
 refine aU func295 fun g F hg hF=> ?_
 cbv
 repeat'(first|(split<;>rename_i hh<;>(try rw [hh])<;>(try simp only [dg hg]at hh)<;>cbv))
 all_goals exact l8 hF (by simp only [Ei];grind)
theorem lZ(m n:Int):PC0 283 [.agg [.J m,.J n]] (.t (agP (Ei ⟨m,n⟩))):=by
 refine aU func283 fun g F hg hF=> ?_
 cbv
 repeat'(first|(split<;>rename_i hh<;>(try rw [hh])<;>(try simp only [dg hg]at hh)<;>cbv))
 all_goals exact l8 hF (by simp only [Ei];grind)
theorem dr(m n:Int):PC0 207 [.agg [.J m,.J n]] (.i (knS ⟨m,n⟩)):=by
 refine aU func207 fun g F hg hF=> ?_
 cbv
 repeat'(first|(split<;>rename_i hh<;>(try rw [hh])<;>(try simp only [dg hg]at hh)<;>cbv))
 all_goals exact aO hF (by simp only [knS];grind)
theorem eU(m n:Int):PC0 181 [.agg [.J m,.J n]] (.i (knS ⟨m,n⟩)):=by
 refine aU func181 fun g F hg hF=> ?_
 cbv
 repeat'(first|(split<;>rename_i hh<;>(try rw [hh])<;>(try simp only [dg hg]at hh)<;>cbv))
 all_goals exact aO hF (by simp only [knS];grind)
theorem oQ(c:Int):PC0 274 [ai c] (.i (wN c)):=by
 refine aU func274 fun g F hg hF=> ?_
 cbv
 repeat'(first|(split<;>rename_i hh<;>(try rw [hh])<;>(try simp only [dg hg]at hh)<;>cbv))
 all_goals exact aO hF (by simp only [wN];grind)
theorem qv(c:Int):PC0 248 [ai c] (.i (wN c)):=by
 refine aU func248 fun g F hg hF=> ?_
 cbv
 repeat'(first|(split<;>rename_i hh<;>(try rw [hh])<;>(try simp only [dg hg]at hh)<;>cbv))
 all_goals exact aO hF (by simp only [wN];grind)
theorem nD(x:aw):PC0 278 [.agg (lc (aw.c x))] (.t (abl (vd x))):=by
 refine aU func278 fun g F hg hF=> ?_
 cbv
 repeat'(first|(refine bz hg (bf _ _ _) rfl (fun R0 ha=> ?_);cases R0<;>cbv)|(split<;>rename_i hh<;>(try rw [hh])<;>(try simp only [dg hg]at hh)<;>cbv))
 all_goals exact bk hF (by(try simp only [bg hg,gg hg,zqn]);clear hF hg;simp_all [vd])
theorem oq(x:aw):PC0 253 [.agg (lc (aw.c x))] (.t (abl (vd x))):=by
 refine aU func253 fun g F hg hF=> ?_
 cbv
 repeat'(first|(refine bz hg (bO _ _ _) rfl (fun R0 ha=> ?_);cases R0<;>cbv)|(split<;>rename_i hh<;>(try rw [hh])<;>(try simp only [dg hg]at hh)<;>cbv))
 all_goals exact bk hF (by(try simp only [bg hg,gg hg,zqn]);clear hF hg;simp_all [vd])
theorem jg(x:aw):PC0 279 [.agg (lc (aw.c x))] (.t (abl (x.autoBefore||x.autoBehind))):=by
 obtain⟨s,b,c,p,q,a,e⟩:=x
 cases p<;>cases q<;>(refine aU func279 fun g F hg hF=> ?_;cbv)
 all_goals exact bk hF rfl
theorem oy(x:aw):PC0 252 [.agg (lc (aw.c x))] (.t (abl (onB x))):=by
 obtain⟨s,b,c,p,q,a,e⟩:=x
 cases p<;>cases q<;>(refine aU func252 fun g F hg hF=> ?_;cbv;repeat'(first|(split<;>rename_i hh<;>(try rw [hh])<;>(try simp only [dg hg]at hh)<;>cbv)))
 all_goals exact bk hF (by(try simp only [bg hg,gg hg,zqn]);clear hF hg;simp_all [onB,Ax])
theorem xE(x:aw):PC0 182 [.agg (lc (aw.c x))] (.t (abl (Ax x))):=by
 obtain⟨s,b,c,p,q,a,e⟩:=x
 cases p<;>cases q<;>(refine aU func182 fun g F hg hF=> ?_;cbv;repeat'(first|(split<;>rename_i hh<;>(try rw [hh])<;>(try simp only [dg hg]at hh)<;>cbv)))
 all_goals exact bk hF (by(try simp only [bg hg,gg hg,zqn]);clear hF hg;simp_all [onB,Ax])
theorem nJ(x:aw):PC0 277 [.agg (lc (aw.c x))] (.t (abl (onB x))):=by
 have c1:=jg x
 obtain⟨s,b,c,p,q,a,e⟩:=x
 cases p<;>cases q<;>(refine aU func277 fun g F hg hF=> ?_;cbv;repeat'(first|(refine bz hg c1 rfl (fun R0 ha=> ?_);cases R0<;>cbv)|(split<;>rename_i hh<;>(try rw [hh])<;>(try simp only [dg hg]at hh)<;>cbv)))
 all_goals exact bk hF (by(try simp only [bg hg,gg hg,zqn]);clear hF hg c1;simp_all [onB,Ax])
theorem pv(x:aw):PC0 269 [.agg (lc (aw.c x))] (.t (abl (Ax x))):=by
 have c1:=jg x
 obtain⟨s,b,c,p,q,a,e⟩:=x
 cases p<;>cases q<;>(refine aU func269 fun g F hg hF=> ?_;cbv;repeat'(first|(refine bz hg c1 rfl (fun R0 ha=> ?_);cases R0<;>cbv)|(split<;>rename_i hh<;>(try rw [hh])<;>(try simp only [dg hg]at hh)<;>cbv)))
 all_goals exact bk hF (by(try simp only [bg hg,gg hg,zqn]);clear hF hg c1;simp_all [onB,Ax])
theorem mQ(a b:Int):PC0 264 [ai a,ai b] (.i (if b<a then b else a)):=by
 refine aU func264 fun g F hg hF=> ?_
 cbv
 repeat'(first|(split<;>rename_i hh<;>(try rw [hh])<;>(try simp only [dg hg]at hh)<;>cbv))
 all_goals exact aO hF (by grind)
theorem jf(x:aw):PC0 271 [.agg (lc (aw.c x))] (.i (wrap64 (x.before+x.behind))):=by
 refine aU func271 fun g F hg hF=> ?_
 cbv
 all_goals exact aO hF (by rw [aG hg])
theorem nH(x:aw)(cross base:Int):PC0 224 [.agg (lc (aw.c x)),ai cross,ai base] (.i (GY x cross base)):=by
 have c1:=jg x
 have c2:=nD x
 obtain⟨s,b,c,p,q,a,e⟩:=x
 cases p<;>cases q<;>(refine aU func224 fun g F hg hF=> ?_;cbv;repeat'(first|(refine bz hg c1 rfl (fun R0 ha=> ?_);cases R0<;>cbv)|(refine bz hg c2 rfl (fun R0 ha=> ?_);cases R0<;>cbv)|(refine aK hg (bQ _ _) rfl (fun R0 ha=> ?_);cbv)|(split<;>rename_i hh<;>(try rw [hh])<;>(try simp only [dg hg]at hh)<;>cbv)))
 all_goals exact aO hF (by(try simp only [bZ hg,aG hg]at *);(try clear c1);clear c2 hF hg;simp only [GY];grind)
theorem ow(x:aw)(cross base:Int):PC0 190 [.agg (lc (aw.c x)),ai cross,ai base] (.i (GY x cross base)):=by
 have c2:=oq x
 obtain⟨s,b,c,p,q,a,e⟩:=x
 cases p<;>cases q<;>(refine aU func190 fun g F hg hF=> ?_;cbv;repeat'(first|(refine bz hg c2 rfl (fun R0 ha=> ?_);cases R0<;>cbv)|(refine aK hg (bR _ _) rfl (fun R0 ha=> ?_);cbv)|(split<;>rename_i hh<;>(try rw [hh])<;>(try simp only [dg hg]at hh)<;>cbv)))
 all_goals exact aO hF (by(try simp only [bZ hg,aG hg]at *);(try clear c1);clear c2 hF hg;simp only [GY];grind)
end Go.Proofs.YtckchgoblpgpbaaGreat
namespace Go.Proofs.YtckchgoblpgpbaaGreat
open Go.Shelf Go.RowKit Go.Lib Go.Sort Go.Proofs
variable {P:Program}{ρ:Ren}{α:Type}[Inhabited α]
structure ll(enc:α->Value)(w:World)(blk off:Nat)(dk:Array α)(W:World):Prop where
 os:W.os=w.os
 tape:W.tape=w.tape
 output:W.output=w.output
 size:w.heap.size<=W.heap.size
 at_:∀b,b<w.heap.size->W.heap[b]? =(putRow enc w blk off dk).heap[b]?
section
variable {enc:α->Value}{w W W':World}{blk off:Nat}{d dk:Array α}
theorem ll.below(h:ll enc w blk off dk W)(hb:Below W.heap.size W W'):ll enc w blk off dk W':=
 ⟨hb.os.trans h.os,hb.tape.trans h.tape,hb.output.trans h.output,zpb h.size hb.size,fun b hl=>(hb.block b (zpu hl h.size)).trans (h.at_ b hl)⟩
theorem ll.start(hH:Holds enc w blk off d):ll enc w blk off d w:=⟨rfl,rfl,rfl,zpk _,fun b _=>by rw [putRow_self enc w blk off d hH]⟩
theorem ll.holds(h:ll enc w blk off dk W)(hblk:blk<w.heap.size)(hH:Holds enc w blk off d)(hs:dk.size=d.size):Holds enc W blk off dk:=fun j hj=>by
 have h1:=holds_putRow enc w blk off d dk hH hs j hj
 exact⟨(World.cell?_of_block (w:=putRow enc w blk off dk) (w':=W) (a:=⟨blk,off+j,none⟩) (h.at_ blk hblk)).trans h1.1,(World.frozen?_of_block (w:=putRow enc w blk off dk) (w':=W) (a:=⟨blk,off+j,none⟩) (h.at_ blk hblk)).trans h1.2⟩
theorem iY{b:Nat}(hb:b≠blk):(putRow enc w blk off dk).heap[b]? =w.heap[b]? :=by
 simp only [putRow,mapBlock,Array.getElem?_modify]
 rw [if_neg (fun e=>hb e.symm)]
theorem ll.cell(h:ll enc w blk off dk W){b k:Nat}(hb:b<w.heap.size)(hne:b≠blk):W.cell? ⟨b,k,none⟩=w.cell? ⟨b,k,none⟩:=
 World.cell?_of_block (w:=w) (w':=W) (a:=⟨b,k,none⟩) ((h.at_ b hb).trans (iY hne))
theorem uk(W:World)(a:Addr)(u:Value)(b:Nat):∃f:Obj->Obj,∀X:World,(X.setCell a u).heap[b]? =if a.block=b then(X.heap[b]?).map f else X.heap[b]? :=by
 exact⟨_,fun X=>by simp only [World.setCell,Array.getElem?_modify];rfl⟩
theorem ll.swap(h:ll enc w blk off dk W)(hblk:blk<w.heap.size){i j:Nat}(hi:i<dk.size)(hj:j<dk.size):
  ll enc w blk off (swp dk i j) ((W.setCell ⟨blk,off+i,none⟩ (enc dk[j]!)).setCell ⟨blk,off+j,none⟩ (enc dk[i]!)):=by
 refine⟨h.os,h.tape,h.output,by simp only [World.setCell,Array.size_modify];exact h.size,fun b hb=> ?_⟩
 rw [<-putRow_swp enc w blk off dk i j hi hj]
 obtain⟨f,hf⟩:=uk W ⟨blk,off+j,none⟩ (enc dk[i]!) b
 obtain⟨g,hg⟩:=uk W ⟨blk,off+i,none⟩ (enc dk[j]!) b
 rw [hf,hf,hg,hg,h.at_ b hb]
theorem ll.base{o:Obj}(hblk:blk<w.heap.size)(h:ll enc (w.alloc o) blk off dk W):ll enc w blk off dk W:=by
 refine⟨h.os,h.tape,h.output,zpb (by simp) h.size,fun b hb=> ?_⟩
 rw [h.at_ b (by rw [World.size_alloc];omega)]
 simp only [putRow,mapBlock,Array.getElem?_modify]
 rw [Below.heap_alloc w o b hb]
end
def uf(P:Program)(g:Nat)(lb:Array Value)(enc:α->Value)(lt:α->α->Bool)(p:α->Prop)(blk off size:Nat)(w:World):Prop:=
 ∀(W:World)(dk:Array α),dk.size=size->(∀i,i<size->p dk[i]!)->ll enc w blk off dk W->∀i j:Nat,i<size->j<size->
  Calls P g (#[.int .i64 i,.int .i64 j]++lb) W fun e w'=>e= .returned (.bool (lt dk[i]! dk[j]!))/\Below W.heap.size W w'
theorem uf.alloc{g:Nat}{lb:Array Value}{enc:α->Value}{lt:α->α->Bool}{p:α->Prop}{blk off size:Nat}{w:World}{o:Obj}(hblk:blk<w.heap.size)(h:uf P g lb enc lt p blk off size w):uf P g lb enc lt p blk off size (w.alloc o):=
 fun W dk hs hp hW i j hi hj=>h W dk hs hp (hW.base hblk) i j hi hj
theorem Gz{p:α->Prop}{d:Array α}{i j:Nat}(hi:i<d.size)(hj:j<d.size)(h:∀k,k<d.size->p d[k]!):∀k,k<d.size->p (swp d i j)[k]! :=fun k hk=>by
 unfold swp
 by_cases h1:k=j
 ·subst h1
  rw [getElem!_set_same _ _ _ (by simpa using hj)];exact h i hi
 ·rw [getElem!_set_other _ _ _ _ h1]
  by_cases h2:k=i
  ·subst h2
   rw [getElem!_set_same _ _ _ hi];exact h j hj
  ·rw [getElem!_set_other _ _ _ _ h2];exact h k hk
set_option maxRecDepth 100000 in
theorem mH(L:LaysGg.n26 P ρ)(enc:α->Value)(lt:α->α->Bool)(p:α->Prop)(g:Nat)(lb:Array Value)(sf:Nat)(sb:Array Value)(blk off a b:Nat)(d:Array α)(w:World)
  (eg:∀args w,(callFunc g args).run P w= .ok (.enter g args) w) (hless:uf P g lb enc lt p blk off d.size w) (hswap:SwapSwaps P sf sb enc blk off d.size)
  (hp:∀i,i<d.size->p d[i]!)
  (hH:Holds enc w blk off d) (hblk:blk<w.heap.size) (hab:a<=b) (hb:b<=d.size) (hsz:d.size<4611686018427387904):
  Calls P (ρ.f 26) #[.agg #[.func (.func g) #[] lb,.func (.func sf) #[] sb],.int .i64 a,.int .i64 b] w fun e w'=>
   e= .returned (.tuple #[])/\ll enc w blk off (Sort.insertionSort lt d a b) w':=by
 have hy:=L.mixed;have t0:=L.t0;have a0:=L.a0;have z0:=L.z0;have v0:=L.v0;have t3:=L.t3;have a3:=L.a3;have z3:=L.z3;have v3:=L.v3;have t4:=L.t4;have a4:=L.a4;have z4:=L.z4;have v4:=L.v4;have hV:=L.t26;have hK:=L.a26;have h3:=L.z26;have h0:=L.v26;have hX:=L.t37;have hL:=L.a37;have h4:=L.z37;have h1:=L.v37;have hY:=L.t44;have hM:=L.a44;have h5:=L.z44;have h2:=L.v44
 have hZ:=run_underlying L.t44
 have hh:Holds enc (w.alloc (.cells #[.func (.func g) #[] lb,.func (.func sf) #[] sb] (ρ.t 44))) blk off d:=by rw [alloc_eq_grow];exact holds_grow enc w _ blk off d hblk hH
 have ha:=hless.alloc (o:= .cells #[.func (.func g) #[] lb,.func (.func sf) #[] sb] (ρ.t 44)) hblk
 have hc:blk<(w.alloc (.cells #[.func (.func g) #[] lb,.func (.func sf) #[] sb] (ρ.t 44))).heap.size:=by rw [World.size_alloc];omega
 have hv:=ll.start hh
 have fin:∀D W,ll enc (w.alloc (.cells #[.func (.func g) #[] lb,.func (.func sf) #[] sb] (ρ.t 44))) blk off D W->ll enc w blk off D W:=fun D W h=>h.base hblk
 have cc:∀k v,((w.alloc (.cells #[.func (.func g) #[] lb,.func (.func sf) #[] sb] (ρ.t 44)))).cell? ⟨w.heap.size,k,none⟩=some v->∀D W,ll enc (w.alloc (.cells #[.func (.func g) #[] lb,.func (.func sf) #[] sb] (ρ.t 44))) blk off D W->W.cell? ⟨w.heap.size,k,none⟩=some v:=fun k v h D W hW=>by
  rw [hW.cell (by rw [World.size_alloc];omega) (by omega)];exact h
 have hm:=cc 0 (.func (.func g) #[] lb) (by simp)
 have hn:=cc 1 (.func (.func sf) #[] sb) (by simp)
 clear cc
 obtain⟨w1,hw⟩:∃w1,w1=(w.alloc (.cells #[.func (.func g) #[] lb,.func (.func sf) #[] sb] (ρ.t 44))):=⟨_,rfl⟩
 rw [<-hw]at hh ha hc hv fin hm hn
 go_enter L.f26,BodyGg.n26_ntmps ρ
 go_wp2
 rw [<-hw]
 go_loopw [6] (fun vi wr=>∃(i:Nat)(dk:Array α),vi= .int .i64 i/\a<i/\i<=b+1/\dk.size=d.size/\(∀k,k<d.size->p dk[k]!)/\ll enc w1 blk off dk wr/\
   insOuter lt a b i dk=insOuter lt a b (a+1) d) (fun vi _=>b+1-(intOf vi).toNat)
 case atStart=>exact⟨a+1,d,by go_num,by omega,by omega,rfl,hp,hv,rfl⟩
 case round=>
  obtain⟨i,dk,rfl,hR,hT,hE,hu,hx,hO⟩:=hrel
  have HO:Hid (insOuter lt a b i dk=insOuter lt a b (a+1) d):=hO
  have HP:Hid (∀k,k<d.size->p dk[k]!):=hu
  have hg:Hid (ll enc w1 blk off dk wr):=hx
  have hJ:Hid (∀i,i<d.size->p d[i]!):=hp
  have HL:Hid (uf P g lb enc lt p blk off d.size w1):=ha
  have hG:Hid (uf P g lb enc lt p blk off d.size w):=hless
  have hi:Hid (∀D W,ll enc w1 blk off D W->W.cell? ⟨w.heap.size,0,none⟩=some (.func (.func g) #[] lb)):=hm
  have hj:Hid (∀D W,ll enc w1 blk off D W->W.cell? ⟨w.heap.size,1,none⟩=some (.func (.func sf) #[] sb)):=hn
  have HF:Hid (∀D W,ll enc w1 blk off D W->ll enc w blk off D W):=fin
  clear hO hu hx hp ha hless hm hn fin
  have hB:=hi.out _ _ hg.out
  have hC:=hj.out _ _ hg.out
  go_wp2
  ·
   go_loopw [7] (fun vj hF=>∃(j:Nat)(dj:Array α),vj= .int .i64 j/\a<=j/\j<=i/\dj.size=d.size/\(∀k,k<d.size->p dj[k]!)/\ll enc w1 blk off dj hF/\
     insInner lt a j dj=insInner lt a i dk) (fun vj _=>(intOf vj).toNat)
   case atStart=>exact⟨i,dk,rfl,by omega,zpk _,hE,HP.out,hg.out,rfl⟩
   case round=>
    clear hB hC
    obtain⟨j,dj,rfl,hS,hU,hd,ht,hf,hI⟩:=hrel
    have hr:i<b:=by assumption
    have hQ:=hf.holds hc hh hd
    have c0:=hi.out _ _ hf
    have c1:=hj.out _ _ hf
    have HW:Hid (ll enc w1 blk off dj wr):=hf
    have HI:Hid (insInner lt a j dj=insInner lt a i dk):=hI
    have hk:Hid (∀k,k<d.size->p dj[k]!):=ht
    clear hf hI ht
    have hz:(j<=a\/lt dj[j]! dj[j-1]! =false)->∀W,ll enc w1 blk off dj W->∃i' dk',Value.int .i64 ((i:Int)+1)= .int .i64 (i':Nat)/\a<i'/\i'<=b+1/\dk'.size=d.size/\(∀k,k<d.size->p dk'[k]!)/\
      ll enc w1 blk off dk' W/\insOuter lt a b i' dk'=insOuter lt a b (a+1) d:=fun hs W hW=>
     ⟨i+1,dj,by go_num,by omega,by omega,hd,hk.out,hW,
      by rw [<-HO.out,insOuter_go _ _ _ _ _ hr,<-HI.out,insInner_stop _ _ _ _ hs]⟩
    have hq:Hid _:=hz
    clear hz
    by_cases hja:a<j
    ·have hl:=HL.out wr dj hd hk.out HW.out j (j-1) (by omega) (by omega)
     rw [show(((j-1:Nat):Int))=(j:Int)-1 by omega]at hl
     cases hlv:lt dj[j]! dj[j-1]! with
     |true=>
      rw [hlv]at hl
      go_wp2_with (go_at_fn g;refine hl.mono ?_;rintro e w' ⟨rfl,hbw⟩;have he:=HW.out.below hbw;have hN:=hi.out _ _ he;have hP:=hj.out _ _ he;have hA:Hid (ll enc w1 blk off dj w'):=he;have ho:=he.holds hc hh hd;clear hbw he)
      have hs:=hswap w' dj ho hd j (j-1) (by omega) (by omega)
      rw [show(((j-1:Nat):Int))=(j:Int)-1 by omega]at hs
      rw [hs,Oper.upon_value]
      go_wp2
      go_roundw
      case rel=>
       (repeat apply Exists.intro)
       refine⟨⟨j-1,swp dj j (j-1),by congr 1<;>omega,by omega,by omega,by rw [size_swp];exact hd,?_,?_,?_⟩,by rw [zqu hr,show((j-1:Nat):Int)=(j:Int)-1 by omega]⟩
       ·have:=Gz (i:=j) (j:=j-1) (d:=dj) (by omega) (by omega) (by rw [hd];exact hk.out)
        rw [hd]at this;exact this
       ·exact hA.out.swap hc (by omega) (by omega)
       ·rw [<-HI.out,insInner_go lt a j dj hja hlv]
      case measure=>simp [intOf];omega
     |false=>
      rw [hlv]at hl
      go_wp2_with (go_at_fn g;refine hl.mono ?_;rintro e w' ⟨rfl,hbw⟩)
      go_roundw
      case rel=>exact hq.out (Or.inr hlv) _ (HW.out.below hbw)
      case measure=>simp [intOf];omega
    ·go_wp2
     go_roundw
     case rel=>exact hq.out (Or.inl (by omega)) _ HW.out
     case measure=>simp [intOf];omega
  ·
   have hD:¬i<b:=by assumption
   go_end0
   exact⟨rfl,by unfold Sort.insertionSort;rw [<-HO.out,insOuter_stop _ _ _ _ _ hD];exact HF.out _ _ hg.out⟩
set_option maxRecDepth 100000 in
theorem uX(L:LaysGt.n15 P ρ)(enc:α->Value)(lt:α->α->Bool)(p:α->Prop)(g:Nat)(lb:Array Value)(sf:Nat)(sb:Array Value)(blk off:Nat)(d:Array α)(W:World)
  (eg:∀args w,(callFunc g args).run P w= .ok (.enter g args) w) (hless:uf P g lb enc lt p blk off d.size W) (hswap:SwapSwaps P sf sb enc blk off d.size)
  (hp:∀i,i<d.size->p d[i]!) (hH:Holds enc W blk off d) (hblk:blk<W.heap.size) (h20:d.size<20):
  Calls P (ρ.f 15) #[.agg #[.func (.func g) #[] lb,.func (.func sf) #[] sb],.int .i64 d.size] W fun e w'=>e= .returned (.tuple #[])/\ll enc W blk off (Sort.insertionSort lt d 0 d.size) w':=by
 have hb:=L.mixed;have t0:=L.t0;have a0:=L.a0;have z0:=L.z0;have v0:=L.v0;have t3:=L.t3;have a3:=L.a3;have z3:=L.z3;have v3:=L.v3;have t4:=L.t4;have a4:=L.a4;have z4:=L.z4;have v4:=L.v4;have hi:=L.t26;have hd:=L.a26;have hs:=L.z26;have hn:=L.v26;have hj:=L.t38;have he:=L.a38;have ht:=L.z38;have ho:=L.v38;have hk:=L.t42;have hf:=L.a42;have hu:=L.z42;have hq:=L.v42;have hl:=L.t47;have hg:=L.a47;have hv:=L.z47;have hr:=L.v47
 have hm:=run_underlying L.t42
 have hh:∀args w,(callFunc (ρ.f 29) args).run P w= .ok (.enter (ρ.f 29) args) w:=enters_of L.f29 (by kernel_rfl) rfl
 have LI:LaysGg.n26 P ρ.viaGt:=({L with}:LaysGt.n29 P ρ).elder
 have ha:Holds enc (W.alloc (.cells #[.func (.func g) #[] lb,.func (.func sf) #[] sb] (ρ.t 42))) blk off d:=by rw [alloc_eq_grow];exact holds_grow enc W _ blk off d hblk hH
 have hc:Calls P (ρ.f 29) #[.agg #[.func (.func g) #[] lb,.func (.func sf) #[] sb],.int .i64 (0:Nat),.int .i64 d.size] (W.alloc (.cells #[.func (.func g) #[] lb,.func (.func sf) #[] sb] (ρ.t 42))) fun e w'=>e= .returned (.tuple #[])/\ll enc W blk off (Sort.insertionSort lt d 0 d.size) w':=
  (mH LI enc lt p g lb sf sb blk off 0 d.size d _ eg (hless.alloc hblk) hswap hp ha (by rw [World.size_alloc];omega) (zpn _) (zpk _) (by omega)).mono fun e w' h=>⟨h.1,h.2.base hblk⟩
 clear hless hswap hH ha hp
 go_enter L.f15,BodyGt.n15_ntmps ρ
 go_wp2
 refine wp_loop_rounds 1 ?_
 rw [rounds_succ]
 go_wp2_with (go_at_fn (ρ.f 29);refine hc.mono ?_;rintro e w1 ⟨rfl,hR⟩)
 refine wp_loop_rounds 1 ?_
 rw [rounds_succ]
 go_wp2
 all_goals first|(exfalso;omega)|(go_end0;exact⟨rfl,hR⟩)
theorem wK(L:LaysGt.n8 P ρ)(t e:TypeId)(i ie:TypeInfo)(hi:P.info? t=some i)(hd:i.desc= .slice e)(hpk:P.packed t=false)(hie:P.info? e=some ie)(ke:Nat)(hke:∀w,(Extern.Rtype.kind e).run P w= .ok ke w)
  (hs1:ie.size=1) (hagg:∀w,(isAgg e).run P w= .ok false w) (enc:α->Value) (h1:∀x,(enc x).oneCell'=true) (lt:α->α->Bool) (p:α->Prop) (g:Nat) (lb:Array Value)
  (eg:∀args w,(callFunc g args).run P w= .ok (.enter g args) w) (blk off c:Nat) (d:Array α) (h2:2<=d.size) (h20:d.size<20)
  (f:Nat) (hf:P.funcs.findIdx? (·.name== "internal/reflectlite" ++ ".Swapper$" ++toString (swapperK d.size ie ke))=some f)
  (gS:Bool) (hx:∀args W,(callFunc f args).run P W=((Extern.ReflectliteSwapper.swap gS args).run P W).andThen fun v w'=> .ok (.value v) w')
  (w:World) (hless:uf P g lb enc lt p blk off d.size w) (hp:∀i,i<d.size->p d[i]!) (hH:Holds enc w blk off d) (hblk:blk<w.heap.size):
  Calls P (ρ.f 8) #[.iface t (.slice (some ⟨blk,off,none⟩) d.size c),.func (.func g) #[] lb] w fun e w'=>
   e= .returned (.tuple #[])/\ll enc w blk off (Sort.insertionSort lt d 0 d.size) w':=by
 refine Any.sort_SliceStable_of_stable L t e i ie hi hd hpk hie ke hke _ d.size c (by omega) f hf (.func g) #[] lb w _ ?_
 have hB:sliceBound P e ie ke (some ⟨blk,off,none⟩) d.size c= #[.slice (some ⟨blk,off,none⟩) d.size c,typeHandle P e]:=by
  unfold sliceBound;rw [if_neg (swapperK_gt _ _ _ h2)]
 rw [hB]
 unfold stableWorld
 have ha:blk<(w.alloc (.cells #[.slice (some ⟨blk,off,none⟩) d.size c] t)).heap.size:=by rw [World.size_alloc];omega
 have hb:Holds enc (w.alloc (.cells #[.slice (some ⟨blk,off,none⟩) d.size c] t)) blk off d:=by rw [alloc_eq_grow];exact holds_grow enc w _ blk off d hblk hH
 refine(uX (P:=P) (ρ:=ρ) {L with} enc lt p g lb f _ blk off d _ eg ((hless.alloc hblk).alloc ha)
  (swapSwaps_of_literal gS f hx e ie hie hs1 hagg enc h1 blk off d.size c) hp (by rw [alloc_eq_grow _ (.cells #[.pointer _,.pointer _,.int .u64 151] _)];exact holds_grow enc _ _ blk off d ha hb) (by rw [World.size_alloc];omega) h20).mono ?_
 rintro e w' ⟨rfl,hR⟩
 exact⟨rfl,(hR.base ha).base hblk⟩
end Go.Proofs.YtckchgoblpgpbaaGreat
namespace Go.Proofs.YtckchgoblpgpbaaGreat
open Go.ChangeShapes Go.WideShapes Go.ChangeAt Go.RowKit Am Go.Proofs.Tryz
set_option maxRecDepth 100000
def kg(ns:List ae)(n:Int):List Int:=match ns[(n-1).toNat]? with|some x=>x.kids|none=>[]
def jK(ns:List ae)(n:Int)(k:Int):Bool:=isN ns k&&decide (upN ns k=n)
def JR(x:ae):Bool:= !((x.measured&&(!Gy x.table.rules||decide ((0:Int)<(x.kids.length:Int))))||(!x.measured&&decide ((0:Int)<(x.table.rules.length:Int))))
def Fu(ns:List ae)(n up:Int):Bool:=decide (up=0)||decide (cnt (kg ns up) n=1)
def fN(ns:List ae)(n:Int)(x:ae):Bool:=Ca x.style&&(rng (wB ns n) 1 4&&(Fu ns n x.up&&(x.kids.all (jK ns n)&&JR x)))
def goT(ns:List ae):List ae->Int->Bool
 | [],_=>true
 |x::xs,i=>fN ns (i+1) x&&goT ns xs (i+1)
def dy(ns:List ae):Bool:=decide ((ns.length:Int)<=12)&&goT ns ns 0
theorem kq(ns:List ae):∀(xs:List ae)(k:Int),goT ns xs k=true↔∀(i:Nat)(x:ae),xs[i]? =some x->fN ns (k+(i:Int)+1) x=true
 | [],k=>by simp [goT]
 |x::xs,k=>by
  simp only [goT,zqs]
  rw [kq ns xs (k+1)]
  constructor
  ·rintro⟨h1,h2⟩ i y hy
   cases i with
   |zero=>simp at hy;subst hy;simpa using h1
   |succ i=>have:=h2 i y (by simpa using hy);rw [show k+((i+1:Nat):Int)+1=k+1+(i:Int)+1 by omega];exact this
  ·intro h
   refine⟨by simpa using h 0 x rfl,fun i y hy=> ?_⟩
   have:=h (i+1) y (by simpa using hy)
   rw [show k+((i+1:Nat):Int)+1=k+1+(i:Int)+1 by omega]at this
   exact this
variable {ns:List ae}
theorem B4{z:Int}{x:ae}(h0:0<=z)(hx:ns[z.toNat]? =some x)(h:fN ns (z+1) x=false):dy ns=false:=by
 cases hg:goT ns ns 0
 ·simp [dy,hg]
 ·have:=(kq ns ns 0).1 hg z.toNat x hx
  rw [show(0:Int)+((z.toNat:Nat):Int)+1=z+1 by omega,h]at this
  cases this
variable {z M:Int}
theorem zt(hM:M=(ns.length:Int))(h12:M<=12)(hz:M<=z)(h:∀(i:Nat)(x:ae),i<z.toNat->ns[i]? =some x->fN ns ((i:Int)+1) x=true):dy ns=true:=by
 have hg:goT ns ns 0=true:=(kq ns ns 0).2 fun i x hx=>by
  have hi:=(zqb.1 hx).1
  have:=h i x (by omega) hx
  rwa [show(0:Int)+(i:Int)+1=(i:Int)+1 by omega]
 simp only [dy,hg,Bool.and_true,zqp]
 omega
theorem zw{M:Int}(hM:M=(ns.length:Int))(h:¬M<=12):dy ns=false:=by
 simp only [dy,Bool.and_eq_false_iff,zqo]
 left;omega
variable {n:Int}
theorem Gb{x:ae}(h0:n≠0)(hn:isN ns n=true)(hx:ns[(n-1).toNat]? =some x)(hd:rng (wB ns n) 1 4=true)(hu:x.up≠0):isN ns x.up=true:=by
 cases hi:isN ns x.up
 ·exfalso
  have hl:ns.length≠0:=fun h=>by
   have:=(bj hn).2.1
   have:=(bj hn).1
   omega
  obtain⟨L,hL⟩:∃L,ns.length=L+1:=⟨ns.length-1,by omega⟩
  rw [wB,hL,kz ns h0 hn,wX hx,wA ns _ _ _ hu hi]at hd
  simp [rng]at hd
 ·rfl
variable {xs:List Int}
theorem wa{i:Nat}{k:Int}(h:xs[i]? =some k)(hk:jK ns n k=false):xs.all (jK ns n)=false:=by
 rw [List.all_eq_false]
 exact⟨k,zqd h,by rw [hk];decide⟩
theorem CY(hM:M=(xs.length:Int))(hz:M<=z)(h:∀(i:Nat)(v:Int),i<z.toNat->xs[i]? =some v->jK ns n v=true):xs.all (jK ns n)=true:=by
 rw [zqf]
 exact qQ hM hz h
theorem vH{n:Nat}{a z:Int}(h:a=(n:Int))(hz:z<=(n:Int)):z<=a:=h▸hz
theorem FV(hM:M=(ns.length:Int))(h0:0<=z)(h1:z<M):isN ns (z+1)=true:=by
 simp only [isN,rng,zqs,zqp];omega
theorem Jk{z:Int}{x:ae}(h:ns[z.toNat]? =some x):ns[(z+1-1).toNat]? =some x:=by rw [show z+1-1=z by omega];exact h
theorem rY{α:Type}{c:α->Array Value}{xs:List α}{V:LLA}(hV:V=vw c xs):aJ V=(xs.length:Int):=by rw [hV,ak,ar]
theorem ip(ns:List ae)(hl:ns.length<=1048576)(hs:∀y∈ns,y.small):PC0 34 [.agg [.view (vwA ae.ac ns)]] (.t (abl (dy ns))):=by
 obtain⟨V,hV⟩:=nmE (vwA ae.ac ns)
 have hp:aJ V=(ns.length:Int):=by rw [ak,hV,bm]
 have xt:0<=aJ V:=by omega
 have xe:aJ V<=1048576:=by omega
 have hX:∀n,isN ns n=rng n 1 (aJ V):=fun n=>by rw [hp];rfl
 have cD:=fun n=>th ns n hl
 obtain⟨R,hR⟩:=nmE (dy ns)
 rw [<-hR]
 rw [<-hV]at cD⊢
 refine aU func34 fun g F hg hF=> ?_
 cbv
 cases h12:g .q .gtr (g .ln V) 12
 case true=>
  rw [di hg,bu hg,zqp]at h12
  cbv
  exact bk hF (by rw [hR,zw hp (by omega)])
 rw [di hg,bu hg,zqo]at h12
 cbv
 refine bK hg bn (by kernel_rfl) (fun z:Int=>[(1,.p 0),(3,.i z)]) (fun _=>[.bx 28 1 [.view V]]) (fun z=>0<=z/\z<=aJ V/\∀(i:Nat)(x:ae),i<z.toNat->ns[i]? =some x->fN ns ((i:Int)+1) x=true) (fun z=>(aJ V).toNat-z.toNat)
  0 [some 0] ⟨zpc 0,xt,fun i x hi=>by simp at hi⟩ (wkS [0] (by decide) ⟨⟨_,rfl,rfl,rfl⟩,zpt⟩ zr2) (fun z B xw hB=> ?_)
 obtain⟨h0,h1,h2⟩:=xw
 cbv
 cases hc:g .q .lss z (g .ln V)
 ·rw [ba hg,bu hg,zqo]at hc
  cbv
  exact bk hF (by rw [hR,zt hp (by omega) (by omega) h2])
 rw [ba hg,bu hg,zqp]at hc
 cbv
 obtain⟨x,hx⟩:=pg (xs:=ns) h0 (fZ hp hc)
 have hM:V[z.toNat]? =some x.ac:=by rw [hV];exact ik hx
 have xx:=hs x (zqd hx)
 have hf:fN ns (z+1) x=false->R=false:=fun h=>by rw [hR];exact B4 h0 hx h
 have xg:=FV hp h0 hc
 have xf:=Jk hx
 obtain⟨n,hn⟩:=nmE (z+1)
 rw [<-hn]at hf xg xf
 obtain⟨OK,hT⟩:=nmE (fN ns n x)
 have ha:=hT
 rw [fN]at ha
 rw [<-hT]at hf
 obtain⟨A,hA⟩:=nmE (Ca x.style)
 obtain⟨Dp,hS⟩:=nmE (wB ns n)
 obtain⟨Bd,hP⟩:=nmE (rng Dp 1 4)
 obtain⟨C,hC⟩:=nmE (Fu ns n x.up)
 obtain⟨D,hD⟩:=nmE (x.kids.all (jK ns n))
 obtain⟨E,hE⟩:=nmE (JR x)
 have hL:Bd=true->x.up≠0->isN ns x.up=true:=fun hb hu=>Gb (by omega) xg xf (by rw [<-hS,<-hP];exact hb) hu
 rw [<-hA,<-hS,<-hP,<-hC,<-hD,<-hE]at ha
 have cA:=tb x.style
 have hO:=cD n
 have cB:=bf Dp 1 4
 have cT:=ta x.table.rules
 rw [<-hA]at cA
 rw [<-hS]at hO
 rw [<-hP]at cB
 have h9:∀(i:Nat)(y:ae),i<(z+1).toNat->ns[i]? =some y->OK=true->fN ns ((i:Int)+1) y=true:=fun i y hi hy hk=>by
  by_cases hw:i<z.toNat
  ·exact h2 i y hw hy
  ·obtain rfl:i=z.toNat:=by omega
   rw [hx]at hy
   cases hy
   rw [show((z.toNat:Nat):Int)+1=n by omega,<-hT];exact hk
 obtain⟨a0,a1,sa,hz,⟨hN⟩⟩:=x
 obtain⟨xE,h6,-⟩:=xx
 replace cT:=cT h6
 simp only at hL hC hD hE cA cT
 replace hM:V[z.toNat]? =some (.J a0:: .view (vw aj a1)::(lc (ag.c sa)++[.B hz,.view (vw aD.c hN)])):=hM
 obtain⟨TK,hU⟩:=nmE (Gy hN)
 rw [<-hU]at cT
 obtain⟨he,ho⟩:=nmE (vw aj a1)
 obtain⟨hh,hd⟩:=nmE (vw aD.c hN)
 have h4:=rY ho
 have h5:=rY hd
 have xy:0<=aJ he:=by omega
 have xD:aJ he<=1048576:=by omega
 rw [<-ho,<-hd]at hM
 rw [<-hd]at cT
 have e1:g .w .add .i64 z 1=n:=by rw [aG hg,ao _ (by omega),hn]
 refine goX hg _ h0 hM rfl ?_
 cbv
 (first|refine ad hg cA ?_|refine aa hg cA ?_)
 cases A
 case false=>
  cbv
  exact bk hF (hf ha).symm
 cbv
 rw [e1]
 (first|refine ad hg hO ?_|refine aa hg hO ?_)
 cbv
 (first|refine ad hg cB ?_|refine aa hg cB ?_)
 cases Bd
 case false=>
  cbv
  exact bk hF (hf (by rw [ha];rfl)).symm
 replace hL:=hL rfl
 have hj:E= !((hz&&(!TK||decide (0<aJ he)))||(!hz&&decide (0<aJ hh))):=by rw [hE,hU,h4,h5];rfl
 clear hE hU
 by_cases hu:a0=0
 case' pos=>
  have xd:C=true:=by rw [hC,Fu,hu];rfl
  have eu:g .q .neq a0 0=false:=by rw [bB hg];simpa using hu
  cbv
  rw [eu]
 case' neg=>
  have eu:g .q .neq a0 0=true:=by rw [bB hg];simpa using hu
  have xu:=hL hu
  obtain⟨u1,u2,xb,h3⟩:=bj xu
  have xi:a0<=1048576:=zpv (vH hp u2) xe
  have hJ:V[(a0-1).toNat]? =some xb.ac:=by rw [hV];exact ik h3
  have xh:kg ns a0=xb.kids:=by unfold kg;rw [h3]
  have xv:=(hs xb (zqd h3))
  obtain⟨b0,b1,sb,xn,⟨h7⟩⟩:=xb
  obtain⟨xz,xA,-⟩:=xv
  simp only at xh
  replace hJ:V[(a0-1).toNat]? =some (.J b0:: .view (vw aj b1)::(lc (ag.c sb)++[.B xn,.view (vw aD.c h7)])):=hJ
  have cH:=jS b1 n xz
  obtain⟨Cn,xc⟩:=nmE (cnt b1 n)
  have xa:C=decide (Cn=1):=by rw [hC,Fu,xh,xc];simp [hu]
  rw [<-xc]at cH
  obtain⟨xB,hG⟩:=nmE (vw aj b1)
  obtain⟨xl,hH⟩:=nmE (vw aD.c h7)
  rw [<-hG,<-hH]at hJ
  rw [<-hG]at cH
  cbv
  rw [eu]
  cbv
  (first|refine ad hg (eD V a0 u1 xi hJ) ?_|refine aa hg (eD V a0 u1 xi hJ) ?_)
  cbv
  rw [e1]
  (first|refine ad hg cH ?_|refine aa hg cH ?_)
  cbv
  cases hcn:g .q .neq Cn 1
  case true=>
   rw [bB hg,bne_iff_ne]at hcn
   have xq:C=false:=by rw [xa];simpa using hcn
   cbv
   exact bk hF (hf (by rw [ha,xq];simp)).symm
  rw [bB hg,zqq]at hcn
  have xd:C=true:=by rw [xa,hcn];rfl
 all_goals
  cbv
  refine bK hg bn (by kernel_rfl) (fun j:Int=>[(1,.p 0),(3,.i z),(4,.p 1),(5,.i j)]) (fun _=>[.bx 28 1 [.view V],.bx 69 64 (.J a0:: .view he::(lc (ag.c sa)++[.B hz,.view hh]))]) (fun j:Int=>0<=j/\j<=aJ he/\∀(i:Nat)(v:Int),i<j.toNat->a1[i]? =some v->jK ns n v=true) (fun j=>(aJ he).toNat-j.toNat)
   0 [some 0,some 1] ⟨zpc 0,xy,fun i v hi=>by simp at hi⟩ (wkS [0,1] (by decide) ⟨⟨_,rfl,rfl,rfl⟩,⟨_,rfl,rfl,rfl⟩,zpt⟩ zr4) (fun j B2 hZ xp=> ?_)
  obtain⟨k0,k1,k2⟩:=hZ
  cbv
  cases hk:g .q .lss j (g .ln he)
  ·rw [ba hg,bu hg,zqo]at hk
   have xr:D=true:=by rw [hD];exact CY h4 (by omega) k2
   replace ha:OK=E:=by rw [ha,xd,xr];simp
   cases hz
   ·replace hj:E= !(decide (0<aJ hh)):=by rw [hj];simp
    cbv
    cases ht:g .q .gtr (g .ln hh) 0
    case true=>
     rw [di hg,bu hg,zqp]at ht
     cbv
     exact bk hF (hf (by rw [ha,hj];simpa using ht)).symm
    rw [di hg,bu hg,zqo]at ht
    have hm:OK=true:=by rw [ha,hj];simpa using ht
    cbv
    rw [e1,hn]
    exact gY hB (z+1) [some 0] (wkS [0] (by decide) ⟨⟨_,rfl,rfl,rfl⟩,zpt⟩ zr2) ⟨by omega,by omega,fun i y hi hy=>h9 i y hi hy hm⟩ (by omega)
   ·replace hj:E= !(!TK||decide (0<aJ he)):=by rw [hj];simp
    cbv
    (first|refine ad hg cT ?_|refine aa hg cT ?_)
    cases TK
    case false=>
     cbv
     exact bk hF (hf (by rw [ha,hj];rfl)).symm
    cbv
    cases ht:g .q .gtr (g .ln he) 0
    case true=>
     rw [di hg,bu hg,zqp]at ht
     cbv
     exact bk hF (hf (by rw [ha,hj];simpa using ht)).symm
    rw [di hg,bu hg,zqo]at ht
    have hm:OK=true:=by rw [ha,hj];simpa using ht
    cbv
    rw [e1,hn]
    exact gY hB (z+1) [some 0] (wkS [0] (by decide) ⟨⟨_,rfl,rfl,rfl⟩,zpt⟩ zr2) ⟨by omega,by omega,fun i y hi hy=>h9 i y hi hy hm⟩ (by omega)
  rw [ba hg,bu hg,zqp]at hk
  cbv
  obtain⟨y,hy⟩:=pg (xs:=a1) k0 (fZ h4 hk)
  have xk:he[j.toNat]? =some (lc (aj y)):=by rw [ho];exact aY hy
  have ci:=fJ V y
  rw [<-hX y]at ci
  refine goX hg _ k0 xk rfl ?_
  cbv
  cases hik:isN ns y
  ·rw [hik]at ci
   have hQ:D=false:=by rw [hD];exact wa hy (by rw [jK,hik];rfl)
   (first|refine ad hg ci ?_|refine aa hg ci ?_)
   cbv
   exact bk hF (hf (by rw [ha,hQ];simp)).symm
  rw [hik]at ci
  (first|refine ad hg ci ?_|refine aa hg ci ?_)
  obtain⟨i1,i2,x,xj⟩:=bj hik
  have hw:y<=1048576:=zpv (vH hp i2) xe
  have hK:V[(y-1).toNat]? =some x.ac:=by rw [hV];exact ik xj
  have hr:=wX xj
  obtain⟨c0,c1,sc,xo,⟨h8⟩⟩:=x
  simp only at hr
  replace hK:V[(y-1).toNat]? =some (.J c0:: .view (vw aj c1)::(lc (ag.c sc)++[.B xo,.view (vw aD.c h8)])):=hK
  obtain⟨xC,hW⟩:=nmE (vw aj c1)
  obtain⟨xm,hI⟩:=nmE (vw aD.c h8)
  rw [<-hW,<-hI]at hK
  cbv
  refine goX hg _ k0 xk rfl ?_
  cbv
  (first|refine ad hg (eD V y i1 hw hK) ?_|refine aa hg (eD V y i1 hw hK) ?_)
  cbv
  rw [e1]
  cases hq:g .q .neq c0 n
  case true=>
   rw [bB hg,bne_iff_ne]at hq
   have hQ:D=false:=by rw [hD];exact wa hy (by rw [jK,hik,hr];simpa using hq)
   cbv
   exact bk hF (hf (by rw [ha,hQ];simp)).symm
  rw [bB hg,zqq]at hq
  have hY:jK ns n y=true:=by rw [jK,hik,hr];simpa using hq
  cbv
  have e3:g .w .add .i64 j 1=j+1:=by rw [aG hg,ao _ (by omega)]
  rw [e3]
  exact gY xp (j+1) [some 0,some 1] (wkS [0,1] (by decide) ⟨⟨_,rfl,rfl,rfl⟩,⟨_,rfl,rfl,rfl⟩,zpt⟩ zr4) ⟨by omega,by omega,fun i v hi hv=>by
   by_cases hw:i<j.toNat
   ·exact k2 i v hw hv
   ·obtain rfl:i=j.toNat:=by omega
    rw [hy]at hv
    cases hv
    exact hY⟩ (by omega)
end Go.Proofs.YtckchgoblpgpbaaGreat
