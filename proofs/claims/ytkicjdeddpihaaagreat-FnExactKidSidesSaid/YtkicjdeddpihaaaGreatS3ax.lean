/- Valid values, sides, styles. -/
import Derived.Test.YtkicjdeddpihaaaGreatS3aw
set_option linter.unusedVariables false
set_option linter.unusedSimpArgs false
set_option maxHeartbeats 8000000
namespace Go.Proofs.YtkicjdeddpihaaaGreat
open Go.ChangeShapes Go.WideShapes Go.ChangeAt Go.RowKit Am Go.Proofs.Tryz
set_option maxRecDepth 100000
theorem tj(x:jM)(hs:x.small):PC0 146 [.agg x.ac] (.t (.agg x.ac)):=by
 obtain⟨a0⟩:=x
 obtain⟨hh,-⟩:=hs
 show PC0 _ [.agg [.view (vw aI.c a0)]] (.t (.agg [.view (vw aI.c a0)]))
 have c0:=DJ (mP a0 hh)
 obtain⟨he,ha⟩:=nmE (vw aI.c a0)
 have hf:=lmV ha
 have hb:=imV ha
 have hd:=kmV (k:=3) ha fun _=>rfl
 have hc:=dmV ha
 rw [<-ha]at c0
 rw [<-ha]
 refine ae (aK f146) ay func146 fun g F hg hF=> ?_
 cbv
 repeat'(refine bC hg c0 (bn rfl) hb ?_;cbv)
 exact uD [.agg [.view he]] hF (.agg (by repeat'(first|exact .nil|refine .cons ?_ ?_|exact .imm _|exact .view _|exact bf (ab:=⟨_,_,he⟩) rfl hd hc)) .nil) ⟨rfl,rfl⟩
theorem tB(x:jM)(hs:x.small):PC0 172 [.agg x.ac,.agg x.ac] (.t (abl true)):=by
 obtain⟨a0⟩:=x
 obtain⟨hf,-⟩:=hs
 show PC0 _ [.agg [.view (vw aI.c a0)],.agg [.view (vw aI.c a0)]] (.t (abl true))
 have c0:=tE a0 a0 hf
 rw [zqu rfl]at c0
 obtain⟨hh,ha⟩:=nmE (vw aI.c a0)
 have hb:=lmV ha
 have hd:=imV ha
 have he:=kmV (k:=3) ha fun _=>rfl
 have hc:=dmV ha
 rw [<-ha]at c0
 rw [<-ha]
 refine ae (aK f172) ay func172 fun g F hg hF=> ?_
 cbv
 have q:∀a:Int,g .q .neq a a=false:=fun a=>by rw [bj hg];simp
 have qb:∀a:Bool,g .qb .neq a a=false:=fun a=>by rw [eY hg];simp
 repeat'(refine ad hg c0 ?_;cbv)
 exact bk hF rfl
theorem tu(x:jM)(L:Int)(hf:x.fit)(h0:0<=L)(h1:L<=1048576):cV prog 118 [.agg x.ac,ai L] fun res hb=>∃R:Int,res= .i R/\hb=[]/\(R<=L\/R<0)/\(0<=R->x.small):=by
 obtain⟨a0⟩:=x
 obtain⟨hm,-⟩:=hf
 show cV _ _ [.agg [.view (vw aI.c a0)],ai L] (fun res hb=>∃R:Int,res= .i R/\hb=[]/\(R<=L\/R<0)/\(0<=R->jM.small ⟨a0⟩))
 have c0:=fun(M:Int)(h0:0<=M)(h1:M<=1048576)=>szZ (tx (vw aI.c a0) M (by rw [av];exact hm) h0 h1)
 obtain⟨hd,ha⟩:=nmE (vw aI.c a0)
 have hc:=lmV ha
 have hk:=imV ha
 have hl:=kmV (k:=3) ha fun _=>rfl
 have hi:=dmV ha
 have hh:∀(M:Int),0<=M->M<=1048576->cV _ _ [.c (.view hd),ai M] (fun res hb=>∃R:Int,res= .i R/\hb=[]/\(R<=M\/R<0)/\(0<=R->((hd.length:Nat):Int)<=M)):=fun M h0 h1=>by have:=c0 M h0 h1;rw [<-ha]at this;exact this
 rw [<-ha]
 refine ae (aK f118) ay func118 fun g F hg hF=> ?_
 cbv
 refine Dd hg (hh L h0 h1) rfl (fun R0 he=> ?_)
 obtain⟨he,hj⟩:=he
 cbv
 cases e0:g .q .lss R0 0
 case true=>
  cbv
  exact DC hF ⟨.inr (by decide),fun h=>absurd h (by decide)⟩
 rw [bg hg,zqo]at e0
 have p0:0<=R0:=by omega
 have r0:R0<=1048576:=by omega
 cbv
 exact DC hF ⟨.inl (by omega),fun _=>⟨zi hc (hj p0) h1,trivial⟩⟩
theorem vA(x:af)(hs:x.small):PC0 71 [.agg x.ac] (.t (.agg x.ac)):=by
 obtain⟨a0,a1,a2,hi,⟨hc⟩⟩:=x
 obtain⟨hr,hn,-⟩:=hs
 show PC0 _ [.agg (List.append [.J a0,.view (vw ah a1)] (List.append (lc (ak.c a2)) [.B hi,.view (vw aI.c hc)]))] (.t (.agg (List.append [.J a0,.view (vw ah a1)] (List.append (lc (ak.c a2)) [.B hi,.view (vw aI.c hc)]))))
 have c1:=DJ (og a1 hr)
 have hj:PC0 146 [.agg [.view (vw aI.c hc)]] (.t (.agg [.view (vw aI.c hc)])):=tj ⟨hc⟩ ⟨hn,trivial⟩
 obtain⟨ho,hb⟩:=nmE (vw ah a1)
 have hp:=lmV hb
 have hf:=imV hb
 have hm:=kmV (k:=1) hb fun _=>rfl
 have hk:=dmV hb
 obtain⟨hd,ha⟩:=nmE (vw aI.c hc)
 have hl:=lmV ha
 have hq:=imV ha
 have hh:=kmV (k:=3) ha fun _=>rfl
 have he:=dmV ha
 rw [<-hb]at c1
 rw [<-ha]at hj
 rw [<-hb,<-ha]
 refine ae (aK f71) ay func71 fun g F hg hF=> ?_
 cbv
 repeat'((first|refine bC hg c1 (bn rfl) hf ?_|refine fX hg (ju (a2:ak)) rfl rfl ?_|refine ad hg hj ?_);cbv)
 exact uD [.agg (List.append [.J a0,.view ho] (List.append (lc (ak.c a2)) [.B hi,.view hd]))] hF (.agg (by repeat'(first|exact .nil|refine .cons ?_ ?_|exact .imm _|exact .view _|exact bf (ab:=⟨_,_,ho⟩) rfl hm hk|exact bf (ab:=⟨_,_,hd⟩) rfl hh he)) .nil) ⟨rfl,rfl⟩
theorem vK(x:af)(hs:x.small):PC0 95 [.agg x.ac,.agg x.ac] (.t (abl true)):=by
 obtain⟨a0,a1,a2,hh,⟨hc⟩⟩:=x
 obtain⟨hq,hf,-⟩:=hs
 show PC0 _ [.agg (List.append [.J a0,.view (vw ah a1)] (List.append (lc (ak.c a2)) [.B hh,.view (vw aI.c hc)])),.agg (List.append [.J a0,.view (vw ah a1)] (List.append (lc (ak.c a2)) [.B hh,.view (vw aI.c hc)]))] (.t (abl true))
 have c1:=vM a1 a1 hq
 rw [zqu rfl]at c1
 have c2:PC0 171 [.agg (lc (ak.c a2)),.agg (lc (ak.c a2))] (.t (abl (decide ((a2:ak)=a2)))):=tC a2 a2
 rw [zqu rfl]at c2
 have hd:PC0 172 [.agg [.view (vw aI.c hc)],.agg [.view (vw aI.c hc)]] (.t (abl true)):=tB ⟨hc⟩ ⟨hf,trivial⟩
 obtain⟨hr,hb⟩:=nmE (vw ah a1)
 have hj:=lmV hb
 have ho:=imV hb
 have hp:=kmV (k:=1) hb fun _=>rfl
 have hn:=dmV hb
 obtain⟨hm,ha⟩:=nmE (vw aI.c hc)
 have he:=lmV ha
 have hk:=imV ha
 have hl:=kmV (k:=3) ha fun _=>rfl
 have hi:=dmV ha
 rw [<-hb]at c1
 rw [<-ha]at hd
 rw [<-hb,<-ha]
 refine ae (aK f95) ay func95 fun g F hg hF=> ?_
 cbv
 have q:∀a:Int,g .q .neq a a=false:=fun a=>by rw [bj hg];simp
 have qb:∀a:Bool,g .qb .neq a a=false:=fun a=>by rw [eY hg];simp
 repeat'((first|rw [q]|rw [qb]|refine ad hg c1 ?_|refine ad hg c2 ?_|refine ad hg hd ?_);cbv)
 exact bk hF rfl
theorem vD(x:af)(L:Int)(hf:x.fit)(h0:0<=L)(h1:L<=1048576):cV prog 53 [.agg x.ac,ai L] fun res hb=>∃R:Int,res= .i R/\hb=[]/\(R<=L\/R<0)/\(0<=R->x.small):=by
 obtain⟨a0,a1,a2,hk,⟨hd⟩⟩:=x
 obtain⟨hy,hi,-⟩:=hf
 show cV _ _ [.agg (List.append [.J a0,.view (vw ah a1)] (List.append (lc (ak.c a2)) [.B hk,.view (vw aI.c hd)])),ai L] (fun res hb=>∃R:Int,res= .i R/\hb=[]/\(R<=L\/R<0)/\(0<=R->af.small ⟨a0,a1,a2,hk,⟨hd⟩⟩))
 have c1:=fun(M:Int)(h0:0<=M)(h1:M<=1048576)=>szZ (vE (vw ah a1) M (by rw [av];exact hy) h0 h1)
 have hl:∀(M:Int)(h0:0<=M)(h1:M<=1048576),cV prog 118 [.agg [.view (vw aI.c hd)],ai M] (fun res hb=>∃R:Int,res= .i R/\hb=[]/\(R<=M\/R<0)/\(0<=R->jM.small ⟨hd⟩)):=fun M h0 h1=>tu ⟨hd⟩ M ⟨hi,trivial⟩ h0 h1
 obtain⟨hj,hc⟩:=nmE (vw ah a1)
 have he:=lmV hc
 have hw:=imV hc
 have hx:=kmV (k:=1) hc fun _=>rfl
 have ht:=dmV hc
 obtain⟨hr,ha⟩:=nmE (vw aI.c hd)
 have hh:=lmV ha
 have hp:=imV ha
 have hq:=kmV (k:=3) ha fun _=>rfl
 have hm:=dmV ha
 have hs:∀(M:Int),0<=M->M<=1048576->cV _ _ [.c (.view hj),ai M] (fun res hb=>∃R:Int,res= .i R/\hb=[]/\(R<=M\/R<0)/\(0<=R->((hj.length:Nat):Int)<=M)):=fun M h0 h1=>by have:=c1 M h0 h1;rw [<-hc]at this;exact this
 simp only [<-ha]at hl
 rw [<-hc,<-ha]
 refine ae (aK f53) ay func53 fun g F hg hF=> ?_
 cbv
 refine Dd hg (hs L h0 h1) rfl (fun R0 hn=> ?_)
 obtain⟨hn,hu⟩:=hn
 cbv
 cases e0:g .q .lss R0 0
 case true=>
  cbv
  exact DC hF ⟨.inr (by decide),fun h=>absurd h (by decide)⟩
 rw [bg hg,zqo]at e0
 have p0:0<=R0:=by omega
 have r0:R0<=1048576:=by omega
 cbv
 refine Dd hg (hl R0 p0 r0) rfl (fun R1 ho=> ?_)
 obtain⟨ho,hv⟩:=ho
 cbv
 cases e1:g .q .lss R1 0
 case true=>
  cbv
  exact DC hF ⟨.inr (by decide),fun h=>absurd h (by decide)⟩
 rw [bg hg,zqo]at e1
 have p1:0<=R1:=by omega
 have r1:R1<=1048576:=by omega
 cbv
 exact DC hF ⟨.inl (by omega),fun _=>⟨zi he (hu p0) h1,(hv p1).1,trivial⟩⟩
theorem tt(xs:List af)(hl:xs.length<=1048576)(hs:∀y∈xs,y.small):PC0 37 [.c (.view (vwA af.ac xs))] (.t (.c (.view (vwA af.ac xs)))):=by
 obtain⟨V,hV⟩:=nmE (vwA af.ac xs)
 have ho:V.length=xs.length:=by rw [hV,bB]
 have kV:∀y∈V,y.length=64:=by rw [hV];exact AA af.len
 have dV:∀y∈V,y.all dat=true:=by rw [hV];exact oT af.dat
 have hp:aM V=(xs.length:Int):=by rw [aj];omega
 have hu:aM V<=1048576:=by omega
 have ht:0<=aM V:=by omega
 rw [<-hV]
 refine ae (aK f37) ay func37 fun g F hg hF=> ?_
 cbv
 refine FM hg (by decide) (by rw [ho];exact hl) ?_
 cbv
 have hm:qT 64 V (List.replicate (g .ln V).toNat wH) 0:=qT.start (k:=64) (z:=wH) rfl rfl (bA hg V)
 refine bO hg ay (by kernel_rfl) (fun s:Int×LLA=>[(0,.v V),(3,.o 0),(4,.i s.1)]) (fun s=>[.rw ⟨119,64,s.2⟩]) (fun s=>qT 64 V s.2 s.1) (fun s=>(aM V).toNat-s.1.toNat)
  (0,g .rp (g .ln V) wH) [some 0] ?_ (wkS [0] (by decide) ⟨⟨_,rfl,rfl,?_⟩,trivial⟩ zr3) (fun s B ha hB=> ?_)
 ·simp only [yE hg];exact hm
 ·simp only [yE hg];exact hm.pl
 ·obtain⟨z,es⟩:=s
  simp only at ha
  have h0:=ha.z0
  have h1:=ha.z1
  have hd:=ha.len
  cbv
  cases hc:g .q .lss z (g .ln V)
  ·cbv
   rw [bg hg,bA hg,zqo]at hc
   obtain rfl:=ha.done hc
   exact uD [.c (.view es)] hF (.c (bf (ab:=⟨_,_,es⟩) rfl kV dV) .nil) ⟨rfl,rfl⟩
  ·cbv
   rw [bg hg,bA hg,zqp]at hc
   obtain⟨x,hx⟩:=qc (xs:=xs) h0 (gg hp hc)
   have hq:=hs x (zqd hx)
   have he:V[z.toNat]? =some x.ac:=by rw [hV];exact gU hx
   have cx:=vA x hq
   obtain⟨a0,a1,a2,hh,⟨hf⟩⟩:=x
   replace he:V[z.toNat]? =some (List.append [.J a0,.view (vw ah a1)] (List.append (lc (ak.c a2)) [.B hh,.view (vw aI.c hf)])):=he
   replace cx:PC0 _ [.agg (List.append [.J a0,.view (vw ah a1)] (List.append (lc (ak.c a2)) [.B hh,.view (vw aI.c hf)]))] (.t (.agg (List.append [.J a0,.view (vw ah a1)] (List.append (lc (ak.c a2)) [.B hh,.view (vw aI.c hf)])))):=cx
   obtain⟨hr,hi⟩:=nmE (vw ah a1)
   obtain⟨hn,hb⟩:=nmE (vw aI.c hf)
   rw [<-hi,<-hb]at he cx
   refine goX hg _ h0 he rfl ?_
   cbv
   refine ad hg cx ?_
   cbv
   obtain⟨j,hj⟩:=nmE z.toNat
   refine JY hg h0 hj (rQ h0 (zS hd hc) hj) ?_
   cbv
   refine goN hg (ha.mem (rQ h0 (zS hd hc) hj)) ?_
   cbv
   have h2:g .w .add .i64 z 1=z+1:=by rw [aJ hg,aq _ (by omega)]
   rw [h2,i7 hg]
   have hk:=ha.step hc hj he rfl rfl
   exact ib hB (z+1,_) [some 0] (wkS [0] (by decide) ⟨⟨_,rfl,rfl,hk.pl⟩,trivial⟩ zr3) hk (by show(aM V).toNat-(z+1).toNat<(aM V).toNat-z.toNat;omega)
theorem tF(xs:List af)(hl:xs.length<=1048576)(hs:∀y∈xs,y.small):PC0 42 [.c (.view (vwA af.ac xs)),.c (.view (vwA af.ac xs))] (.t (abl true)):=by
 obtain⟨V,hV⟩:=nmE (vwA af.ac xs)
 have hp:V.length=xs.length:=by rw [hV,bB]
 have hj:aM V=(xs.length:Int):=by rw [aj];omega
 have ho:aM V<=1048576:=by omega
 have hi:0<=aM V:=by omega
 rw [<-hV]
 refine ae (aK f42) ay func42 fun g F hg hF=> ?_
 cbv
 have q:∀a:Int,g .q .neq a a=false:=fun a=>by rw [bj hg];simp
 rw [q]
 cbv
 refine bO hg ay (by kernel_rfl) (fun z:Int=>[(0,.v V),(1,.v V),(5,.i z)]) (fun _=>[]) (fun z=>0<=z/\z<=aM V) (fun z=>(aM V).toNat-z.toNat)
  0 [] ⟨Int.le_refl 0,hi⟩ (wk0 zr3) (fun z B hk hB=> ?_)
 obtain⟨h0,h1⟩:=hk
 cbv
 cases hc:g .q .lss z (g .ln V)
 ·cbv
  exact bk hF rfl
 ·rw [bg hg,bA hg,zqp]at hc
  cbv
  obtain⟨x,hx⟩:=qc (xs:=xs) h0 (gg hj hc)
  have hm:=hs x (zqd hx)
  have hb:V[z.toNat]? =some x.ac:=by rw [hV];exact gU hx
  have cx:=vK x hm
  obtain⟨a0,a1,a2,he,⟨hd⟩⟩:=x
  replace hb:V[z.toNat]? =some (List.append [.J a0,.view (vw ah a1)] (List.append (lc (ak.c a2)) [.B he,.view (vw aI.c hd)])):=hb
  replace cx:PC0 _ [.agg (List.append [.J a0,.view (vw ah a1)] (List.append (lc (ak.c a2)) [.B he,.view (vw aI.c hd)])),.agg (List.append [.J a0,.view (vw ah a1)] (List.append (lc (ak.c a2)) [.B he,.view (vw aI.c hd)]))] (.t (abl true)):=cx
  obtain⟨hn,hf⟩:=nmE (vw ah a1)
  obtain⟨hh,ha⟩:=nmE (vw aI.c hd)
  rw [<-hf,<-ha]at hb cx
  refine goX hg _ h0 hb rfl ?_
  cbv
  refine goX hg _ h0 hb rfl ?_
  cbv
  (first|refine ad hg cx ?_|refine aa hg cx ?_)
  cbv
  have h3:g .w .add .i64 z 1=z+1:=by rw [aJ hg,aq _ (by omega)]
  rw [h3]
  exact ib hB (z+1) [] (wk0 zr3) ⟨by omega,by omega⟩ (by show(aM V).toNat-(z+1).toNat<(aM V).toNat-z.toNat;omega)
theorem tA(xs:List af)(L:Int)(hl:xs.length<=9223372036854775807)(hf:∀y∈xs,y.fit)(h0L:0<=L)(h1L:L<=1048576):cV prog 32 [.c (.view (vwA af.ac xs)),ai L] fun res ha=>∃R:Int,res= .i R/\ha=[]/\(R<=L\/R<0)/\(0<=R->xs.length<=1048576/\∀y∈xs,y.small):=by
 obtain⟨V,hV⟩:=nmE (vwA af.ac xs)
 have hz:V.length=xs.length:=by rw [hV,bB]
 have hn:aM V=(xs.length:Int):=by rw [aj];omega
 have hw:aM V<=9223372036854775807:=by omega
 have hs:0<=aM V:=by omega
 have hu:aM V<=1048576->xs.length<=1048576:=by omega
 rw [<-hV]
 refine ae (aK f32) ay func32 fun g F hg hF=> ?_
 cbv
 obtain⟨D,hD⟩:=nmE (L-aM V)
 have e1:g .w .sub .i64 L (g .ln V)=D:=by rw [dq hg,bA hg,aq _ (by omega),hD]
 rw [e1]
 cases e:g .q .lss D 0
 case true=>
  cbv
  exact DC hF ⟨.inr (by decide),fun h=>absurd h (by decide)⟩
 rw [bg hg,zqo]at e
 have hk:=hu (by omega)
 cbv
 refine bO hg ay (by kernel_rfl) (fun s:Int×Int=>[(0,.v V),(1,.i s.2),(5,.i s.1)]) (fun _=>[]) (fun s=>0<=s.1/\s.1<=aM V/\0<=s.2/\s.2<=L/\∀(i:Nat)(y:af),i<s.1.toNat->xs[i]? =some y->y.small) (fun s=>(aM V).toNat-s.1.toNat)
  (0,D) [] ⟨Int.le_refl 0,hs,by simp only;omega,by simp only;omega,fun i y hi=>by simp at hi⟩ (wk0 zr3) (fun s B ht hB=> ?_)
 obtain⟨z,M⟩:=s
 obtain⟨h0,h1,h2,h3,h4⟩:=ht
 simp only at h0 h1 h2 h3 h4
 cbv
 cases hc:g .q .lss z (g .ln V)
 ·rw [bg hg,bA hg,zqo]at hc
  cbv
  exact DC hF ⟨.inl h3,fun _=>⟨hk,qS hn (by omega) h4⟩⟩
 ·rw [bg hg,bA hg,zqp]at hc
  cbv
  obtain⟨x,hx⟩:=qc (xs:=xs) h0 (gg hn hc)
  have ho:=hf x (zqd hx)
  have hd:V[z.toNat]? =some x.ac:=by rw [hV];exact gU hx
  have cx:=vD x M ho h2 (by omega)
  obtain⟨Sm,hh⟩:∃Sm:Prop,Sm=x.small:=⟨_,rfl⟩
  rw [<-hh]at cx
  have hr:Sm->∀y,xs[z.toNat]? =some y->y.small:=fun h y hy=>by rw [hx]at hy;cases hy;rw [<-hh];exact h
  clear hh ho hx
  obtain⟨a0,a1,a2,hm,⟨he⟩⟩:=x
  replace hd:V[z.toNat]? =some (List.append [.J a0,.view (vw ah a1)] (List.append (lc (ak.c a2)) [.B hm,.view (vw aI.c he)])):=hd
  replace cx:cV _ _ [.agg (List.append [.J a0,.view (vw ah a1)] (List.append (lc (ak.c a2)) [.B hm,.view (vw aI.c he)])),ai M] (fun res ha=>∃R:Int,res= .i R/\ha=[]/\(R<=M\/R<0)/\(0<=R->Sm)):=cx
  obtain⟨hv,hj⟩:=nmE (vw ah a1)
  obtain⟨hp,hb⟩:=nmE (vw aI.c he)
  rw [<-hj,<-hb]at hd cx
  refine goX hg _ h0 hd rfl ?_
  cbv
  refine Dd hg cx rfl (fun R hR=> ?_)
  obtain⟨hR,hq⟩:=hR
  cbv
  cases e5:g .q .lss R 0
  case true=>
   cbv
   exact DC hF ⟨.inr (by decide),fun h=>absurd h (by decide)⟩
  rw [bg hg,zqo]at e5
  have pR:0<=R:=by omega
  cbv
  have h6:g .w .add .i64 z 1=z+1:=by rw [aJ hg,aq _ (by omega)]
  rw [h6]
  refine ib hB (z+1,R) [] (wk0 zr3) ⟨by simp only;omega,by simp only;omega,pR,by simp only;omega,fun i y hi hy=> ?_⟩ (by show(aM V).toNat-(z+1).toNat<(aM V).toNat-z.toNat;omega)
  by_cases hi2:i<z.toNat
  ·exact h4 i y hi2 hy
  ·have:i=z.toNat:=by simp only at hi;omega
   subst this
   exact hr (hq pR) y hy
theorem vx(x:iY)(hs:x.small):PC0 9 [.agg x.ac] (.t (.agg x.ac)):=by
 obtain⟨a0⟩:=x
 obtain⟨hh,hi,-⟩:=hs
 show PC0 _ [.agg [.view (vwA af.ac a0)]] (.t (.agg [.view (vwA af.ac a0)]))
 have c0:=tt a0 hh hi
 obtain⟨hb,ha⟩:=nmE (vwA af.ac a0)
 have he:hb.length=a0.length:=by rw [ha,bB]
 have hf:aB hb=true:=by rw [ha];exact ld af.plain _
 have hd:∀y∈hb,y.length=64:=by rw [ha];exact AA af.len
 have hc:∀y∈hb,y.all dat=true:=by rw [ha];exact oT af.dat
 rw [<-ha]at c0
 rw [<-ha]
 refine ae (aK Tryz.f9) ay Tryz.func9 fun g F hg hF=> ?_
 cbv
 repeat'(refine ad hg c0 ?_;cbv)
 exact uD [.agg [.view hb]] hF (.agg (by repeat'(first|exact .nil|refine .cons ?_ ?_|exact .imm _|exact .view _|exact bf (ab:=⟨_,_,hb⟩) rfl hd hc)) .nil) ⟨rfl,rfl⟩
theorem vG(x:iY)(hs:x.small):PC0 13 [.agg x.ac,.agg x.ac] (.t (abl true)):=by
 obtain⟨a0⟩:=x
 obtain⟨hh,hi,-⟩:=hs
 show PC0 _ [.agg [.view (vwA af.ac a0)],.agg [.view (vwA af.ac a0)]] (.t (abl true))
 have c0:=tF a0 hh hi
 obtain⟨hb,ha⟩:=nmE (vwA af.ac a0)
 have hc:hb.length=a0.length:=by rw [ha,bB]
 have hf:aB hb=true:=by rw [ha];exact ld af.plain _
 have he:∀y∈hb,y.length=64:=by rw [ha];exact AA af.len
 have hd:∀y∈hb,y.all dat=true:=by rw [ha];exact oT af.dat
 rw [<-ha]at c0
 rw [<-ha]
 refine ae (aK f13) ay func13 fun g F hg hF=> ?_
 cbv
 have q:∀a:Int,g .q .neq a a=false:=fun a=>by rw [bj hg];simp
 have qb:∀a:Bool,g .qb .neq a a=false:=fun a=>by rw [eY hg];simp
 repeat'(refine ad hg c0 ?_;cbv)
 exact bk hF rfl
theorem vB(x:iY)(L:Int)(hf:x.fit)(h0:0<=L)(h1:L<=1048576):cV prog 7 [.agg x.ac,ai L] fun res hb=>∃R:Int,res= .i R/\hb=[]/\(R<=L\/R<0)/\(0<=R->x.small):=by
 obtain⟨a0⟩:=x
 obtain⟨hl,hm,-⟩:=hf
 show cV _ _ [.agg [.view (vwA af.ac a0)],ai L] (fun res hb=>∃R:Int,res= .i R/\hb=[]/\(R<=L\/R<0)/\(0<=R->iY.small ⟨a0⟩))
 have c0:=fun(M:Int)(h0:0<=M)(h1:M<=1048576)=>tA a0 M hl hm h0 h1
 obtain⟨hc,ha⟩:=nmE (vwA af.ac a0)
 have hh:hc.length=a0.length:=by rw [ha,bB]
 have hk:aB hc=true:=by rw [ha];exact ld af.plain _
 have hj:∀y∈hc,y.length=64:=by rw [ha];exact AA af.len
 have hi:∀y∈hc,y.all dat=true:=by rw [ha];exact oT af.dat
 simp only [<-ha]at c0
 rw [<-ha]
 refine ae (aK Tryz.f7) ay Tryz.func7 fun g F hg hF=> ?_
 cbv
 refine Dd hg (c0 L h0 h1) rfl (fun R0 he=> ?_)
 obtain⟨he,hd⟩:=he
 cbv
 cases e0:g .q .lss R0 0
 case true=>
  cbv
  exact DC hF ⟨.inr (by decide),fun h=>absurd h (by decide)⟩
 rw [bg hg,zqo]at e0
 have p0:0<=R0:=by omega
 have r0:R0<=1048576:=by omega
 cbv
 exact DC hF ⟨.inl (by omega),fun _=>⟨(hd p0).1,(hd p0).2,trivial⟩⟩
def rng(n l m:Int):Bool:=decide (l<=n)&&decide (n<=m)
def vOk(v:dy):Bool:=if v.kind=0\/v.kind=3 then decide (v.n=0)else if v.kind=1 then rng v.n (-1048576) 1048576 else if v.kind=2 then rng v.n (-1000) 1000 else false
def zOk(v:dy):Bool:=vOk v&&decide (0<=v.n)
def Fm(s:bh):Bool:=vOk s.left&&(vOk s.top&&(vOk s.right&&(vOk s.bottom&&(vOk s.start&&vOk s.fin))))
def FQ(e:bV):Bool:=rng e.left 0 1048576&&(rng e.top 0 1048576&&(rng e.right 0 1048576&&rng e.bottom 0 1048576))
def stV(s:ak):List dy:=[s.basis,s.width,s.height,s.minWidth,s.minHeight,s.maxWidth,s.maxHeight]
def stN(s:ak):Bool:=rng s.dir 1 4&&(rng s.wrap 1 3&&(rng s.justify 1 6&&(rng s.items 1 5&&(rng s.self 0 5&&(rng s.content 1 6&&(rng s.order (-1000) 1000&&(rng s.grow 0 1000&&(rng s.shrink 0 1000&&(rng s.ratio 0 6400&&(rng s.rowGap 0 1048576&&rng s.colGap 0 1048576))))))))))
def BU(s:ak):Bool:=stN s&&((stV s).all zOk&&(Fm s.margin&&(Fm s.inset&&(FQ s.pad&&FQ s.border))))
theorem bi(n l m:Int):PC0 120 [ai n,ai l,ai m] (.t (abl (rng n l m))):=bI n l m
theorem bT(n l m:Int):PC0 148 [ai n,ai l,ai m] (.t (abl (rng n l m))):=de n l m
theorem gy(k n:Int):PC0 254 [.agg [.J k,.J n]] (.t (abl (vOk ⟨k,n⟩))):=by
 refine ae (aK f254) ay func254 fun g F hg hF=> ?_
 cbv
 repeat'(first|(refine bz hg (bi _ _ _) rfl (fun R0 ha=> ?_);cases R0<;>cbv)|(split<;>rename_i hh<;>(try rw [hh])<;>(try simp only [dD hg]at hh)<;>cbv))
 all_goals exact bk hF (by(try simp only [bm hg]);simp only [vOk];grind)
theorem gK(k n:Int):PC0 264 [.agg [.J k,.J n]] (.t (abl (vOk ⟨k,n⟩))):=by
 refine ae (aK f264) ay func264 fun g F hg hF=> ?_
 cbv
 repeat'(first|(refine bz hg (bT _ _ _) rfl (fun R0 ha=> ?_);cases R0<;>cbv)|(split<;>rename_i hh<;>(try rw [hh])<;>(try simp only [dD hg]at hh)<;>cbv))
 all_goals exact bk hF (by(try simp only [bm hg]);simp only [vOk];grind)
theorem mK(k n:Int):PC0 194 [.agg [.J k,.J n]] (.t (abl (zOk ⟨k,n⟩))):=by
 refine ae (aK f194) ay func194 fun g F hg hF=> ?_
 cbv
 repeat'(first|(refine bz hg (gy _ _) rfl (fun R0 ha=> ?_);cases R0<;>cbv)|(split<;>rename_i hh<;>(try rw [hh])<;>(try simp only [dD hg]at hh)<;>cbv))
 all_goals exact bk hF (by(try simp only [iU hg]);simp only [zOk];grind)
theorem vX(k n:Int):PC0 214 [.agg [.J k,.J n]] (.t (abl (zOk ⟨k,n⟩))):=by
 refine ae (aK f214) ay func214 fun g F hg hF=> ?_
 cbv
 repeat'(first|(refine bz hg (gK _ _) rfl (fun R0 ha=> ?_);cases R0<;>cbv)|(split<;>rename_i hh<;>(try rw [hh])<;>(try simp only [dD hg]at hh)<;>cbv))
 all_goals exact bk hF (by(try simp only [iU hg]);simp only [zOk];grind)
theorem gz(s:bh):PC0 195 [.agg (lc (bh.c s))] (.t (abl (Fm s))):=by
 obtain⟨⟨a0,a1⟩,⟨a2,a3⟩,⟨a4,a5⟩,⟨a6,a7⟩,⟨a8,a9⟩,⟨hb,hc⟩⟩:=s
 refine ae (aK f195) ay func195 fun g F hg hF=> ?_
 cbv
 repeat'(first|(refine bz hg (gy _ _) rfl (fun R0 ha=> ?_);cases R0<;>cbv)|(split<;>rename_i hh<;>(try rw [hh])<;>(try simp only [dD hg]at hh)<;>cbv))
 all_goals exact bk hF (by simp only [Fm];simp_all)
theorem gL(s:bh):PC0 215 [.agg (lc (bh.c s))] (.t (abl (Fm s))):=by
 obtain⟨⟨a0,a1⟩,⟨a2,a3⟩,⟨a4,a5⟩,⟨a6,a7⟩,⟨a8,a9⟩,⟨hb,hc⟩⟩:=s
 refine ae (aK f215) ay func215 fun g F hg hF=> ?_
 cbv
 repeat'(first|(refine bz hg (gK _ _) rfl (fun R0 ha=> ?_);cases R0<;>cbv)|(split<;>rename_i hh<;>(try rw [hh])<;>(try simp only [dD hg]at hh)<;>cbv))
 all_goals exact bk hF (by simp only [Fm];simp_all)
theorem gD(s:bV):PC0 196 [.agg (lc (bV.c s))] (.t (abl (FQ s))):=by
 obtain⟨a0,a1,a2,a3⟩:=s
 refine ae (aK f196) ay func196 fun g F hg hF=> ?_
 cbv
 repeat'(first|(refine bz hg (bi _ _ _) rfl (fun R0 ha=> ?_);cases R0<;>cbv)|(split<;>rename_i hh<;>(try rw [hh])<;>(try simp only [dD hg]at hh)<;>cbv))
 all_goals exact bk hF (by simp only [FQ];simp_all)
theorem gP(s:bV):PC0 216 [.agg (lc (bV.c s))] (.t (abl (FQ s))):=by
 obtain⟨a0,a1,a2,a3⟩:=s
 refine ae (aK f216) ay func216 fun g F hg hF=> ?_
 cbv
 repeat'(first|(refine bz hg (bT _ _ _) rfl (fun R0 ha=> ?_);cases R0<;>cbv)|(split<;>rename_i hh<;>(try rw [hh])<;>(try simp only [dD hg]at hh)<;>cbv))
 all_goals exact bk hF (by simp only [FQ];simp_all)
theorem sW(s:ak):PC0 119 [.agg (lc (ak.c s))] (.t (abl (BU s))):=by
 obtain⟨a0,a1,a2,a3,a4,a5,a6,a7,a8,a9,hK,⟨hL,hM⟩,⟨hN,hO⟩,⟨hP,hQ⟩,⟨hR,hS⟩,⟨hT,hU⟩,⟨hV,hW⟩,⟨hX,hY⟩,hZ,⟨⟨hb,hc⟩,⟨hd,he⟩,⟨hf,hi⟩,⟨hj,hk⟩,⟨hl,hm⟩,⟨hn,ho⟩⟩,⟨⟨hp,hq⟩,⟨hr,hs⟩,⟨ht,hu⟩,⟨hv,hw⟩,⟨hx,hy⟩,⟨hz,hA⟩⟩,⟨hB,hC,hD,hE⟩,⟨hG,hH,hI,hJ⟩,h0,h1⟩:=s
 refine ae (aK f119) ay func119 fun g F hg hF=> ?_
 cbv
 repeat'(first|(refine bz hg (bi _ _ _) rfl (fun R0 ha=> ?_);cases R0<;>cbv)|(refine bz hg (mK _ _) rfl (fun R0 ha=> ?_);cases R0<;>cbv)|(refine bz hg (gz (⟨⟨hb,hc⟩,⟨hd,he⟩,⟨hf,hi⟩,⟨hj,hk⟩,⟨hl,hm⟩,⟨hn,ho⟩⟩:bh)) rfl (fun R0 ha=> ?_);cases R0<;>cbv)|(refine bz hg (gz (⟨⟨hp,hq⟩,⟨hr,hs⟩,⟨ht,hu⟩,⟨hv,hw⟩,⟨hx,hy⟩,⟨hz,hA⟩⟩:bh)) rfl (fun R0 ha=> ?_);cases R0<;>cbv)|(refine bz hg (gD (⟨hB,hC,hD,hE⟩:bV)) rfl (fun R0 ha=> ?_);cases R0<;>cbv)|(refine bz hg (gD (⟨hG,hH,hI,hJ⟩:bV)) rfl (fun R0 ha=> ?_);cases R0<;>cbv)|(split<;>rename_i hh<;>(try rw [hh])<;>(try simp only [dD hg]at hh)<;>cbv))
 all_goals exact bk hF (by clear hF;simp only [BU,stN,stV,zqD,List.all_nil];simp_all)
theorem GN{a b z:Int}(h:a=b)(hz:z<a):z<b:=h▸hz
variable {xs:List dy}
theorem I3{z M:Int}(hM:M=(xs.length:Int))(hz:M<=z)(h:∀(i:Nat)(v:dy),i<z.toNat->xs[i]? =some v->zOk v=true):xs.all zOk=true:=by
 rw [zqf]
 exact qS hM hz h
theorem I4{i:Nat}{v:dy}(h:xs[i]? =some v)(hv:zOk v=false):xs.all zOk=false:=by
 rw [List.all_eq_false]
 exact⟨v,zqd h,by rw [hv];decide⟩
theorem tL(s:ak):PC0 147 [.agg (lc (ak.c s))] (.t (abl (BU s))):=by
 obtain⟨W,hW⟩:=nmE (stV s)
 have xg:(7:Int)=(W.length:Int):=by rw [hW];rfl
 obtain⟨V,hV⟩:=nmE (vw dy.c W)
 have kV:=kmV (k:=2) hV fun _=>rfl
 have pV:=pmV hV
 have xf:aM V=7:=by rw [aj,hV,av,<-xg]
 obtain⟨a0,a1,a2,a3,a4,a5,a6,a7,a8,a9,xb,⟨hS,hT⟩,⟨hU,hX⟩,⟨hY,hZ⟩,⟨h3,h4⟩,⟨h5,h6⟩,⟨h7,h8⟩,⟨h9,xa⟩,xc,⟨⟨hb,hd⟩,⟨he,hf⟩,⟨hh,hk⟩,⟨hl,hm⟩,⟨hn,ho⟩,⟨hp,hq⟩⟩,⟨⟨hr,ht⟩,⟨hu,hw⟩,⟨hy,hz⟩,⟨hA,hC⟩,⟨hD,hE⟩,⟨hG,hH⟩⟩,⟨hI,hJ,hK,hL⟩,⟨hM,hO,hP,hQ⟩,xd,xe⟩:=s
 have xj:V=[[.J hS,.J hT],[.J hU,.J hX],[.J hY,.J hZ],[.J h3,.J h4],[.J h5,.J h6],[.J h7,.J h8],[.J h9,.J xa]]:=by rw [hV,hW];rfl
 refine ae (aK f147) ay func147 fun g F hg hF=> ?_
 cbv
 repeat'(first|(refine bz hg (bT _ _ _) rfl (fun R0 ha=> ?_);cases R0<;>cbv))
 all_goals(try exact bk hF (by clear hF;simp only [BU,stN];simp_all))
 have hN:stN ⟨a0,a1,a2,a3,a4,a5,a6,a7,a8,a9,xb,⟨hS,hT⟩,⟨hU,hX⟩,⟨hY,hZ⟩,⟨h3,h4⟩,⟨h5,h6⟩,⟨h7,h8⟩,⟨h9,xa⟩,xc,⟨⟨hb,hd⟩,⟨he,hf⟩,⟨hh,hk⟩,⟨hl,hm⟩,⟨hn,ho⟩,⟨hp,hq⟩⟩,⟨⟨hr,ht⟩,⟨hu,hw⟩,⟨hy,hz⟩,⟨hA,hC⟩,⟨hD,hE⟩,⟨hG,hH⟩⟩,⟨hI,hJ,hK,hL⟩,⟨hM,hO,hP,hQ⟩,xd,xe⟩=true:=by clear hF;simp only [stN];simp_all
 have xh:BU ⟨a0,a1,a2,a3,a4,a5,a6,a7,a8,a9,xb,⟨hS,hT⟩,⟨hU,hX⟩,⟨hY,hZ⟩,⟨h3,h4⟩,⟨h5,h6⟩,⟨h7,h8⟩,⟨h9,xa⟩,xc,⟨⟨hb,hd⟩,⟨he,hf⟩,⟨hh,hk⟩,⟨hl,hm⟩,⟨hn,ho⟩,⟨hp,hq⟩⟩,⟨⟨hr,ht⟩,⟨hu,hw⟩,⟨hy,hz⟩,⟨hA,hC⟩,⟨hD,hE⟩,⟨hG,hH⟩⟩,⟨hI,hJ,hK,hL⟩,⟨hM,hO,hP,hQ⟩,xd,xe⟩=(W.all zOk&&(Fm ⟨⟨hb,hd⟩,⟨he,hf⟩,⟨hh,hk⟩,⟨hl,hm⟩,⟨hn,ho⟩,⟨hp,hq⟩⟩&&(Fm ⟨⟨hr,ht⟩,⟨hu,hw⟩,⟨hy,hz⟩,⟨hA,hC⟩,⟨hD,hE⟩,⟨hG,hH⟩⟩&&(FQ ⟨hI,hJ,hK,hL⟩&&FQ ⟨hM,hO,hP,hQ⟩)))):=by rw [BU,hN,hW];rfl
 rw [xh]at hF
 clear hN xh
 rw [<-xj]
 refine bO hg ay (by kernel_rfl) (fun z:Int=>[(1,.p 0),(87,.o 1),(88,.i (g .ln V)),(89,.i z)]) (fun _=>[.bx 64 60 (lc (ak.c ⟨a0,a1,a2,a3,a4,a5,a6,a7,a8,a9,xb,⟨hS,hT⟩,⟨hU,hX⟩,⟨hY,hZ⟩,⟨h3,h4⟩,⟨h5,h6⟩,⟨h7,h8⟩,⟨h9,xa⟩,xc,⟨⟨hb,hd⟩,⟨he,hf⟩,⟨hh,hk⟩,⟨hl,hm⟩,⟨hn,ho⟩,⟨hp,hq⟩⟩,⟨⟨hr,ht⟩,⟨hu,hw⟩,⟨hy,hz⟩,⟨hA,hC⟩,⟨hD,hE⟩,⟨hG,hH⟩⟩,⟨hI,hJ,hK,hL⟩,⟨hM,hO,hP,hQ⟩,xd,xe⟩)),.rw ⟨58,2,V⟩]) (fun z=>0<=z/\z<=7/\∀(i:Nat)(v:dy),i<z.toNat->W[i]? =some v->zOk v=true) (fun z=>(7:Int).toNat-z.toNat)
  0 [some 0,some 1] ⟨Int.le_refl 0,by omega,fun i v hi=>by simp at hi⟩ (wkS [0,1] (by decide) ⟨⟨_,rfl,rfl,rfl⟩,⟨_,rfl,rfl,pV⟩,trivial⟩ zr4) (fun z B hs hB=> ?_)
 obtain⟨h0,h1,h2⟩:=hs
 cbv
 cases hc:g .q .lss z (g .ln V)
 ·rw [bg hg,bA hg,xf,zqo]at hc
  have xk:=I3 xg (by omega) h2
  cbv
  repeat'(first|(refine bz hg (gL (⟨⟨hb,hd⟩,⟨he,hf⟩,⟨hh,hk⟩,⟨hl,hm⟩,⟨hn,ho⟩,⟨hp,hq⟩⟩:bh)) rfl (fun R0 ha=> ?_);cases R0<;>cbv)|(refine bz hg (gL (⟨⟨hr,ht⟩,⟨hu,hw⟩,⟨hy,hz⟩,⟨hA,hC⟩,⟨hD,hE⟩,⟨hG,hH⟩⟩:bh)) rfl (fun R0 ha=> ?_);cases R0<;>cbv)|(refine bz hg (gP (⟨hI,hJ,hK,hL⟩:bV)) rfl (fun R0 ha=> ?_);cases R0<;>cbv)|(refine bz hg (gP (⟨hM,hO,hP,hQ⟩:bV)) rfl (fun R0 ha=> ?_);cases R0<;>cbv))
  all_goals exact bk hF (by clear hF;simp_all)
 ·rw [bg hg,bA hg,xf,zqp]at hc
  cbv
  obtain⟨x,hx⟩:=qc (xs:=W) h0 (GN xg hc)
  have xi:V[z.toNat]? =some (lc (dy.c x)):=by rw [hV];exact ba hx
  obtain⟨j,hj⟩:=nmE z.toNat
  obtain⟨x0,x1⟩:=x
  refine JY hg h0 hj (rQ h0 (by rw [xf];exact hc) hj) ?_
  cbv
  rw [<-hj]at xi
  refine⟨_,xi,?_⟩
  cbv
  refine bz hg (vX x0 x1) rfl (fun R hR=> ?_)
  cases R
  ·cbv
   exact bk hF (by rw [I4 hx hR.symm];rfl)
  ·cbv
   have e1:g .w .add .i64 z 1=z+1:=by rw [aJ hg,aq _ (by omega)]
   rw [e1]
   refine ib hB (z+1) [some 0,some 1] (wkS [0,1] (by decide) ⟨⟨_,rfl,rfl,rfl⟩,⟨_,rfl,rfl,pV⟩,trivial⟩ zr4) ⟨by omega,by omega,fun i v hi hv=> ?_⟩ (by omega)
   by_cases hi2:i<z.toNat
   ·exact h2 i v hi2 hv
   ·rw [show i=z.toNat by omega,hx]at hv
    cases hv
    exact hR.symm
end Go.Proofs.YtkicjdeddpihaaaGreat
