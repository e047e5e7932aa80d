/- Valid values, sides, styles. -/
import Derived.Test.YtckchgoblpgpbaaGreatJ5au
set_option linter.unusedVariables false
set_option linter.unusedSimpArgs false
set_option maxHeartbeats 8000000
namespace Go.Proofs.YtckchgoblpgpbaaGreat
open Go.ChangeShapes Go.WideShapes Go.ChangeAt Go.RowKit Am Go.Proofs.Tryz
set_option maxRecDepth 100000
theorem rQ(x:kl)(hs:x.small):PC0 119 [.agg x.ac] (.t (.agg x.ac)):=by
 obtain⟨a0⟩:=x
 obtain⟨hh,-⟩:=hs
 show PC0 _ [.agg [.view (vw aO.c a0)]] (.t (.agg [.view (vw aO.c a0)]))
 have c0:=Fc (rR a0 hh)
 obtain⟨he,ha⟩:=nmE (vw aO.c a0)
 have hf:=lmV ha
 have hb:=imV ha
 have hd:=kmV (k:=3) ha fun _=>rfl
 have hc:=dmV ha
 rw [<-ha]at c0
 rw [<-ha]
 refine ae (aJ f119) ay func119 fun g F hg hF=> ?_
 cbv
 repeat'(refine bE hg c0 (bp rfl) hb ?_;cbv)
 exact s5 [.agg [.view he]] hF (.agg (by repeat'(first|exact .nil|refine .cons ?_ ?_|exact .imm _|exact .view _|exact aZ (ab:=⟨_,_,he⟩) rfl hd hc)) .nil) ⟨rfl,rfl⟩
theorem rX(x:kl)(hs:x.small):PC0 137 [.agg x.ac,.agg x.ac] (.t (abl true)):=by
 obtain⟨a0⟩:=x
 obtain⟨hf,-⟩:=hs
 show PC0 _ [.agg [.view (vw aO.c a0)],.agg [.view (vw aO.c a0)]] (.t (abl true))
 have c0:=rZ a0 a0 hf
 rw [zqu rfl]at c0
 obtain⟨hh,ha⟩:=nmE (vw aO.c a0)
 have hb:=lmV ha
 have hd:=imV ha
 have he:=kmV (k:=3) ha fun _=>rfl
 have hc:=dmV ha
 rw [<-ha]at c0
 rw [<-ha]
 refine ae (aJ f137) ay func137 fun g F hg hF=> ?_
 cbv
 have q:∀a:Int,g .q .neq a a=false:=fun a=>by rw [bn hg];simp
 have qb:∀a:Bool,g .qb .neq a a=false:=fun a=>by rw [fT hg];simp
 repeat'(refine ad hg c0 ?_;cbv)
 exact bk hF rfl
theorem rT(x:kl)(L:Int)(hf:x.fit)(h0:0<=L)(h1:L<=1048576):dc prog 102 [.agg x.ac,ai L] fun res hb=>∃R:Int,res= .i R/\hb=[]/\(R<=L\/R<0)/\(0<=R->x.small):=by
 obtain⟨a0⟩:=x
 obtain⟨hm,-⟩:=hf
 show dc _ _ [.agg [.view (vw aO.c a0)],ai L] (fun res hb=>∃R:Int,res= .i R/\hb=[]/\(R<=L\/R<0)/\(0<=R->kl.small ⟨a0⟩))
 have c0:=fun(M:Int)(h0:0<=M)(h1:M<=1048576)=>szZ (rU (vw aO.c a0) M (by rw [aq];exact hm) h0 h1)
 obtain⟨hd,ha⟩:=nmE (vw aO.c a0)
 have hc:=lmV ha
 have hk:=imV ha
 have hl:=kmV (k:=3) ha fun _=>rfl
 have hi:=dmV ha
 have hh:∀(M:Int),0<=M->M<=1048576->dc _ _ [.c (.view hd),ai M] (fun res hb=>∃R:Int,res= .i R/\hb=[]/\(R<=M\/R<0)/\(0<=R->((hd.length:Nat):Int)<=M)):=fun M h0 h1=>by have:=c0 M h0 h1;rw [<-ha]at this;exact this
 rw [<-ha]
 refine ae (aJ f102) ay func102 fun g F hg hF=> ?_
 cbv
 refine zl hg (hh L h0 h1) rfl (fun R0 he=> ?_)
 obtain⟨he,hj⟩:=he
 cbv
 cases e0:g .q .lss R0 0
 case true=>
  cbv
  exact BE hF ⟨.inr (by decide),fun h=>absurd h (by decide)⟩
 rw [bh hg,zqo]at e0
 have p0:0<=R0:=by omega
 have r0:R0<=1048576:=by omega
 cbv
 exact BE hF ⟨.inl (by omega),fun _=>⟨xI hc (hj p0) h1,trivial⟩⟩
theorem ug(x:af)(hs:x.small):PC0 80 [.agg x.ac] (.t (.agg x.ac)):=by
 obtain⟨a0,a1,a2,hi,⟨hc⟩⟩:=x
 obtain⟨hr,hn,-⟩:=hs
 show PC0 _ [.agg (List.append [.J a0,.view (vw ak a1)] (List.append (lc (aj.c a2)) [.B hi,.view (vw aO.c hc)]))] (.t (.agg (List.append [.J a0,.view (vw ak a1)] (List.append (lc (aj.c a2)) [.B hi,.view (vw aO.c hc)]))))
 have c1:=Fc (uh a1 hr)
 have hj:PC0 119 [.agg [.view (vw aO.c hc)]] (.t (.agg [.view (vw aO.c hc)])):=rQ ⟨hc⟩ ⟨hn,trivial⟩
 obtain⟨ho,hb⟩:=nmE (vw ak a1)
 have hp:=lmV hb
 have hf:=imV hb
 have hm:=kmV (k:=1) hb fun _=>rfl
 have hk:=dmV hb
 obtain⟨hd,ha⟩:=nmE (vw aO.c hc)
 have hl:=lmV ha
 have hq:=imV ha
 have hh:=kmV (k:=3) ha fun _=>rfl
 have he:=dmV ha
 rw [<-hb]at c1
 rw [<-ha]at hj
 rw [<-hb,<-ha]
 refine ae (aJ f80) ay func80 fun g F hg hF=> ?_
 cbv
 repeat'((first|refine bE hg c1 (bp rfl) hf ?_|refine fQ hg (mq (a2:aj)) rfl rfl ?_|refine ad hg hj ?_);cbv)
 exact s5 [.agg (List.append [.J a0,.view ho] (List.append (lc (aj.c a2)) [.B hi,.view hd]))] hF (.agg (by repeat'(first|exact .nil|refine .cons ?_ ?_|exact .imm _|exact .view _|exact aZ (ab:=⟨_,_,ho⟩) rfl hm hk|exact aZ (ab:=⟨_,_,hd⟩) rfl hh he)) .nil) ⟨rfl,rfl⟩
theorem uq(x:af)(hs:x.small):PC0 88 [.agg x.ac,.agg x.ac] (.t (abl true)):=by
 obtain⟨a0,a1,a2,hh,⟨hc⟩⟩:=x
 obtain⟨hq,hf,-⟩:=hs
 show PC0 _ [.agg (List.append [.J a0,.view (vw ak a1)] (List.append (lc (aj.c a2)) [.B hh,.view (vw aO.c hc)])),.agg (List.append [.J a0,.view (vw ak a1)] (List.append (lc (aj.c a2)) [.B hh,.view (vw aO.c hc)]))] (.t (abl true))
 have c1:=ur a1 a1 hq
 rw [zqu rfl]at c1
 have c2:PC0 136 [.agg (lc (aj.c a2)),.agg (lc (aj.c a2))] (.t (abl (decide ((a2:aj)=a2)))):=rY a2 a2
 rw [zqu rfl]at c2
 have hd:PC0 137 [.agg [.view (vw aO.c hc)],.agg [.view (vw aO.c hc)]] (.t (abl true)):=rX ⟨hc⟩ ⟨hf,trivial⟩
 obtain⟨hr,hb⟩:=nmE (vw ak a1)
 have hj:=lmV hb
 have ho:=imV hb
 have hp:=kmV (k:=1) hb fun _=>rfl
 have hn:=dmV hb
 obtain⟨hm,ha⟩:=nmE (vw aO.c hc)
 have he:=lmV ha
 have hk:=imV ha
 have hl:=kmV (k:=3) ha fun _=>rfl
 have hi:=dmV ha
 rw [<-hb]at c1
 rw [<-ha]at hd
 rw [<-hb,<-ha]
 refine ae (aJ f88) ay func88 fun g F hg hF=> ?_
 cbv
 have q:∀a:Int,g .q .neq a a=false:=fun a=>by rw [bn hg];simp
 have qb:∀a:Bool,g .qb .neq a a=false:=fun a=>by rw [fT hg];simp
 repeat'((first|rw [q]|rw [qb]|refine ad hg c1 ?_|refine ad hg c2 ?_|refine ad hg hd ?_);cbv)
 exact bk hF rfl
theorem uj(x:af)(L:Int)(hf:x.fit)(h0:0<=L)(h1:L<=1048576):dc prog 73 [.agg x.ac,ai L] fun res hb=>∃R:Int,res= .i R/\hb=[]/\(R<=L\/R<0)/\(0<=R->x.small):=by
 obtain⟨a0,a1,a2,hk,⟨hd⟩⟩:=x
 obtain⟨hy,hi,-⟩:=hf
 show dc _ _ [.agg (List.append [.J a0,.view (vw ak a1)] (List.append (lc (aj.c a2)) [.B hk,.view (vw aO.c hd)])),ai L] (fun res hb=>∃R:Int,res= .i R/\hb=[]/\(R<=L\/R<0)/\(0<=R->af.small ⟨a0,a1,a2,hk,⟨hd⟩⟩))
 have c1:=fun(M:Int)(h0:0<=M)(h1:M<=1048576)=>szZ (uk (vw ak a1) M (by rw [aq];exact hy) h0 h1)
 have hl:∀(M:Int)(h0:0<=M)(h1:M<=1048576),dc prog 102 [.agg [.view (vw aO.c hd)],ai M] (fun res hb=>∃R:Int,res= .i R/\hb=[]/\(R<=M\/R<0)/\(0<=R->kl.small ⟨hd⟩)):=fun M h0 h1=>rT ⟨hd⟩ M ⟨hi,trivial⟩ h0 h1
 obtain⟨hj,hc⟩:=nmE (vw ak a1)
 have he:=lmV hc
 have hw:=imV hc
 have hx:=kmV (k:=1) hc fun _=>rfl
 have ht:=dmV hc
 obtain⟨hr,ha⟩:=nmE (vw aO.c hd)
 have hh:=lmV ha
 have hp:=imV ha
 have hq:=kmV (k:=3) ha fun _=>rfl
 have hm:=dmV ha
 have hs:∀(M:Int),0<=M->M<=1048576->dc _ _ [.c (.view hj),ai M] (fun res hb=>∃R:Int,res= .i R/\hb=[]/\(R<=M\/R<0)/\(0<=R->((hj.length:Nat):Int)<=M)):=fun M h0 h1=>by have:=c1 M h0 h1;rw [<-hc]at this;exact this
 simp only [<-ha]at hl
 rw [<-hc,<-ha]
 refine ae (aJ f73) ay func73 fun g F hg hF=> ?_
 cbv
 refine zl hg (hs L h0 h1) rfl (fun R0 hn=> ?_)
 obtain⟨hn,hu⟩:=hn
 cbv
 cases e0:g .q .lss R0 0
 case true=>
  cbv
  exact BE hF ⟨.inr (by decide),fun h=>absurd h (by decide)⟩
 rw [bh hg,zqo]at e0
 have p0:0<=R0:=by omega
 have r0:R0<=1048576:=by omega
 cbv
 refine zl hg (hl R0 p0 r0) rfl (fun R1 ho=> ?_)
 obtain⟨ho,hv⟩:=ho
 cbv
 cases e1:g .q .lss R1 0
 case true=>
  cbv
  exact BE hF ⟨.inr (by decide),fun h=>absurd h (by decide)⟩
 rw [bh hg,zqo]at e1
 have p1:0<=R1:=by omega
 have r1:R1<=1048576:=by omega
 cbv
 exact BE hF ⟨.inl (by omega),fun _=>⟨xI he (hu p0) h1,(hv p1).1,trivial⟩⟩
theorem rS(xs:List af)(hl:xs.length<=1048576)(hs:∀y∈xs,y.small):PC0 51 [.c (.view (vwA af.ac xs))] (.t (.c (.view (vwA af.ac xs)))):=by
 obtain⟨V,hV⟩:=nmE (vwA af.ac xs)
 have ho:V.length=xs.length:=by rw [hV,bC]
 have kV:∀y∈V,y.length=64:=by rw [hV];exact yN af.len
 have dV:∀y∈V,y.all dat=true:=by rw [hV];exact nS af.dat
 have hp:aX V=(xs.length:Int):=by rw [az];omega
 have hu:aX V<=1048576:=by omega
 have ht:0<=aX V:=by omega
 rw [<-hV]
 refine ae (aJ f51) ay func51 fun g F hg hF=> ?_
 cbv
 refine Ep hg (by decide) (by rw [ho];exact hl) ?_
 cbv
 have hm:u9 64 V (List.replicate (g .ln V).toNat zE) 0:=u9.start (k:=64) (z:=zE) rfl rfl (bF hg V)
 refine bM hg ay (by kernel_rfl) (fun s:Int×LLA=>[(0,.v V),(3,.o 0),(4,.i s.1)]) (fun s=>[.rw ⟨69,64,s.2⟩]) (fun s=>u9 64 V s.2 s.1) (fun s=>(aX V).toNat-s.1.toNat)
  (0,g .rp (g .ln V) zE) [some 0] ?_ (wkS [0] (by decide) ⟨⟨_,rfl,rfl,?_⟩,trivial⟩ zr3) (fun s B ha hB=> ?_)
 ·simp only [zf hg];exact hm
 ·simp only [zf hg];exact hm.pl
 ·obtain⟨z,es⟩:=s
  simp only at ha
  have h0:=ha.z0
  have h1:=ha.z1
  have hd:=ha.len
  cbv
  cases hc:g .q .lss z (g .ln V)
  ·cbv
   rw [bh hg,bF hg,zqo]at hc
   obtain rfl:=ha.done hc
   exact s5 [.c (.view es)] hF (.c (aZ (ab:=⟨_,_,es⟩) rfl kV dV) .nil) ⟨rfl,rfl⟩
  ·cbv
   rw [bh hg,bF hg,zqp]at hc
   obtain⟨x,hx⟩:=oL (xs:=xs) h0 (fz hp hc)
   have hq:=hs x (zqd hx)
   have he:V[z.toNat]? =some x.ac:=by rw [hV];exact gR hx
   have cx:=ug x hq
   obtain⟨a0,a1,a2,hh,⟨hf⟩⟩:=x
   replace he:V[z.toNat]? =some (List.append [.J a0,.view (vw ak a1)] (List.append (lc (aj.c a2)) [.B hh,.view (vw aO.c hf)])):=he
   replace cx:PC0 _ [.agg (List.append [.J a0,.view (vw ak a1)] (List.append (lc (aj.c a2)) [.B hh,.view (vw aO.c hf)]))] (.t (.agg (List.append [.J a0,.view (vw ak a1)] (List.append (lc (aj.c a2)) [.B hh,.view (vw aO.c hf)])))):=cx
   obtain⟨hr,hi⟩:=nmE (vw ak a1)
   obtain⟨hn,hb⟩:=nmE (vw aO.c hf)
   rw [<-hi,<-hb]at he cx
   refine goX hg _ h0 he rfl ?_
   cbv
   refine ad hg cx ?_
   cbv
   obtain⟨j,hj⟩:=nmE z.toNat
   refine Hp hg h0 hj (wW h0 (Dg hd hc) hj) ?_
   cbv
   refine goN hg (ha.mem (wW h0 (Dg hd hc) hj)) ?_
   cbv
   have h2:g .w .add .i64 z 1=z+1:=by rw [aN hg,aw _ (by omega)]
   rw [h2,mP hg]
   have hk:=ha.step hc hj he rfl rfl
   exact gg hB (z+1,_) [some 0] (wkS [0] (by decide) ⟨⟨_,rfl,rfl,hk.pl⟩,trivial⟩ zr3) hk (by show(aX V).toNat-(z+1).toNat<(aX V).toNat-z.toNat;omega)
theorem r6(xs:List af)(hl:xs.length<=1048576)(hs:∀y∈xs,y.small):PC0 56 [.c (.view (vwA af.ac xs)),.c (.view (vwA af.ac xs))] (.t (abl true)):=by
 obtain⟨V,hV⟩:=nmE (vwA af.ac xs)
 have hp:V.length=xs.length:=by rw [hV,bC]
 have hj:aX V=(xs.length:Int):=by rw [az];omega
 have ho:aX V<=1048576:=by omega
 have hi:0<=aX V:=by omega
 rw [<-hV]
 refine ae (aJ f56) ay func56 fun g F hg hF=> ?_
 cbv
 have q:∀a:Int,g .q .neq a a=false:=fun a=>by rw [bn hg];simp
 rw [q]
 cbv
 refine bM hg ay (by kernel_rfl) (fun z:Int=>[(0,.v V),(1,.v V),(5,.i z)]) (fun _=>[]) (fun z=>0<=z/\z<=aX V) (fun z=>(aX V).toNat-z.toNat)
  0 [] ⟨Int.le_refl 0,hi⟩ (wk0 zr3) (fun z B hk hB=> ?_)
 obtain⟨h0,h1⟩:=hk
 cbv
 cases hc:g .q .lss z (g .ln V)
 ·cbv
  exact bk hF rfl
 ·rw [bh hg,bF hg,zqp]at hc
  cbv
  obtain⟨x,hx⟩:=oL (xs:=xs) h0 (fz hj hc)
  have hm:=hs x (zqd hx)
  have hb:V[z.toNat]? =some x.ac:=by rw [hV];exact gR hx
  have cx:=uq x hm
  obtain⟨a0,a1,a2,he,⟨hd⟩⟩:=x
  replace hb:V[z.toNat]? =some (List.append [.J a0,.view (vw ak a1)] (List.append (lc (aj.c a2)) [.B he,.view (vw aO.c hd)])):=hb
  replace cx:PC0 _ [.agg (List.append [.J a0,.view (vw ak a1)] (List.append (lc (aj.c a2)) [.B he,.view (vw aO.c hd)])),.agg (List.append [.J a0,.view (vw ak a1)] (List.append (lc (aj.c a2)) [.B he,.view (vw aO.c hd)]))] (.t (abl true)):=cx
  obtain⟨hn,hf⟩:=nmE (vw ak a1)
  obtain⟨hh,ha⟩:=nmE (vw aO.c hd)
  rw [<-hf,<-ha]at hb cx
  refine goX hg _ h0 hb rfl ?_
  cbv
  refine goX hg _ h0 hb rfl ?_
  cbv
  (first|refine ad hg cx ?_|refine aa hg cx ?_)
  cbv
  have h3:g .w .add .i64 z 1=z+1:=by rw [aN hg,aw _ (by omega)]
  rw [h3]
  exact gg hB (z+1) [] (wk0 zr3) ⟨by omega,by omega⟩ (by show(aX V).toNat-(z+1).toNat<(aX V).toNat-z.toNat;omega)
theorem rV(xs:List af)(L:Int)(hl:xs.length<=9223372036854775807)(hf:∀y∈xs,y.fit)(h0L:0<=L)(h1L:L<=1048576):dc prog 46 [.c (.view (vwA af.ac xs)),ai L] fun res ha=>∃R:Int,res= .i R/\ha=[]/\(R<=L\/R<0)/\(0<=R->xs.length<=1048576/\∀y∈xs,y.small):=by
 obtain⟨V,hV⟩:=nmE (vwA af.ac xs)
 have hz:V.length=xs.length:=by rw [hV,bC]
 have hn:aX V=(xs.length:Int):=by rw [az];omega
 have hw:aX V<=9223372036854775807:=by omega
 have hs:0<=aX V:=by omega
 have hu:aX V<=1048576->xs.length<=1048576:=by omega
 rw [<-hV]
 refine ae (aJ f46) ay func46 fun g F hg hF=> ?_
 cbv
 obtain⟨D,hD⟩:=nmE (L-aX V)
 have e1:g .w .sub .i64 L (g .ln V)=D:=by rw [bZ hg,bF hg,aw _ (by omega),hD]
 rw [e1]
 cases e:g .q .lss D 0
 case true=>
  cbv
  exact BE hF ⟨.inr (by decide),fun h=>absurd h (by decide)⟩
 rw [bh hg,zqo]at e
 have hk:=hu (by omega)
 cbv
 refine bM hg ay (by kernel_rfl) (fun s:Int×Int=>[(0,.v V),(1,.i s.2),(5,.i s.1)]) (fun _=>[]) (fun s=>0<=s.1/\s.1<=aX V/\0<=s.2/\s.2<=L/\∀(i:Nat)(y:af),i<s.1.toNat->xs[i]? =some y->y.small) (fun s=>(aX V).toNat-s.1.toNat)
  (0,D) [] ⟨Int.le_refl 0,hs,by simp only;omega,by simp only;omega,fun i y hi=>by simp at hi⟩ (wk0 zr3) (fun s B ht hB=> ?_)
 obtain⟨z,M⟩:=s
 obtain⟨h0,h1,h2,h3,h4⟩:=ht
 simp only at h0 h1 h2 h3 h4
 cbv
 cases hc:g .q .lss z (g .ln V)
 ·rw [bh hg,bF hg,zqo]at hc
  cbv
  exact BE hF ⟨.inl h3,fun _=>⟨hk,pB hn (by omega) h4⟩⟩
 ·rw [bh hg,bF hg,zqp]at hc
  cbv
  obtain⟨x,hx⟩:=oL (xs:=xs) h0 (fz hn hc)
  have ho:=hf x (zqd hx)
  have hd:V[z.toNat]? =some x.ac:=by rw [hV];exact gR hx
  have cx:=uj x M ho h2 (by omega)
  obtain⟨Sm,hh⟩:∃Sm:Prop,Sm=x.small:=⟨_,rfl⟩
  rw [<-hh]at cx
  have hr:Sm->∀y,xs[z.toNat]? =some y->y.small:=fun h y hy=>by rw [hx]at hy;cases hy;rw [<-hh];exact h
  clear hh ho hx
  obtain⟨a0,a1,a2,hm,⟨he⟩⟩:=x
  replace hd:V[z.toNat]? =some (List.append [.J a0,.view (vw ak a1)] (List.append (lc (aj.c a2)) [.B hm,.view (vw aO.c he)])):=hd
  replace cx:dc _ _ [.agg (List.append [.J a0,.view (vw ak a1)] (List.append (lc (aj.c a2)) [.B hm,.view (vw aO.c he)])),ai M] (fun res ha=>∃R:Int,res= .i R/\ha=[]/\(R<=M\/R<0)/\(0<=R->Sm)):=cx
  obtain⟨hv,hj⟩:=nmE (vw ak a1)
  obtain⟨hp,hb⟩:=nmE (vw aO.c he)
  rw [<-hj,<-hb]at hd cx
  refine goX hg _ h0 hd rfl ?_
  cbv
  refine zl hg cx rfl (fun R hR=> ?_)
  obtain⟨hR,hq⟩:=hR
  cbv
  cases e5:g .q .lss R 0
  case true=>
   cbv
   exact BE hF ⟨.inr (by decide),fun h=>absurd h (by decide)⟩
  rw [bh hg,zqo]at e5
  have pR:0<=R:=by omega
  cbv
  have h6:g .w .add .i64 z 1=z+1:=by rw [aN hg,aw _ (by omega)]
  rw [h6]
  refine gg hB (z+1,R) [] (wk0 zr3) ⟨by simp only;omega,by simp only;omega,pR,by simp only;omega,fun i y hi hy=> ?_⟩ (by show(aX V).toNat-(z+1).toNat<(aX V).toNat-z.toNat;omega)
  by_cases hi2:i<z.toNat
  ·exact h4 i y hi2 hy
  ·have:i=z.toNat:=by simp only at hi;omega
   subst this
   exact hr (hq pR) y hy
theorem ue(x:kr)(hs:x.small):PC0 17 [.agg x.ac] (.t (.agg x.ac)):=by
 obtain⟨a0⟩:=x
 obtain⟨hh,hi,-⟩:=hs
 show PC0 _ [.agg [.view (vwA af.ac a0)]] (.t (.agg [.view (vwA af.ac a0)]))
 have c0:=rS a0 hh hi
 obtain⟨hb,ha⟩:=nmE (vwA af.ac a0)
 have he:hb.length=a0.length:=by rw [ha,bC]
 have hf:aC hb=true:=by rw [ha];exact kx af.plain _
 have hd:∀y∈hb,y.length=64:=by rw [ha];exact yN af.len
 have hc:∀y∈hb,y.all dat=true:=by rw [ha];exact nS af.dat
 rw [<-ha]at c0
 rw [<-ha]
 refine ae (aJ f17) ay func17 fun g F hg hF=> ?_
 cbv
 repeat'(refine ad hg c0 ?_;cbv)
 exact s5 [.agg [.view hb]] hF (.agg (by repeat'(first|exact .nil|refine .cons ?_ ?_|exact .imm _|exact .view _|exact aZ (ab:=⟨_,_,hb⟩) rfl hd hc)) .nil) ⟨rfl,rfl⟩
theorem ul(x:kr)(hs:x.small):PC0 20 [.agg x.ac,.agg x.ac] (.t (abl true)):=by
 obtain⟨a0⟩:=x
 obtain⟨hh,hi,-⟩:=hs
 show PC0 _ [.agg [.view (vwA af.ac a0)],.agg [.view (vwA af.ac a0)]] (.t (abl true))
 have c0:=r6 a0 hh hi
 obtain⟨hb,ha⟩:=nmE (vwA af.ac a0)
 have hc:hb.length=a0.length:=by rw [ha,bC]
 have hf:aC hb=true:=by rw [ha];exact kx af.plain _
 have he:∀y∈hb,y.length=64:=by rw [ha];exact yN af.len
 have hd:∀y∈hb,y.all dat=true:=by rw [ha];exact nS af.dat
 rw [<-ha]at c0
 rw [<-ha]
 refine ae (aJ f20) ay func20 fun g F hg hF=> ?_
 cbv
 have q:∀a:Int,g .q .neq a a=false:=fun a=>by rw [bn hg];simp
 have qb:∀a:Bool,g .qb .neq a a=false:=fun a=>by rw [fT hg];simp
 repeat'(refine ad hg c0 ?_;cbv)
 exact bk hF rfl
theorem ui(x:kr)(L:Int)(hf:x.fit)(h0:0<=L)(h1:L<=1048576):dc prog 15 [.agg x.ac,ai L] fun res hb=>∃R:Int,res= .i R/\hb=[]/\(R<=L\/R<0)/\(0<=R->x.small):=by
 obtain⟨a0⟩:=x
 obtain⟨hl,hm,-⟩:=hf
 show dc _ _ [.agg [.view (vwA af.ac a0)],ai L] (fun res hb=>∃R:Int,res= .i R/\hb=[]/\(R<=L\/R<0)/\(0<=R->kr.small ⟨a0⟩))
 have c0:=fun(M:Int)(h0:0<=M)(h1:M<=1048576)=>rV a0 M hl hm h0 h1
 obtain⟨hc,ha⟩:=nmE (vwA af.ac a0)
 have hh:hc.length=a0.length:=by rw [ha,bC]
 have hk:aC hc=true:=by rw [ha];exact kx af.plain _
 have hj:∀y∈hc,y.length=64:=by rw [ha];exact yN af.len
 have hi:∀y∈hc,y.all dat=true:=by rw [ha];exact nS af.dat
 simp only [<-ha]at c0
 rw [<-ha]
 refine ae (aJ f15) ay func15 fun g F hg hF=> ?_
 cbv
 refine zl hg (c0 L h0 h1) rfl (fun R0 he=> ?_)
 obtain⟨he,hd⟩:=he
 cbv
 cases e0:g .q .lss R0 0
 case true=>
  cbv
  exact BE hF ⟨.inr (by decide),fun h=>absurd h (by decide)⟩
 rw [bh hg,zqo]at e0
 have p0:0<=R0:=by omega
 have r0:R0<=1048576:=by omega
 cbv
 exact BE hF ⟨.inl (by omega),fun _=>⟨(hd p0).1,(hd p0).2,trivial⟩⟩
def rng(n l m:Int):Bool:=decide (l<=n)&&decide (n<=m)
def vOk(v:dm):Bool:=if v.kind=0\/v.kind=3 then decide (v.n=0)else if v.kind=1 then rng v.n (-1048576) 1048576 else if v.kind=2 then rng v.n (-1000) 1000 else false
def zOk(v:dm):Bool:=vOk v&&decide (0<=v.n)
def C8(s:bg):Bool:=vOk s.left&&(vOk s.top&&(vOk s.right&&(vOk s.bottom&&(vOk s.start&&vOk s.fin))))
def Dx(e:bS):Bool:=rng e.left 0 1048576&&(rng e.top 0 1048576&&(rng e.right 0 1048576&&rng e.bottom 0 1048576))
def stV(s:aj):List dm:=[s.basis,s.width,s.height,s.minWidth,s.minHeight,s.maxWidth,s.maxHeight]
def stN(s:aj):Bool:=rng s.dir 1 4&&(rng s.wrap 1 3&&(rng s.justify 1 6&&(rng s.items 1 5&&(rng s.self 0 5&&(rng s.content 1 6&&(rng s.order (-1000) 1000&&(rng s.grow 0 1000&&(rng s.shrink 0 1000&&(rng s.ratio 0 6400&&(rng s.rowGap 0 1048576&&rng s.colGap 0 1048576))))))))))
def zP(s:aj):Bool:=stN s&&((stV s).all zOk&&(C8 s.margin&&(C8 s.inset&&(Dx s.pad&&Dx s.border))))
theorem bi(n l m:Int):PC0 39 [ai n,ai l,ai m] (.t (abl (rng n l m))):=bI n l m
theorem bQ(n l m:Int):PC0 68 [ai n,ai l,ai m] (.t (abl (rng n l m))):=db n l m
theorem gk(k n:Int):PC0 95 [.agg [.J k,.J n]] (.t (abl (vOk ⟨k,n⟩))):=by
 refine ae (aJ f95) ay func95 fun g F hg hF=> ?_
 cbv
 repeat'(first|(refine bz hg (bi _ _ _) rfl (fun R0 ha=> ?_);cases R0<;>cbv)|(split<;>rename_i hh<;>(try rw [hh])<;>(try simp only [da hg]at hh)<;>cbv))
 all_goals exact bk hF (by(try simp only [bj hg]);simp only [vOk];grind)
theorem gz(k n:Int):PC0 140 [.agg [.J k,.J n]] (.t (abl (vOk ⟨k,n⟩))):=by
 refine ae (aJ f140) ay func140 fun g F hg hF=> ?_
 cbv
 repeat'(first|(refine bz hg (bQ _ _ _) rfl (fun R0 ha=> ?_);cases R0<;>cbv)|(split<;>rename_i hh<;>(try rw [hh])<;>(try simp only [da hg]at hh)<;>cbv))
 all_goals exact bk hF (by(try simp only [bj hg]);simp only [vOk];grind)
theorem mj(k n:Int):PC0 64 [.agg [.J k,.J n]] (.t (abl (zOk ⟨k,n⟩))):=by
 refine ae (aJ f64) ay func64 fun g F hg hF=> ?_
 cbv
 repeat'(first|(refine bz hg (gk _ _) rfl (fun R0 ha=> ?_);cases R0<;>cbv)|(split<;>rename_i hh<;>(try rw [hh])<;>(try simp only [da hg]at hh)<;>cbv))
 all_goals exact bk hF (by(try simp only [iu hg]);simp only [zOk];grind)
theorem uw(k n:Int):PC0 96 [.agg [.J k,.J n]] (.t (abl (zOk ⟨k,n⟩))):=by
 refine ae (aJ f96) ay func96 fun g F hg hF=> ?_
 cbv
 repeat'(first|(refine bz hg (gz _ _) rfl (fun R0 ha=> ?_);cases R0<;>cbv)|(split<;>rename_i hh<;>(try rw [hh])<;>(try simp only [da hg]at hh)<;>cbv))
 all_goals exact bk hF (by(try simp only [iu hg]);simp only [zOk];grind)
theorem gl(s:bg):PC0 65 [.agg (lc (bg.c s))] (.t (abl (C8 s))):=by
 obtain⟨⟨a0,a1⟩,⟨a2,a3⟩,⟨a4,a5⟩,⟨a6,a7⟩,⟨a8,a9⟩,⟨hb,hc⟩⟩:=s
 refine ae (aJ f65) ay func65 fun g F hg hF=> ?_
 cbv
 repeat'(first|(refine bz hg (gk _ _) rfl (fun R0 ha=> ?_);cases R0<;>cbv)|(split<;>rename_i hh<;>(try rw [hh])<;>(try simp only [da hg]at hh)<;>cbv))
 all_goals exact bk hF (by simp only [C8];simp_all)
theorem gA(s:bg):PC0 97 [.agg (lc (bg.c s))] (.t (abl (C8 s))):=by
 obtain⟨⟨a0,a1⟩,⟨a2,a3⟩,⟨a4,a5⟩,⟨a6,a7⟩,⟨a8,a9⟩,⟨hb,hc⟩⟩:=s
 refine ae (aJ f97) ay func97 fun g F hg hF=> ?_
 cbv
 repeat'(first|(refine bz hg (gz _ _) rfl (fun R0 ha=> ?_);cases R0<;>cbv)|(split<;>rename_i hh<;>(try rw [hh])<;>(try simp only [da hg]at hh)<;>cbv))
 all_goals exact bk hF (by simp only [C8];simp_all)
theorem gu(s:bS):PC0 66 [.agg (lc (bS.c s))] (.t (abl (Dx s))):=by
 obtain⟨a0,a1,a2,a3⟩:=s
 refine ae (aJ f66) ay func66 fun g F hg hF=> ?_
 cbv
 repeat'(first|(refine bz hg (bi _ _ _) rfl (fun R0 ha=> ?_);cases R0<;>cbv)|(split<;>rename_i hh<;>(try rw [hh])<;>(try simp only [da hg]at hh)<;>cbv))
 all_goals exact bk hF (by simp only [Dx];simp_all)
theorem gB(s:bS):PC0 98 [.agg (lc (bS.c s))] (.t (abl (Dx s))):=by
 obtain⟨a0,a1,a2,a3⟩:=s
 refine ae (aJ f98) ay func98 fun g F hg hF=> ?_
 cbv
 repeat'(first|(refine bz hg (bQ _ _ _) rfl (fun R0 ha=> ?_);cases R0<;>cbv)|(split<;>rename_i hh<;>(try rw [hh])<;>(try simp only [da hg]at hh)<;>cbv))
 all_goals exact bk hF (by simp only [Dx];simp_all)
theorem rE(s:aj):PC0 35 [.agg (lc (aj.c s))] (.t (abl (zP s))):=by
 obtain⟨a0,a1,a2,a3,a4,a5,a6,a7,a8,a9,hK,⟨hL,hM⟩,⟨hN,hO⟩,⟨hP,hQ⟩,⟨hR,hS⟩,⟨hT,hU⟩,⟨hV,hW⟩,⟨hX,hY⟩,hZ,⟨⟨hb,hc⟩,⟨hd,he⟩,⟨hf,hi⟩,⟨hj,hk⟩,⟨hl,hm⟩,⟨hn,ho⟩⟩,⟨⟨hp,hq⟩,⟨hr,hs⟩,⟨ht,hu⟩,⟨hv,hw⟩,⟨hx,hy⟩,⟨hz,hA⟩⟩,⟨hB,hC,hD,hE⟩,⟨hG,hH,hI,hJ⟩,h0,h1⟩:=s
 refine ae (aJ f35) ay func35 fun g F hg hF=> ?_
 cbv
 repeat'(first|(refine bz hg (bi _ _ _) rfl (fun R0 ha=> ?_);cases R0<;>cbv)|(refine bz hg (mj _ _) rfl (fun R0 ha=> ?_);cases R0<;>cbv)|(refine bz hg (gl (⟨⟨hb,hc⟩,⟨hd,he⟩,⟨hf,hi⟩,⟨hj,hk⟩,⟨hl,hm⟩,⟨hn,ho⟩⟩:bg)) rfl (fun R0 ha=> ?_);cases R0<;>cbv)|(refine bz hg (gl (⟨⟨hp,hq⟩,⟨hr,hs⟩,⟨ht,hu⟩,⟨hv,hw⟩,⟨hx,hy⟩,⟨hz,hA⟩⟩:bg)) rfl (fun R0 ha=> ?_);cases R0<;>cbv)|(refine bz hg (gu (⟨hB,hC,hD,hE⟩:bS)) rfl (fun R0 ha=> ?_);cases R0<;>cbv)|(refine bz hg (gu (⟨hG,hH,hI,hJ⟩:bS)) rfl (fun R0 ha=> ?_);cases R0<;>cbv)|(split<;>rename_i hh<;>(try rw [hh])<;>(try simp only [da hg]at hh)<;>cbv))
 all_goals exact bk hF (by clear hF;simp only [zP,stN,stV,zqD,List.all_nil];simp_all)
theorem Ei{a b z:Int}(h:a=b)(hz:z<a):z<b:=h▸hz
variable {xs:List dm}
theorem Gm{z M:Int}(hM:M=(xs.length:Int))(hz:M<=z)(h:∀(i:Nat)(v:dm),i<z.toNat->xs[i]? =some v->zOk v=true):xs.all zOk=true:=by
 rw [zqf]
 exact pB hM hz h
theorem Gn{i:Nat}{v:dm}(h:xs[i]? =some v)(hv:zOk v=false):xs.all zOk=false:=by
 rw [List.all_eq_false]
 exact⟨v,zqd h,by rw [hv];decide⟩
theorem se(s:aj):PC0 67 [.agg (lc (aj.c s))] (.t (abl (zP s))):=by
 obtain⟨W,hW⟩:=nmE (stV s)
 have xg:(7:Int)=(W.length:Int):=by rw [hW];rfl
 obtain⟨V,hV⟩:=nmE (vw dm.c W)
 have kV:=kmV (k:=2) hV fun _=>rfl
 have pV:=pmV hV
 have xf:aX V=7:=by rw [az,hV,aq,<-xg]
 obtain⟨a0,a1,a2,a3,a4,a5,a6,a7,a8,a9,xb,⟨hS,hT⟩,⟨hU,hX⟩,⟨hY,hZ⟩,⟨h3,h4⟩,⟨h5,h6⟩,⟨h7,h8⟩,⟨h9,xa⟩,xc,⟨⟨hb,hd⟩,⟨he,hf⟩,⟨hh,hk⟩,⟨hl,hm⟩,⟨hn,ho⟩,⟨hp,hq⟩⟩,⟨⟨hr,ht⟩,⟨hu,hw⟩,⟨hy,hz⟩,⟨hA,hC⟩,⟨hD,hE⟩,⟨hG,hH⟩⟩,⟨hI,hJ,hK,hL⟩,⟨hM,hO,hP,hQ⟩,xd,xe⟩:=s
 have xj:V=[[.J hS,.J hT],[.J hU,.J hX],[.J hY,.J hZ],[.J h3,.J h4],[.J h5,.J h6],[.J h7,.J h8],[.J h9,.J xa]]:=by rw [hV,hW];rfl
 refine ae (aJ f67) ay func67 fun g F hg hF=> ?_
 cbv
 repeat'(first|(refine bz hg (bQ _ _ _) rfl (fun R0 ha=> ?_);cases R0<;>cbv))
 all_goals(try exact bk hF (by clear hF;simp only [zP,stN];simp_all))
 have hN:stN ⟨a0,a1,a2,a3,a4,a5,a6,a7,a8,a9,xb,⟨hS,hT⟩,⟨hU,hX⟩,⟨hY,hZ⟩,⟨h3,h4⟩,⟨h5,h6⟩,⟨h7,h8⟩,⟨h9,xa⟩,xc,⟨⟨hb,hd⟩,⟨he,hf⟩,⟨hh,hk⟩,⟨hl,hm⟩,⟨hn,ho⟩,⟨hp,hq⟩⟩,⟨⟨hr,ht⟩,⟨hu,hw⟩,⟨hy,hz⟩,⟨hA,hC⟩,⟨hD,hE⟩,⟨hG,hH⟩⟩,⟨hI,hJ,hK,hL⟩,⟨hM,hO,hP,hQ⟩,xd,xe⟩=true:=by clear hF;simp only [stN];simp_all
 have xh:zP ⟨a0,a1,a2,a3,a4,a5,a6,a7,a8,a9,xb,⟨hS,hT⟩,⟨hU,hX⟩,⟨hY,hZ⟩,⟨h3,h4⟩,⟨h5,h6⟩,⟨h7,h8⟩,⟨h9,xa⟩,xc,⟨⟨hb,hd⟩,⟨he,hf⟩,⟨hh,hk⟩,⟨hl,hm⟩,⟨hn,ho⟩,⟨hp,hq⟩⟩,⟨⟨hr,ht⟩,⟨hu,hw⟩,⟨hy,hz⟩,⟨hA,hC⟩,⟨hD,hE⟩,⟨hG,hH⟩⟩,⟨hI,hJ,hK,hL⟩,⟨hM,hO,hP,hQ⟩,xd,xe⟩=(W.all zOk&&(C8 ⟨⟨hb,hd⟩,⟨he,hf⟩,⟨hh,hk⟩,⟨hl,hm⟩,⟨hn,ho⟩,⟨hp,hq⟩⟩&&(C8 ⟨⟨hr,ht⟩,⟨hu,hw⟩,⟨hy,hz⟩,⟨hA,hC⟩,⟨hD,hE⟩,⟨hG,hH⟩⟩&&(Dx ⟨hI,hJ,hK,hL⟩&&Dx ⟨hM,hO,hP,hQ⟩)))):=by rw [zP,hN,hW];rfl
 rw [xh]at hF
 clear hN xh
 rw [<-xj]
 refine bM hg ay (by kernel_rfl) (fun z:Int=>[(1,.p 0),(87,.o 1),(88,.i (g .ln V)),(89,.i z)]) (fun _=>[.bx 36 60 (lc (aj.c ⟨a0,a1,a2,a3,a4,a5,a6,a7,a8,a9,xb,⟨hS,hT⟩,⟨hU,hX⟩,⟨hY,hZ⟩,⟨h3,h4⟩,⟨h5,h6⟩,⟨h7,h8⟩,⟨h9,xa⟩,xc,⟨⟨hb,hd⟩,⟨he,hf⟩,⟨hh,hk⟩,⟨hl,hm⟩,⟨hn,ho⟩,⟨hp,hq⟩⟩,⟨⟨hr,ht⟩,⟨hu,hw⟩,⟨hy,hz⟩,⟨hA,hC⟩,⟨hD,hE⟩,⟨hG,hH⟩⟩,⟨hI,hJ,hK,hL⟩,⟨hM,hO,hP,hQ⟩,xd,xe⟩)),.rw ⟨30,2,V⟩]) (fun z=>0<=z/\z<=7/\∀(i:Nat)(v:dm),i<z.toNat->W[i]? =some v->zOk v=true) (fun z=>(7:Int).toNat-z.toNat)
  0 [some 0,some 1] ⟨Int.le_refl 0,by omega,fun i v hi=>by simp at hi⟩ (wkS [0,1] (by decide) ⟨⟨_,rfl,rfl,rfl⟩,⟨_,rfl,rfl,pV⟩,trivial⟩ zr4) (fun z B hs hB=> ?_)
 obtain⟨h0,h1,h2⟩:=hs
 cbv
 cases hc:g .q .lss z (g .ln V)
 ·rw [bh hg,bF hg,xf,zqo]at hc
  have xk:=Gm xg (by omega) h2
  cbv
  repeat'(first|(refine bz hg (gA (⟨⟨hb,hd⟩,⟨he,hf⟩,⟨hh,hk⟩,⟨hl,hm⟩,⟨hn,ho⟩,⟨hp,hq⟩⟩:bg)) rfl (fun R0 ha=> ?_);cases R0<;>cbv)|(refine bz hg (gA (⟨⟨hr,ht⟩,⟨hu,hw⟩,⟨hy,hz⟩,⟨hA,hC⟩,⟨hD,hE⟩,⟨hG,hH⟩⟩:bg)) rfl (fun R0 ha=> ?_);cases R0<;>cbv)|(refine bz hg (gB (⟨hI,hJ,hK,hL⟩:bS)) rfl (fun R0 ha=> ?_);cases R0<;>cbv)|(refine bz hg (gB (⟨hM,hO,hP,hQ⟩:bS)) rfl (fun R0 ha=> ?_);cases R0<;>cbv))
  all_goals exact bk hF (by clear hF;simp_all)
 ·rw [bh hg,bF hg,xf,zqp]at hc
  cbv
  obtain⟨x,hx⟩:=oL (xs:=W) h0 (Ei xg hc)
  have xi:V[z.toNat]? =some (lc (dm.c x)):=by rw [hV];exact bf hx
  obtain⟨j,hj⟩:=nmE z.toNat
  obtain⟨x0,x1⟩:=x
  refine Hp hg h0 hj (wW h0 (by rw [xf];exact hc) hj) ?_
  cbv
  rw [<-hj]at xi
  refine⟨_,xi,?_⟩
  cbv
  refine bz hg (uw x0 x1) rfl (fun R hR=> ?_)
  cases R
  ·cbv
   exact bk hF (by rw [Gn hx hR.symm];rfl)
  ·cbv
   have e1:g .w .add .i64 z 1=z+1:=by rw [aN hg,aw _ (by omega)]
   rw [e1]
   refine gg hB (z+1) [some 0,some 1] (wkS [0,1] (by decide) ⟨⟨_,rfl,rfl,rfl⟩,⟨_,rfl,rfl,pV⟩,trivial⟩ zr4) ⟨by omega,by omega,fun i v hi hv=> ?_⟩ (by omega)
   by_cases hi2:i<z.toNat
   ·exact h2 i v hi2 hv
   ·rw [show i=z.toNat by omega,hx]at hv
    cases hv
    exact hR.symm
end Go.Proofs.YtckchgoblpgpbaaGreat
