/- Valid values, sides, styles. -/
import Derived.Test.YtkicjdeddpihaaaGreatS4aw
set_option linter.unusedVariables false
set_option linter.unusedSimpArgs false
set_option maxHeartbeats 8000000
namespace Go.Proofs.YtkicjdeddpihaaaGreat
open Go.ChangeShapes Go.WideShapes Go.ChangeAt Go.RowKit Am Go.Proofs.Tryz
set_option maxRecDepth 100000
theorem sU(x:jI)(hs:x.small):PC0 146 [.agg x.ac] (.t (.agg x.ac)):=by
 obtain⟨a0⟩:=x
 obtain⟨hh,-⟩:=hs
 show PC0 _ [.agg [.view (vw aK.c a0)]] (.t (.agg [.view (vw aK.c a0)]))
 have c0:=Dx (mD a0 hh)
 obtain⟨he,ha⟩:=nmE (vw aK.c a0)
 have hf:=lmV ha
 have hb:=imV ha
 have hd:=kmV (k:=3) ha fun _=>rfl
 have hc:=dmV ha
 rw [<-ha]at c0
 rw [<-ha]
 refine ad (aM f146) ay func146 fun g F hg hF=> ?_
 cbv
 repeat'(refine bK hg c0 (bA rfl) hb ?_;cbv)
 exact ul [.agg [.view he]] hF (.agg (by repeat'(first|exact .nil|refine .cons ?_ ?_|exact .imm _|exact .view _|exact bf (ab:=⟨_,_,he⟩) rfl hd hc)) .nil) ⟨rfl,rfl⟩
theorem s7(x:jI)(hs:x.small):PC0 172 [.agg x.ac,.agg x.ac] (.t (abl true)):=by
 obtain⟨a0⟩:=x
 obtain⟨hf,-⟩:=hs
 show PC0 _ [.agg [.view (vw aK.c a0)],.agg [.view (vw aK.c a0)]] (.t (abl true))
 have c0:=s9 a0 a0 hf
 rw [zqu rfl]at c0
 obtain⟨hh,ha⟩:=nmE (vw aK.c a0)
 have hb:=lmV ha
 have hd:=imV ha
 have he:=kmV (k:=3) ha fun _=>rfl
 have hc:=dmV ha
 rw [<-ha]at c0
 rw [<-ha]
 refine ad (aM f172) ay func172 fun g F hg hF=> ?_
 cbv
 have q:∀a:Int,g .q .neq a a=false:=fun a=>by rw [bj hg];simp
 have qb:∀a:Bool,g .qb .neq a a=false:=fun a=>by rw [fS hg];simp
 repeat'(refine ae hg c0 ?_;cbv)
 exact bk hF rfl
theorem sX(x:jI)(L:Int)(hf:x.fit)(h0:0<=L)(h1:L<=1048576):da prog 118 [.agg x.ac,ai L] fun res hb=>∃R:Int,res= .i R/\hb=[]/\(R<=L\/R<0)/\(0<=R->x.small):=by
 obtain⟨a0⟩:=x
 obtain⟨hm,-⟩:=hf
 show da _ _ [.agg [.view (vw aK.c a0)],ai L] (fun res hb=>∃R:Int,res= .i R/\hb=[]/\(R<=L\/R<0)/\(0<=R->jI.small ⟨a0⟩))
 have c0:=fun(M:Int)(h0:0<=M)(h1:M<=1048576)=>szZ (sY (vw aK.c a0) M (by rw [ar];exact hm) h0 h1)
 obtain⟨hd,ha⟩:=nmE (vw aK.c a0)
 have hc:=lmV ha
 have hk:=imV ha
 have hl:=kmV (k:=3) ha fun _=>rfl
 have hi:=dmV ha
 have hh:∀(M:Int),0<=M->M<=1048576->da _ _ [.c (.view hd),ai M] (fun res hb=>∃R:Int,res= .i R/\hb=[]/\(R<=M\/R<0)/\(0<=R->((hd.length:Nat):Int)<=M)):=fun M h0 h1=>by have:=c0 M h0 h1;rw [<-ha]at this;exact this
 rw [<-ha]
 refine ad (aM f118) ay func118 fun g F hg hF=> ?_
 cbv
 refine CZ hg (hh L h0 h1) rfl (fun R0 he=> ?_)
 obtain⟨he,hj⟩:=he
 cbv
 cases e0:g .q .lss R0 0
 case true=>
  cbv
  exact Dn hF ⟨.inr (by decide),fun h=>absurd h (by decide)⟩
 rw [bg hg,zqo]at e0
 have p0:0<=R0:=by omega
 have r0:R0<=1048576:=by omega
 cbv
 exact Dn hF ⟨.inl (by omega),fun _=>⟨yT hc (hj p0) h1,trivial⟩⟩
theorem vl(x:ag)(hs:x.small):PC0 71 [.agg x.ac] (.t (.agg x.ac)):=by
 obtain⟨a0,a1,a2,hi,⟨hc⟩⟩:=x
 obtain⟨hr,hn,-⟩:=hs
 show PC0 _ [.agg (List.append [.J a0,.view (vw aj a1)] (List.append (lc (ao.c a2)) [.B hi,.view (vw aK.c hc)]))] (.t (.agg (List.append [.J a0,.view (vw aj a1)] (List.append (lc (ao.c a2)) [.B hi,.view (vw aK.c hc)]))))
 have c1:=Dx (nP a1 hr)
 have hj:PC0 146 [.agg [.view (vw aK.c hc)]] (.t (.agg [.view (vw aK.c hc)])):=sU ⟨hc⟩ ⟨hn,trivial⟩
 obtain⟨ho,hb⟩:=nmE (vw aj a1)
 have hp:=lmV hb
 have hf:=imV hb
 have hm:=kmV (k:=1) hb fun _=>rfl
 have hk:=dmV hb
 obtain⟨hd,ha⟩:=nmE (vw aK.c hc)
 have hl:=lmV ha
 have hq:=imV ha
 have hh:=kmV (k:=3) ha fun _=>rfl
 have he:=dmV ha
 rw [<-hb]at c1
 rw [<-ha]at hj
 rw [<-hb,<-ha]
 refine ad (aM f71) ay func71 fun g F hg hF=> ?_
 cbv
 repeat'((first|refine bK hg c1 (bA rfl) hf ?_|refine fU hg (jl (a2:ao)) rfl rfl ?_|refine ae hg hj ?_);cbv)
 exact ul [.agg (List.append [.J a0,.view ho] (List.append (lc (ao.c a2)) [.B hi,.view hd]))] hF (.agg (by repeat'(first|exact .nil|refine .cons ?_ ?_|exact .imm _|exact .view _|exact bf (ab:=⟨_,_,ho⟩) rfl hm hk|exact bf (ab:=⟨_,_,hd⟩) rfl hh he)) .nil) ⟨rfl,rfl⟩
theorem vr(x:ag)(hs:x.small):PC0 95 [.agg x.ac,.agg x.ac] (.t (abl true)):=by
 obtain⟨a0,a1,a2,hh,⟨hc⟩⟩:=x
 obtain⟨hq,hf,-⟩:=hs
 show PC0 _ [.agg (List.append [.J a0,.view (vw aj a1)] (List.append (lc (ao.c a2)) [.B hh,.view (vw aK.c hc)])),.agg (List.append [.J a0,.view (vw aj a1)] (List.append (lc (ao.c a2)) [.B hh,.view (vw aK.c hc)]))] (.t (abl true))
 have c1:=vt a1 a1 hq
 rw [zqu rfl]at c1
 have c2:PC0 171 [.agg (lc (ao.c a2)),.agg (lc (ao.c a2))] (.t (abl (decide ((a2:ao)=a2)))):=s8 a2 a2
 rw [zqu rfl]at c2
 have hd:PC0 172 [.agg [.view (vw aK.c hc)],.agg [.view (vw aK.c hc)]] (.t (abl true)):=s7 ⟨hc⟩ ⟨hf,trivial⟩
 obtain⟨hr,hb⟩:=nmE (vw aj a1)
 have hj:=lmV hb
 have ho:=imV hb
 have hp:=kmV (k:=1) hb fun _=>rfl
 have hn:=dmV hb
 obtain⟨hm,ha⟩:=nmE (vw aK.c hc)
 have he:=lmV ha
 have hk:=imV ha
 have hl:=kmV (k:=3) ha fun _=>rfl
 have hi:=dmV ha
 rw [<-hb]at c1
 rw [<-ha]at hd
 rw [<-hb,<-ha]
 refine ad (aM f95) ay func95 fun g F hg hF=> ?_
 cbv
 have q:∀a:Int,g .q .neq a a=false:=fun a=>by rw [bj hg];simp
 have qb:∀a:Bool,g .qb .neq a a=false:=fun a=>by rw [fS hg];simp
 repeat'((first|rw [q]|rw [qb]|refine ae hg c1 ?_|refine ae hg c2 ?_|refine ae hg hd ?_);cbv)
 exact bk hF rfl
theorem vn(x:ag)(L:Int)(hf:x.fit)(h0:0<=L)(h1:L<=1048576):da prog 53 [.agg x.ac,ai L] fun res hb=>∃R:Int,res= .i R/\hb=[]/\(R<=L\/R<0)/\(0<=R->x.small):=by
 obtain⟨a0,a1,a2,hk,⟨hd⟩⟩:=x
 obtain⟨hy,hi,-⟩:=hf
 show da _ _ [.agg (List.append [.J a0,.view (vw aj a1)] (List.append (lc (ao.c a2)) [.B hk,.view (vw aK.c hd)])),ai L] (fun res hb=>∃R:Int,res= .i R/\hb=[]/\(R<=L\/R<0)/\(0<=R->ag.small ⟨a0,a1,a2,hk,⟨hd⟩⟩))
 have c1:=fun(M:Int)(h0:0<=M)(h1:M<=1048576)=>szZ (vo (vw aj a1) M (by rw [ar];exact hy) h0 h1)
 have hl:∀(M:Int)(h0:0<=M)(h1:M<=1048576),da prog 118 [.agg [.view (vw aK.c hd)],ai M] (fun res hb=>∃R:Int,res= .i R/\hb=[]/\(R<=M\/R<0)/\(0<=R->jI.small ⟨hd⟩)):=fun M h0 h1=>sX ⟨hd⟩ M ⟨hi,trivial⟩ h0 h1
 obtain⟨hj,hc⟩:=nmE (vw aj a1)
 have he:=lmV hc
 have hw:=imV hc
 have hx:=kmV (k:=1) hc fun _=>rfl
 have ht:=dmV hc
 obtain⟨hr,ha⟩:=nmE (vw aK.c hd)
 have hh:=lmV ha
 have hp:=imV ha
 have hq:=kmV (k:=3) ha fun _=>rfl
 have hm:=dmV ha
 have hs:∀(M:Int),0<=M->M<=1048576->da _ _ [.c (.view hj),ai M] (fun res hb=>∃R:Int,res= .i R/\hb=[]/\(R<=M\/R<0)/\(0<=R->((hj.length:Nat):Int)<=M)):=fun M h0 h1=>by have:=c1 M h0 h1;rw [<-hc]at this;exact this
 simp only [<-ha]at hl
 rw [<-hc,<-ha]
 refine ad (aM f53) ay func53 fun g F hg hF=> ?_
 cbv
 refine CZ hg (hs L h0 h1) rfl (fun R0 hn=> ?_)
 obtain⟨hn,hu⟩:=hn
 cbv
 cases e0:g .q .lss R0 0
 case true=>
  cbv
  exact Dn hF ⟨.inr (by decide),fun h=>absurd h (by decide)⟩
 rw [bg hg,zqo]at e0
 have p0:0<=R0:=by omega
 have r0:R0<=1048576:=by omega
 cbv
 refine CZ hg (hl R0 p0 r0) rfl (fun R1 ho=> ?_)
 obtain⟨ho,hv⟩:=ho
 cbv
 cases e1:g .q .lss R1 0
 case true=>
  cbv
  exact Dn hF ⟨.inr (by decide),fun h=>absurd h (by decide)⟩
 rw [bg hg,zqo]at e1
 have p1:0<=R1:=by omega
 have r1:R1<=1048576:=by omega
 cbv
 exact Dn hF ⟨.inl (by omega),fun _=>⟨yT he (hu p0) h1,(hv p1).1,trivial⟩⟩
theorem sW(xs:List ag)(hl:xs.length<=1048576)(hs:∀y∈xs,y.small):PC0 37 [.c (.view (vwA ag.ac xs))] (.t (.c (.view (vwA ag.ac xs)))):=by
 obtain⟨V,hV⟩:=nmE (vwA ag.ac xs)
 have ho:V.length=xs.length:=by rw [hV,bB]
 have kV:∀y∈V,y.length=64:=by rw [hV];exact Ak ag.len
 have dV:∀y∈V,y.all dat=true:=by rw [hV];exact ow ag.dat
 have hp:aN V=(xs.length:Int):=by rw [ah];omega
 have hu:aN V<=1048576:=by omega
 have ht:0<=aN V:=by omega
 rw [<-hV]
 refine ad (aM f37) ay func37 fun g F hg hF=> ?_
 cbv
 refine Fz hg (by decide) (by rw [ho];exact hl) ?_
 cbv
 have hm:qC 64 V (List.replicate (g .ln V).toNat wm) 0:=qC.start (k:=64) (z:=wm) rfl rfl (bz hg V)
 refine bO hg ay (by kernel_rfl) (fun s:Int×LLA=>[(0,.v V),(3,.o 0),(4,.i s.1)]) (fun s=>[.rw ⟨119,64,s.2⟩]) (fun s=>qC 64 V s.2 s.1) (fun s=>(aN V).toNat-s.1.toNat)
  (0,g .rp (g .ln V) wm) [some 0] ?_ (wkS [0] (by decide) ⟨⟨_,rfl,rfl,?_⟩,trivial⟩ zr3) (fun s B ha hB=> ?_)
 ·simp only [yo hg];exact hm
 ·simp only [yo hg];exact hm.pl
 ·obtain⟨z,es⟩:=s
  simp only at ha
  have h0:=ha.z0
  have h1:=ha.z1
  have hd:=ha.len
  cbv
  cases hc:g .q .lss z (g .ln V)
  ·cbv
   rw [bg hg,bz hg,zqo]at hc
   obtain rfl:=ha.done hc
   exact ul [.c (.view es)] hF (.c (bf (ab:=⟨_,_,es⟩) rfl kV dV) .nil) ⟨rfl,rfl⟩
  ·cbv
   rw [bg hg,bz hg,zqp]at hc
   obtain⟨x,hx⟩:=pk (xs:=xs) h0 (gc hp hc)
   have hq:=hs x (zqd hx)
   have he:V[z.toNat]? =some x.ac:=by rw [hV];exact gO hx
   have cx:=vl x hq
   obtain⟨a0,a1,a2,hh,⟨hf⟩⟩:=x
   replace he:V[z.toNat]? =some (List.append [.J a0,.view (vw aj a1)] (List.append (lc (ao.c a2)) [.B hh,.view (vw aK.c hf)])):=he
   replace cx:PC0 _ [.agg (List.append [.J a0,.view (vw aj a1)] (List.append (lc (ao.c a2)) [.B hh,.view (vw aK.c hf)]))] (.t (.agg (List.append [.J a0,.view (vw aj a1)] (List.append (lc (ao.c a2)) [.B hh,.view (vw aK.c hf)])))):=cx
   obtain⟨hr,hi⟩:=nmE (vw aj a1)
   obtain⟨hn,hb⟩:=nmE (vw aK.c hf)
   rw [<-hi,<-hb]at he cx
   refine goX hg _ h0 he rfl ?_
   cbv
   refine ae hg cx ?_
   cbv
   obtain⟨j,hj⟩:=nmE z.toNat
   refine JK hg h0 hj (rA h0 (zA hd hc) hj) ?_
   cbv
   refine goN hg (ha.mem (rA h0 (zA hd hc) hj)) ?_
   cbv
   have h2:g .w .add .i64 z 1=z+1:=by rw [aJ hg,ak _ (by omega)]
   rw [h2,jr hg]
   have hk:=ha.step hc hj he rfl rfl
   exact gX hB (z+1,_) [some 0] (wkS [0] (by decide) ⟨⟨_,rfl,rfl,hk.pl⟩,trivial⟩ zr3) hk (by show(aN V).toNat-(z+1).toNat<(aN V).toNat-z.toNat;omega)
theorem ta(xs:List ag)(hl:xs.length<=1048576)(hs:∀y∈xs,y.small):PC0 42 [.c (.view (vwA ag.ac xs)),.c (.view (vwA ag.ac xs))] (.t (abl true)):=by
 obtain⟨V,hV⟩:=nmE (vwA ag.ac xs)
 have hp:V.length=xs.length:=by rw [hV,bB]
 have hj:aN V=(xs.length:Int):=by rw [ah];omega
 have ho:aN V<=1048576:=by omega
 have hi:0<=aN V:=by omega
 rw [<-hV]
 refine ad (aM f42) ay func42 fun g F hg hF=> ?_
 cbv
 have q:∀a:Int,g .q .neq a a=false:=fun a=>by rw [bj hg];simp
 rw [q]
 cbv
 refine bO hg ay (by kernel_rfl) (fun z:Int=>[(0,.v V),(1,.v V),(5,.i z)]) (fun _=>[]) (fun z=>0<=z/\z<=aN V) (fun z=>(aN V).toNat-z.toNat)
  0 [] ⟨Int.le_refl 0,hi⟩ (wk0 zr3) (fun z B hk hB=> ?_)
 obtain⟨h0,h1⟩:=hk
 cbv
 cases hc:g .q .lss z (g .ln V)
 ·cbv
  exact bk hF rfl
 ·rw [bg hg,bz hg,zqp]at hc
  cbv
  obtain⟨x,hx⟩:=pk (xs:=xs) h0 (gc hj hc)
  have hm:=hs x (zqd hx)
  have hb:V[z.toNat]? =some x.ac:=by rw [hV];exact gO hx
  have cx:=vr x hm
  obtain⟨a0,a1,a2,he,⟨hd⟩⟩:=x
  replace hb:V[z.toNat]? =some (List.append [.J a0,.view (vw aj a1)] (List.append (lc (ao.c a2)) [.B he,.view (vw aK.c hd)])):=hb
  replace cx:PC0 _ [.agg (List.append [.J a0,.view (vw aj a1)] (List.append (lc (ao.c a2)) [.B he,.view (vw aK.c hd)])),.agg (List.append [.J a0,.view (vw aj a1)] (List.append (lc (ao.c a2)) [.B he,.view (vw aK.c hd)]))] (.t (abl true)):=cx
  obtain⟨hn,hf⟩:=nmE (vw aj a1)
  obtain⟨hh,ha⟩:=nmE (vw aK.c hd)
  rw [<-hf,<-ha]at hb cx
  refine goX hg _ h0 hb rfl ?_
  cbv
  refine goX hg _ h0 hb rfl ?_
  cbv
  (first|refine ae hg cx ?_|refine aa hg cx ?_)
  cbv
  have h3:g .w .add .i64 z 1=z+1:=by rw [aJ hg,ak _ (by omega)]
  rw [h3]
  exact gX hB (z+1) [] (wk0 zr3) ⟨by omega,by omega⟩ (by show(aN V).toNat-(z+1).toNat<(aN V).toNat-z.toNat;omega)
theorem s4(xs:List ag)(L:Int)(hl:xs.length<=9223372036854775807)(hf:∀y∈xs,y.fit)(h0L:0<=L)(h1L:L<=1048576):da prog 32 [.c (.view (vwA ag.ac xs)),ai L] fun res ha=>∃R:Int,res= .i R/\ha=[]/\(R<=L\/R<0)/\(0<=R->xs.length<=1048576/\∀y∈xs,y.small):=by
 obtain⟨V,hV⟩:=nmE (vwA ag.ac xs)
 have hz:V.length=xs.length:=by rw [hV,bB]
 have hn:aN V=(xs.length:Int):=by rw [ah];omega
 have hw:aN V<=9223372036854775807:=by omega
 have hs:0<=aN V:=by omega
 have hu:aN V<=1048576->xs.length<=1048576:=by omega
 rw [<-hV]
 refine ad (aM f32) ay func32 fun g F hg hF=> ?_
 cbv
 obtain⟨D,hD⟩:=nmE (L-aN V)
 have e1:g .w .sub .i64 L (g .ln V)=D:=by rw [dp hg,bz hg,ak _ (by omega),hD]
 rw [e1]
 cases e:g .q .lss D 0
 case true=>
  cbv
  exact Dn hF ⟨.inr (by decide),fun h=>absurd h (by decide)⟩
 rw [bg hg,zqo]at e
 have hk:=hu (by omega)
 cbv
 refine bO hg ay (by kernel_rfl) (fun s:Int×Int=>[(0,.v V),(1,.i s.2),(5,.i s.1)]) (fun _=>[]) (fun s=>0<=s.1/\s.1<=aN V/\0<=s.2/\s.2<=L/\∀(i:Nat)(y:ag),i<s.1.toNat->xs[i]? =some y->y.small) (fun s=>(aN V).toNat-s.1.toNat)
  (0,D) [] ⟨Int.le_refl 0,hs,by simp only;omega,by simp only;omega,fun i y hi=>by simp at hi⟩ (wk0 zr3) (fun s B ht hB=> ?_)
 obtain⟨z,M⟩:=s
 obtain⟨h0,h1,h2,h3,h4⟩:=ht
 simp only at h0 h1 h2 h3 h4
 cbv
 cases hc:g .q .lss z (g .ln V)
 ·rw [bg hg,bz hg,zqo]at hc
  cbv
  exact Dn hF ⟨.inl h3,fun _=>⟨hk,qB hn (by omega) h4⟩⟩
 ·rw [bg hg,bz hg,zqp]at hc
  cbv
  obtain⟨x,hx⟩:=pk (xs:=xs) h0 (gc hn hc)
  have ho:=hf x (zqd hx)
  have hd:V[z.toNat]? =some x.ac:=by rw [hV];exact gO hx
  have cx:=vn x M ho h2 (by omega)
  obtain⟨Sm,hh⟩:∃Sm:Prop,Sm=x.small:=⟨_,rfl⟩
  rw [<-hh]at cx
  have hr:Sm->∀y,xs[z.toNat]? =some y->y.small:=fun h y hy=>by rw [hx]at hy;cases hy;rw [<-hh];exact h
  clear hh ho hx
  obtain⟨a0,a1,a2,hm,⟨he⟩⟩:=x
  replace hd:V[z.toNat]? =some (List.append [.J a0,.view (vw aj a1)] (List.append (lc (ao.c a2)) [.B hm,.view (vw aK.c he)])):=hd
  replace cx:da _ _ [.agg (List.append [.J a0,.view (vw aj a1)] (List.append (lc (ao.c a2)) [.B hm,.view (vw aK.c he)])),ai M] (fun res ha=>∃R:Int,res= .i R/\ha=[]/\(R<=M\/R<0)/\(0<=R->Sm)):=cx
  obtain⟨hv,hj⟩:=nmE (vw aj a1)
  obtain⟨hp,hb⟩:=nmE (vw aK.c he)
  rw [<-hj,<-hb]at hd cx
  refine goX hg _ h0 hd rfl ?_
  cbv
  refine CZ hg cx rfl (fun R hR=> ?_)
  obtain⟨hR,hq⟩:=hR
  cbv
  cases e5:g .q .lss R 0
  case true=>
   cbv
   exact Dn hF ⟨.inr (by decide),fun h=>absurd h (by decide)⟩
  rw [bg hg,zqo]at e5
  have pR:0<=R:=by omega
  cbv
  have h6:g .w .add .i64 z 1=z+1:=by rw [aJ hg,ak _ (by omega)]
  rw [h6]
  refine gX hB (z+1,R) [] (wk0 zr3) ⟨by simp only;omega,by simp only;omega,pR,by simp only;omega,fun i y hi hy=> ?_⟩ (by show(aN V).toNat-(z+1).toNat<(aN V).toNat-z.toNat;omega)
  by_cases hi2:i<z.toNat
  ·exact h4 i y hi2 hy
  ·have:i=z.toNat:=by simp only at hi;omega
   subst this
   exact hr (hq pR) y hy
theorem vg(x:iP)(hs:x.small):PC0 9 [.agg x.ac] (.t (.agg x.ac)):=by
 obtain⟨a0⟩:=x
 obtain⟨hh,hi,-⟩:=hs
 show PC0 _ [.agg [.view (vwA ag.ac a0)]] (.t (.agg [.view (vwA ag.ac a0)]))
 have c0:=sW a0 hh hi
 obtain⟨hb,ha⟩:=nmE (vwA ag.ac a0)
 have he:hb.length=a0.length:=by rw [ha,bB]
 have hf:aB hb=true:=by rw [ha];exact kN ag.plain _
 have hd:∀y∈hb,y.length=64:=by rw [ha];exact Ak ag.len
 have hc:∀y∈hb,y.all dat=true:=by rw [ha];exact ow ag.dat
 rw [<-ha]at c0
 rw [<-ha]
 refine ad (aM Tryz.f9) ay Tryz.func9 fun g F hg hF=> ?_
 cbv
 repeat'(refine ae hg c0 ?_;cbv)
 exact ul [.agg [.view hb]] hF (.agg (by repeat'(first|exact .nil|refine .cons ?_ ?_|exact .imm _|exact .view _|exact bf (ab:=⟨_,_,hb⟩) rfl hd hc)) .nil) ⟨rfl,rfl⟩
theorem vp(x:iP)(hs:x.small):PC0 13 [.agg x.ac,.agg x.ac] (.t (abl true)):=by
 obtain⟨a0⟩:=x
 obtain⟨hh,hi,-⟩:=hs
 show PC0 _ [.agg [.view (vwA ag.ac a0)],.agg [.view (vwA ag.ac a0)]] (.t (abl true))
 have c0:=ta a0 hh hi
 obtain⟨hb,ha⟩:=nmE (vwA ag.ac a0)
 have hc:hb.length=a0.length:=by rw [ha,bB]
 have hf:aB hb=true:=by rw [ha];exact kN ag.plain _
 have he:∀y∈hb,y.length=64:=by rw [ha];exact Ak ag.len
 have hd:∀y∈hb,y.all dat=true:=by rw [ha];exact ow ag.dat
 rw [<-ha]at c0
 rw [<-ha]
 refine ad (aM f13) ay func13 fun g F hg hF=> ?_
 cbv
 have q:∀a:Int,g .q .neq a a=false:=fun a=>by rw [bj hg];simp
 have qb:∀a:Bool,g .qb .neq a a=false:=fun a=>by rw [fS hg];simp
 repeat'(refine ae hg c0 ?_;cbv)
 exact bk hF rfl
theorem vm(x:iP)(L:Int)(hf:x.fit)(h0:0<=L)(h1:L<=1048576):da prog 7 [.agg x.ac,ai L] fun res hb=>∃R:Int,res= .i R/\hb=[]/\(R<=L\/R<0)/\(0<=R->x.small):=by
 obtain⟨a0⟩:=x
 obtain⟨hl,hm,-⟩:=hf
 show da _ _ [.agg [.view (vwA ag.ac a0)],ai L] (fun res hb=>∃R:Int,res= .i R/\hb=[]/\(R<=L\/R<0)/\(0<=R->iP.small ⟨a0⟩))
 have c0:=fun(M:Int)(h0:0<=M)(h1:M<=1048576)=>s4 a0 M hl hm h0 h1
 obtain⟨hc,ha⟩:=nmE (vwA ag.ac a0)
 have hh:hc.length=a0.length:=by rw [ha,bB]
 have hk:aB hc=true:=by rw [ha];exact kN ag.plain _
 have hj:∀y∈hc,y.length=64:=by rw [ha];exact Ak ag.len
 have hi:∀y∈hc,y.all dat=true:=by rw [ha];exact ow ag.dat
 simp only [<-ha]at c0
 rw [<-ha]
 refine ad (aM Tryz.f7) ay Tryz.func7 fun g F hg hF=> ?_
 cbv
 refine CZ hg (c0 L h0 h1) rfl (fun R0 he=> ?_)
 obtain⟨he,hd⟩:=he
 cbv
 cases e0:g .q .lss R0 0
 case true=>
  cbv
  exact Dn hF ⟨.inr (by decide),fun h=>absurd h (by decide)⟩
 rw [bg hg,zqo]at e0
 have p0:0<=R0:=by omega
 have r0:R0<=1048576:=by omega
 cbv
 exact Dn hF ⟨.inl (by omega),fun _=>⟨(hd p0).1,(hd p0).2,trivial⟩⟩
theorem xc(x:jc)(hs:x.small):PC0 19 [.agg x.ac,.agg x.ac] (.t (abl true)):=by
 obtain⟨a0,a1,a2,a3⟩:=x
 obtain⟨hf,-⟩:=hs
 show PC0 _ [.agg [.J a0,.J a1,.J a2,.view (vw aD.c a3)],.agg [.J a0,.J a1,.J a2,.view (vw aD.c a3)]] (.t (abl true))
 have c3:=rL a3 a3 hf
 rw [zqu rfl]at c3
 obtain⟨hh,ha⟩:=nmE (vw aD.c a3)
 have hb:=lmV ha
 have hd:=imV ha
 have he:=kmV (k:=5) ha fun _=>rfl
 have hc:=dmV ha
 rw [<-ha]at c3
 rw [<-ha]
 refine ad (aM f19) ay func19 fun g F hg hF=> ?_
 cbv
 have q:∀a:Int,g .q .neq a a=false:=fun a=>by rw [bj hg];simp
 have qb:∀a:Bool,g .qb .neq a a=false:=fun a=>by rw [fS hg];simp
 repeat'((first|rw [q]|refine ae hg c3 ?_);cbv)
 exact bk hF rfl
def rng(n l m:Int):Bool:=decide (l<=n)&&decide (n<=m)
def vOk(v:dy):Bool:=if v.kind=0\/v.kind=3 then decide (v.n=0)else if v.kind=1 then rng v.n (-1048576) 1048576 else if v.kind=2 then rng v.n (-1000) 1000 else false
def zOk(v:dy):Bool:=vOk v&&decide (0<=v.n)
def Fa(s:bh):Bool:=vOk s.left&&(vOk s.top&&(vOk s.right&&(vOk s.bottom&&(vOk s.start&&vOk s.fin))))
def FE(e:bS):Bool:=rng e.left 0 1048576&&(rng e.top 0 1048576&&(rng e.right 0 1048576&&rng e.bottom 0 1048576))
def stV(s:ao):List dy:=[s.basis,s.width,s.height,s.minWidth,s.minHeight,s.maxWidth,s.maxHeight]
def stN(s:ao):Bool:=rng s.dir 1 4&&(rng s.wrap 1 3&&(rng s.justify 1 6&&(rng s.items 1 5&&(rng s.self 0 5&&(rng s.content 1 6&&(rng s.order (-1000) 1000&&(rng s.grow 0 1000&&(rng s.shrink 0 1000&&(rng s.ratio 0 6400&&(rng s.rowGap 0 1048576&&rng s.colGap 0 1048576))))))))))
def BC(s:ao):Bool:=stN s&&((stV s).all zOk&&(Fa s.margin&&(Fa s.inset&&(FE s.pad&&FE s.border))))
theorem bi(n l m:Int):PC0 120 [ai n,ai l,ai m] (.t (abl (rng n l m))):=bH n l m
theorem bR(n l m:Int):PC0 148 [ai n,ai l,ai m] (.t (abl (rng n l m))):=de n l m
theorem gq(k n:Int):PC0 254 [.agg [.J k,.J n]] (.t (abl (vOk ⟨k,n⟩))):=by
 refine ad (aM f254) ay func254 fun g F hg hF=> ?_
 cbv
 repeat'(first|(refine bv hg (bi _ _ _) rfl (fun R0 ha=> ?_);cases R0<;>cbv)|(split<;>rename_i hh<;>(try rw [hh])<;>(try simp only [dD hg]at hh)<;>cbv))
 all_goals exact bk hF (by(try simp only [bn hg]);simp only [vOk];grind)
theorem gG(k n:Int):PC0 264 [.agg [.J k,.J n]] (.t (abl (vOk ⟨k,n⟩))):=by
 refine ad (aM f264) ay func264 fun g F hg hF=> ?_
 cbv
 repeat'(first|(refine bv hg (bR _ _ _) rfl (fun R0 ha=> ?_);cases R0<;>cbv)|(split<;>rename_i hh<;>(try rw [hh])<;>(try simp only [dD hg]at hh)<;>cbv))
 all_goals exact bk hF (by(try simp only [bn hg]);simp only [vOk];grind)
theorem my(k n:Int):PC0 194 [.agg [.J k,.J n]] (.t (abl (zOk ⟨k,n⟩))):=by
 refine ad (aM f194) ay func194 fun g F hg hF=> ?_
 cbv
 repeat'(first|(refine bv hg (gq _ _) rfl (fun R0 ha=> ?_);cases R0<;>cbv)|(split<;>rename_i hh<;>(try rw [hh])<;>(try simp only [dD hg]at hh)<;>cbv))
 all_goals exact bk hF (by(try simp only [iO hg]);simp only [zOk];grind)
theorem vA(k n:Int):PC0 214 [.agg [.J k,.J n]] (.t (abl (zOk ⟨k,n⟩))):=by
 refine ad (aM f214) ay func214 fun g F hg hF=> ?_
 cbv
 repeat'(first|(refine bv hg (gG _ _) rfl (fun R0 ha=> ?_);cases R0<;>cbv)|(split<;>rename_i hh<;>(try rw [hh])<;>(try simp only [dD hg]at hh)<;>cbv))
 all_goals exact bk hF (by(try simp only [iO hg]);simp only [zOk];grind)
theorem gu(s:bh):PC0 195 [.agg (lc (bh.c s))] (.t (abl (Fa s))):=by
 obtain⟨⟨a0,a1⟩,⟨a2,a3⟩,⟨a4,a5⟩,⟨a6,a7⟩,⟨a8,a9⟩,⟨hb,hc⟩⟩:=s
 refine ad (aM f195) ay func195 fun g F hg hF=> ?_
 cbv
 repeat'(first|(refine bv hg (gq _ _) rfl (fun R0 ha=> ?_);cases R0<;>cbv)|(split<;>rename_i hh<;>(try rw [hh])<;>(try simp only [dD hg]at hh)<;>cbv))
 all_goals exact bk hF (by simp only [Fa];simp_all)
theorem gH(s:bh):PC0 215 [.agg (lc (bh.c s))] (.t (abl (Fa s))):=by
 obtain⟨⟨a0,a1⟩,⟨a2,a3⟩,⟨a4,a5⟩,⟨a6,a7⟩,⟨a8,a9⟩,⟨hb,hc⟩⟩:=s
 refine ad (aM f215) ay func215 fun g F hg hF=> ?_
 cbv
 repeat'(first|(refine bv hg (gG _ _) rfl (fun R0 ha=> ?_);cases R0<;>cbv)|(split<;>rename_i hh<;>(try rw [hh])<;>(try simp only [dD hg]at hh)<;>cbv))
 all_goals exact bk hF (by simp only [Fa];simp_all)
theorem gz(s:bS):PC0 196 [.agg (lc (bS.c s))] (.t (abl (FE s))):=by
 obtain⟨a0,a1,a2,a3⟩:=s
 refine ad (aM f196) ay func196 fun g F hg hF=> ?_
 cbv
 repeat'(first|(refine bv hg (bi _ _ _) rfl (fun R0 ha=> ?_);cases R0<;>cbv)|(split<;>rename_i hh<;>(try rw [hh])<;>(try simp only [dD hg]at hh)<;>cbv))
 all_goals exact bk hF (by simp only [FE];simp_all)
theorem gK(s:bS):PC0 216 [.agg (lc (bS.c s))] (.t (abl (FE s))):=by
 obtain⟨a0,a1,a2,a3⟩:=s
 refine ad (aM f216) ay func216 fun g F hg hF=> ?_
 cbv
 repeat'(first|(refine bv hg (bR _ _ _) rfl (fun R0 ha=> ?_);cases R0<;>cbv)|(split<;>rename_i hh<;>(try rw [hh])<;>(try simp only [dD hg]at hh)<;>cbv))
 all_goals exact bk hF (by simp only [FE];simp_all)
theorem sF(s:ao):PC0 119 [.agg (lc (ao.c s))] (.t (abl (BC s))):=by
 obtain⟨a0,a1,a2,a3,a4,a5,a6,a7,a8,a9,hK,⟨hL,hM⟩,⟨hN,hO⟩,⟨hP,hQ⟩,⟨hR,hS⟩,⟨hT,hU⟩,⟨hV,hW⟩,⟨hX,hY⟩,hZ,⟨⟨hb,hc⟩,⟨hd,he⟩,⟨hf,hi⟩,⟨hj,hk⟩,⟨hl,hm⟩,⟨hn,ho⟩⟩,⟨⟨hp,hq⟩,⟨hr,hs⟩,⟨ht,hu⟩,⟨hv,hw⟩,⟨hx,hy⟩,⟨hz,hA⟩⟩,⟨hB,hC,hD,hE⟩,⟨hG,hH,hI,hJ⟩,h0,h1⟩:=s
 refine ad (aM f119) ay func119 fun g F hg hF=> ?_
 cbv
 repeat'(first|(refine bv hg (bi _ _ _) rfl (fun R0 ha=> ?_);cases R0<;>cbv)|(refine bv hg (my _ _) rfl (fun R0 ha=> ?_);cases R0<;>cbv)|(refine bv hg (gu (⟨⟨hb,hc⟩,⟨hd,he⟩,⟨hf,hi⟩,⟨hj,hk⟩,⟨hl,hm⟩,⟨hn,ho⟩⟩:bh)) rfl (fun R0 ha=> ?_);cases R0<;>cbv)|(refine bv hg (gu (⟨⟨hp,hq⟩,⟨hr,hs⟩,⟨ht,hu⟩,⟨hv,hw⟩,⟨hx,hy⟩,⟨hz,hA⟩⟩:bh)) rfl (fun R0 ha=> ?_);cases R0<;>cbv)|(refine bv hg (gz (⟨hB,hC,hD,hE⟩:bS)) rfl (fun R0 ha=> ?_);cases R0<;>cbv)|(refine bv hg (gz (⟨hG,hH,hI,hJ⟩:bS)) rfl (fun R0 ha=> ?_);cases R0<;>cbv)|(split<;>rename_i hh<;>(try rw [hh])<;>(try simp only [dD hg]at hh)<;>cbv))
 all_goals exact bk hF (by clear hF;simp only [BC,stN,stV,zqD,List.all_nil];simp_all)
theorem GD{a b z:Int}(h:a=b)(hz:z<a):z<b:=h▸hz
variable {xs:List dy}
theorem IM{z M:Int}(hM:M=(xs.length:Int))(hz:M<=z)(h:∀(i:Nat)(v:dy),i<z.toNat->xs[i]? =some v->zOk v=true):xs.all zOk=true:=by
 rw [zqf]
 exact qB hM hz h
theorem IP{i:Nat}{v:dy}(h:xs[i]? =some v)(hv:zOk v=false):xs.all zOk=false:=by
 rw [List.all_eq_false]
 exact⟨v,zqd h,by rw [hv];decide⟩
theorem tj(s:ao):PC0 147 [.agg (lc (ao.c s))] (.t (abl (BC s))):=by
 obtain⟨W,hW⟩:=nmE (stV s)
 have xg:(7:Int)=(W.length:Int):=by rw [hW];rfl
 obtain⟨V,hV⟩:=nmE (vw dy.c W)
 have kV:=kmV (k:=2) hV fun _=>rfl
 have pV:=pmV hV
 have xf:aN V=7:=by rw [ah,hV,ar,<-xg]
 obtain⟨a0,a1,a2,a3,a4,a5,a6,a7,a8,a9,xb,⟨hS,hT⟩,⟨hU,hX⟩,⟨hY,hZ⟩,⟨h3,h4⟩,⟨h5,h6⟩,⟨h7,h8⟩,⟨h9,xa⟩,xc,⟨⟨hb,hd⟩,⟨he,hf⟩,⟨hh,hk⟩,⟨hl,hm⟩,⟨hn,ho⟩,⟨hp,hq⟩⟩,⟨⟨hr,ht⟩,⟨hu,hw⟩,⟨hy,hz⟩,⟨hA,hC⟩,⟨hD,hE⟩,⟨hG,hH⟩⟩,⟨hI,hJ,hK,hL⟩,⟨hM,hO,hP,hQ⟩,xd,xe⟩:=s
 have xj:V=[[.J hS,.J hT],[.J hU,.J hX],[.J hY,.J hZ],[.J h3,.J h4],[.J h5,.J h6],[.J h7,.J h8],[.J h9,.J xa]]:=by rw [hV,hW];rfl
 refine ad (aM f147) ay func147 fun g F hg hF=> ?_
 cbv
 repeat'(first|(refine bv hg (bR _ _ _) rfl (fun R0 ha=> ?_);cases R0<;>cbv))
 all_goals(try exact bk hF (by clear hF;simp only [BC,stN];simp_all))
 have hN:stN ⟨a0,a1,a2,a3,a4,a5,a6,a7,a8,a9,xb,⟨hS,hT⟩,⟨hU,hX⟩,⟨hY,hZ⟩,⟨h3,h4⟩,⟨h5,h6⟩,⟨h7,h8⟩,⟨h9,xa⟩,xc,⟨⟨hb,hd⟩,⟨he,hf⟩,⟨hh,hk⟩,⟨hl,hm⟩,⟨hn,ho⟩,⟨hp,hq⟩⟩,⟨⟨hr,ht⟩,⟨hu,hw⟩,⟨hy,hz⟩,⟨hA,hC⟩,⟨hD,hE⟩,⟨hG,hH⟩⟩,⟨hI,hJ,hK,hL⟩,⟨hM,hO,hP,hQ⟩,xd,xe⟩=true:=by clear hF;simp only [stN];simp_all
 have xh:BC ⟨a0,a1,a2,a3,a4,a5,a6,a7,a8,a9,xb,⟨hS,hT⟩,⟨hU,hX⟩,⟨hY,hZ⟩,⟨h3,h4⟩,⟨h5,h6⟩,⟨h7,h8⟩,⟨h9,xa⟩,xc,⟨⟨hb,hd⟩,⟨he,hf⟩,⟨hh,hk⟩,⟨hl,hm⟩,⟨hn,ho⟩,⟨hp,hq⟩⟩,⟨⟨hr,ht⟩,⟨hu,hw⟩,⟨hy,hz⟩,⟨hA,hC⟩,⟨hD,hE⟩,⟨hG,hH⟩⟩,⟨hI,hJ,hK,hL⟩,⟨hM,hO,hP,hQ⟩,xd,xe⟩=(W.all zOk&&(Fa ⟨⟨hb,hd⟩,⟨he,hf⟩,⟨hh,hk⟩,⟨hl,hm⟩,⟨hn,ho⟩,⟨hp,hq⟩⟩&&(Fa ⟨⟨hr,ht⟩,⟨hu,hw⟩,⟨hy,hz⟩,⟨hA,hC⟩,⟨hD,hE⟩,⟨hG,hH⟩⟩&&(FE ⟨hI,hJ,hK,hL⟩&&FE ⟨hM,hO,hP,hQ⟩)))):=by rw [BC,hN,hW];rfl
 rw [xh]at hF
 clear hN xh
 rw [<-xj]
 refine bO hg ay (by kernel_rfl) (fun z:Int=>[(1,.p 0),(87,.o 1),(88,.i (g .ln V)),(89,.i z)]) (fun _=>[.bx 64 60 (lc (ao.c ⟨a0,a1,a2,a3,a4,a5,a6,a7,a8,a9,xb,⟨hS,hT⟩,⟨hU,hX⟩,⟨hY,hZ⟩,⟨h3,h4⟩,⟨h5,h6⟩,⟨h7,h8⟩,⟨h9,xa⟩,xc,⟨⟨hb,hd⟩,⟨he,hf⟩,⟨hh,hk⟩,⟨hl,hm⟩,⟨hn,ho⟩,⟨hp,hq⟩⟩,⟨⟨hr,ht⟩,⟨hu,hw⟩,⟨hy,hz⟩,⟨hA,hC⟩,⟨hD,hE⟩,⟨hG,hH⟩⟩,⟨hI,hJ,hK,hL⟩,⟨hM,hO,hP,hQ⟩,xd,xe⟩)),.rw ⟨58,2,V⟩]) (fun z=>0<=z/\z<=7/\∀(i:Nat)(v:dy),i<z.toNat->W[i]? =some v->zOk v=true) (fun z=>(7:Int).toNat-z.toNat)
  0 [some 0,some 1] ⟨Int.le_refl 0,by omega,fun i v hi=>by simp at hi⟩ (wkS [0,1] (by decide) ⟨⟨_,rfl,rfl,rfl⟩,⟨_,rfl,rfl,pV⟩,trivial⟩ zr4) (fun z B hs hB=> ?_)
 obtain⟨h0,h1,h2⟩:=hs
 cbv
 cases hc:g .q .lss z (g .ln V)
 ·rw [bg hg,bz hg,xf,zqo]at hc
  have xk:=IM xg (by omega) h2
  cbv
  repeat'(first|(refine bv hg (gH (⟨⟨hb,hd⟩,⟨he,hf⟩,⟨hh,hk⟩,⟨hl,hm⟩,⟨hn,ho⟩,⟨hp,hq⟩⟩:bh)) rfl (fun R0 ha=> ?_);cases R0<;>cbv)|(refine bv hg (gH (⟨⟨hr,ht⟩,⟨hu,hw⟩,⟨hy,hz⟩,⟨hA,hC⟩,⟨hD,hE⟩,⟨hG,hH⟩⟩:bh)) rfl (fun R0 ha=> ?_);cases R0<;>cbv)|(refine bv hg (gK (⟨hI,hJ,hK,hL⟩:bS)) rfl (fun R0 ha=> ?_);cases R0<;>cbv)|(refine bv hg (gK (⟨hM,hO,hP,hQ⟩:bS)) rfl (fun R0 ha=> ?_);cases R0<;>cbv))
  all_goals exact bk hF (by clear hF;simp_all)
 ·rw [bg hg,bz hg,xf,zqp]at hc
  cbv
  obtain⟨x,hx⟩:=pk (xs:=W) h0 (GD xg hc)
  have xi:V[z.toNat]? =some (lc (dy.c x)):=by rw [hV];exact ba hx
  obtain⟨j,hj⟩:=nmE z.toNat
  obtain⟨x0,x1⟩:=x
  refine JK hg h0 hj (rA h0 (by rw [xf];exact hc) hj) ?_
  cbv
  rw [<-hj]at xi
  refine⟨_,xi,?_⟩
  cbv
  refine bv hg (vA x0 x1) rfl (fun R hR=> ?_)
  cases R
  ·cbv
   exact bk hF (by rw [IP hx hR.symm];rfl)
  ·cbv
   have e1:g .w .add .i64 z 1=z+1:=by rw [aJ hg,ak _ (by omega)]
   rw [e1]
   refine gX hB (z+1) [some 0,some 1] (wkS [0,1] (by decide) ⟨⟨_,rfl,rfl,rfl⟩,⟨_,rfl,rfl,pV⟩,trivial⟩ zr4) ⟨by omega,by omega,fun i v hi hv=> ?_⟩ (by omega)
   by_cases hi2:i<z.toNat
   ·exact h2 i v hi2 hv
   ·rw [show i=z.toNat by omega,hx]at hv
    cases hv
    exact hR.symm
end Go.Proofs.YtkicjdeddpihaaaGreat
