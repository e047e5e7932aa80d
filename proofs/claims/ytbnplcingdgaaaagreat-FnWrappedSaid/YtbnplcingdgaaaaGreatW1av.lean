/- Insets. -/
import Derived.Test.YtbnplcingdgaaaaGreatW1au
set_option linter.unusedVariables false
set_option linter.unusedSimpArgs false
set_option maxHeartbeats 16000000
namespace Go.Proofs.YtbnplcingdgaaaaGreat
open Go.ChangeShapes Go.WideShapes Go.ChangeAt Go.RowKit Am Go.Proofs.Tryz
set_option maxRecDepth 100000
structure ei(k:Nat)(E V:LLA)(lo:Nat):Prop where
 kk:∀e∈E,e.length=k
 bare:∀e∈E,e.all ji=true
 eq:E.map (·.map vwC)=V
 new:jl lo (fpE E)
theorem o8(a b:LLA):fpE (a++b)=fpE a++fpE b:=List.flatMap_append ..
theorem ei.nil(k lo:Nat):ei k [] [] lo:=⟨fun e h=>by simp at h,fun e h=>by simp at h,rfl,jl.nil lo⟩
variable {E V:LLA}
theorem ei.len{k lo:Nat}(h:ei k E V lo):E.length=V.length:=by rw [<-h.eq,zql]
structure mR(k:Nat)(V es:LLA)(z:Int)(lo:Nat):Prop where
 z0:0<=z
 z1:z<=az V
 cp:ei k es (V.take z.toNat) lo
theorem mR.start(k:Nat)(V:LLA)(lo:Nat):mR k V [] 0 lo:=⟨Int.le_refl 0,by rw [aw];omega,ei.nil k lo⟩
variable {lo:Nat}{k:Nat}{z:Int}
theorem mR.len{V es:LLA}(h:mR k V es z lo):es.length<=V.length:=by rw [h.cp.len,List.length_take];omega
theorem mR.done{V es:LLA}(h:mR k V es z lo)(hz:¬z<az V):ei k es V lo:=by
 have:=h.cp
 rwa [List.take_of_length_le (by rw [aw]at hz;omega)]at this
theorem o7{ab:AB}:∀(h:EH)(r:Nat),h[r]? =some (.rw ab)->∀b∈fpE ab.es,b∈fpH h
 | [],r,hr,b,hb=>by simp at hr
 |e::h,0,hr,b,hb=>by simp at hr;subst hr;exact List.mem_append_left _ hb
 |e::h,r+1,hr,b,hb=>by have:=o7 h r (by simpa using hr) b hb;cases e<;>first|exact List.mem_append_right _ this|exact this
variable {es:LLA}
theorem zt{P:Program}{n0 N:Nat}{β:BP}{g:Gd}(hg:g=G0 P n0 N){t k by_:Nat}{y:List AC}{q:Prop}(hk:y.length=k)(hb:by_<=65536)(hl:es.length<=1048576)(hq:q):
  g .N ((∀x,x∈[y]->x.length=k)/\((AB.mk t k es).es.length+[y].length)*by_<=140737488355328/\(AB.mk t k es).es.length+[y].length<=4611686018427387904) q:=
 goN hg ⟨fun x hx=>by rw [List.mem_singleton.1 hx];exact hk,Nat.le_trans (Nat.mul_le_mul (show es.length+1<=1048577 by omega) hb) (by decide),by show es.length+1<=_;omega⟩ hq
theorem bq{bl:Nat->Nat}{h:AH}{r t k k' lo:Nat}(hr:h[r]? =some (.live ⟨t,k,E⟩))(hc:ei k' E V lo):oc bl h (.own r) (.fv (hd1 (bl r) E++fpE E) V):=by
 have:=p7 (bl:=bl) hr hc.bare
 rw [hc.eq]at this
 exact this
section
variable {P:Program}{n0 N:Nat}{g:Gd}
end
theorem mR.step2{V es:LLA}{y v:List AC}(h:mR k V es z lo)(hv:V[z.toNat]? =some v)(hy:y.map vwC=v)(hk:y.length=k)(hb:y.all ji=true)(hn:jl lo (fpL y))(hd:∀b∈fpE es,b∉fpL y):mR k V (es++[y]) (z+1) lo:=by
 have h0:=h.z0
 have hl:=(List.getElem?_eq_some_iff.1 hv).1
 refine⟨by omega,by rw [aw];omega,⟨fun e he=> ?_,fun e he=> ?_,?_,?_⟩⟩
 ·rcases List.mem_append.1 he with h1|h1
  ·exact h.cp.kk e h1
  ·rw [List.mem_singleton.1 h1];exact hk
 ·rcases List.mem_append.1 he with h1|h1
  ·exact h.cp.bare e h1
  ·rw [List.mem_singleton.1 h1];exact hb
 ·rw [show(z+1).toNat=z.toNat+1 by omega,List.take_add_one,hv,List.map_append,h.cp.eq,<-hy];rfl
 ·rw [o8,show fpE [y]=fpL y from List.append_nil _]
  exact⟨List.nodup_append.2 ⟨h.cp.new.1,hn.1,fun a h1 b h2 he=>by subst he;exact hd a h1 h2⟩,fun b ha=>(List.mem_append.1 ha).elim (h.cp.new.2 b) (hn.2 b)⟩
theorem vx{b:Nat}(hi:rj es=true):(AC.fv (hd1 b es++fpE es) (es.map (·.map vwC)))= .fv (hd1 b es) es:=by rw [Bc hi,Be hi,List.append_nil]
theorem mD(hi:rj es=true):∀e∈es,e.all ji=true:=fun e he=>List.all_eq_true.2 fun c hc=>by obtain⟨u,rfl⟩:=vt hi e he c hc;rfl
section
variable {P:Program}{n0 N:Nat}{g:Gd}
theorem ph{β:BP}(hg:g=G0 P n0 N){h:EH}{f:FuncId}{args args':List AT}{K:AV->EH->Prop}{t k:Nat}{Q:Nat->LLA->Prop}(hc:yq P f args' fun lo res hb=>∃E,res= .t (.agg [.own 0])/\hb=[⟨t,k,E⟩]/\Q lo E)(ha:dwA args args')
  (hp:∀lo E,Q lo E->aK E=true)
  (hK:∀lo E,BP.lo<=lo->(∀b∈fpH h,b<lo)->(∀b∈fpA args,b<lo)->Q lo E->K (.t (.agg [.own (jb h)])) (h++[.rw ⟨t,k,E⟩])):g .C f h args K:=
 Cz hg hc ha fun lo res hb h1 h2 h3⟨E,hres,hrows,hQ⟩=>by
  subst hres hrows
  refine⟨[.rw ⟨t,k,E⟩],?_,?_⟩
  ·simp only [zqA,List.map_nil,fk (ab:=⟨t,k,E⟩) (hp lo E hQ)];rfl
  ·have:=hK lo E h1 h2 h3 hQ
   rw [bI]at this
   rw [aO];exact this
theorem Bn{β:BP}{F:List AT->EH->Prop}{Post:AV->List AB->Prop}{r:Nat}{eh:EH}{ab:AB}(hF:F=fun xs eh=>Ai Post xs (toH eh))(hr:nth eh r=some (.rw ab))(hp:aK ab.es=true)(hpost:Post (.t (.agg [.own 0])) [ab]):F [.agg [.own r]] eh:=by
 subst hF
 refine .inl ⟨.t (.agg [.own 0]),[.live ab],[some r],⟨Nat.zero_le _,fun i hi=>absurd hi (Nat.not_lt_zero _),by simp,?_,?_⟩,[ab],rfl,hpost⟩
 ·simp only [rnH,zqw,dq hr]
  exact⟨fun h=>absurd h (Nat.not_lt_zero _),⟨by first|trivial|rfl,by first|trivial|rfl,.inl ⟨by first|trivial|rfl,hp⟩⟩,trivial⟩
 ·exact⟨.inr zr1,trivial⟩
end
theorem fF(ns:List af)(hl:ns.length<=1048576)(hs:∀y∈ns,af.small y):yq prog 18 [.agg [.view (vwA af.ac ns)]] fun lo res xE=>∃E,res= .t (.agg [.own 0])/\xE=[⟨55,64,E⟩]/\ei 64 E (vwA af.ac ns) lo:=by
 obtain⟨M,hM⟩:=nmE (vwA af.ac ns)
 have xN:M.length=ns.length:=by rw [hM,aQ]
 have xO:az M=(ns.length:Int):=by rw [aw,xN]
 have xS:az M<=1048576:=by omega
 rw [<-hM]
 refine lj ([(6,.hand),(7,.hand)]) ([]) (c:=aM f18) aB func18 (by kernel_rfl) (by kernel_rfl) (by rfl) (by kernel_rfl) fun β g xR hd F xw xy hg hF=> ?_
 cbv
 refine ir [(6,.hand),(7,.hand)] [] xw xy hg aB (by kernel_rfl) (fun s:Int×LLA=>[(1,.p 3),(2,.p 0),(3,.p 1),(4,.i (s.1))]) (fun s=>[.bx 38 1 [.N],.bx 38 1 [.own 2],.rw ⟨55,64,s.2⟩,.bx 38 1 [.view M]]) (fun s=>mR 64 M s.2 s.1 β.lo) (fun s=>(az M).toNat-s.1.toNat)
  (0,[]) (mR.start 64 M β.lo) (Wk.weak (wkG [some 1,some 2,none,some 0] zr4 ⟨wqE rfl rfl,⟨_,_,rfl,rfl,rfl,rfl,.inr ⟨zr1,trivial⟩⟩,⟨_,rfl,rfl⟩,wqE rfl rfl,trivial⟩ (by decide) ay)) (fun s B hq hB=> ?_)
 obtain⟨z,es⟩:=s
 simp only at hq
 have h0:=hq.z0
 have xQ:=hq.len
 cbv
 cases hc:g .q .lss z (g .ln M)
 ·rw [bA hg,bG hg,zqo]at hc
  cbv
  have hd:=hq.done hc
  exact Bn hF rfl (dl hd.bare) ⟨es,rfl,rfl,hd⟩
 rw [bA hg,bG hg,zqp]at hc
 cbv
 obtain⟨x,hx⟩:=tN (xs:=ns) h0 (fI xO hc)
 have xK:=hs x (zqd hx)
 have hr:M[z.toNat]? =some x.ac:=by rw [hM];exact e9 hx
 obtain⟨a0,a1,⟨a2,a3,a4,a5,a6,a7,a8,a9,hv,hw,hy,⟨hz,hA⟩,⟨hC,hD⟩,⟨hE,hG⟩,⟨hH,hI⟩,⟨hJ,hK⟩,⟨hL,hN⟩,⟨hO,hP⟩,hQ,⟨⟨hR,hS⟩,⟨hT,hU⟩,⟨hV,hW⟩,⟨hX,hY⟩,⟨hZ,h3⟩,⟨h4,h5⟩⟩,⟨⟨h6,h7⟩,⟨h8,h9⟩,⟨xa,xb⟩,⟨xc,xd⟩,⟨xe,xf⟩,⟨xg,xh⟩⟩,⟨xi,xj,xk,xl⟩,⟨xm,xn,xo,xp⟩,xq,xr⟩,xt,⟨xF⟩⟩:=x
 replace hr:M[z.toNat]? =some [.J a0,.view (vw aj a1),.J a2,.J a3,.J a4,.J a5,.J a6,.J a7,.B a8,.B a9,.J hv,.J hw,.J hy,.J hz,.J hA,.J hC,.J hD,.J hE,.J hG,.J hH,.J hI,.J hJ,.J hK,.J hL,.J hN,.J hO,.J hP,.J hQ,.J hR,.J hS,.J hT,.J hU,.J hV,.J hW,.J hX,.J hY,.J hZ,.J h3,.J h4,.J h5,.J h6,.J h7,.J h8,.J h9,.J xa,.J xb,.J xc,.J xd,.J xe,.J xf,.J xg,.J xh,.J xi,.J xj,.J xk,.J xl,.J xm,.J xn,.J xo,.J xp,.J xq,.J xr,.B xt,.view (vw aJ.c xF)]:=hr
 obtain⟨hm,hf⟩:=nmE (vw aj a1)
 have ho:=lmV hf
 have ht:=imV hf
 have xC:=kmV (k:=1) hf fun _=>rfl
 have xM:=dmV hf
 obtain⟨he,ha⟩:=nmE (vw aJ.c xF)
 have hi:=lmV ha
 have hh:=imV ha
 have hu:=kmV (k:=3) ha fun _=>rfl
 have xG:=dmV ha
 rw [<-hf,<-ha]at hr
 refine goX hg _ h0 hr rfl ?_
 cbv
 refine ro xy aB [] [] 6 hm (mD ht) rfl (by kernel_rfl) (fun g2 xu xP B2 xv xx hj hn=> ?_)
 cbv
 refine zr hj xC (by decide) (by rw [ho];exact xK.1) ?_
 cbv
 rw [jo hj,List.nil_append]
 refine hn _ _ _ _ rfl rfl (fun xL b1 p1 hp=> ?_)
 rw [vx ht]
 obtain⟨c1,xH⟩:=nmE (hd1 b1 hm)
 rw [<-xH]at hp⊢
 clear xH
 refine⟨[(1,.p 3),(2,.p 0),(3,.p 1),(4,.i (z)),(5,.p 4)],[.bx 38 1 [.N],.bx 38 1 [.own 2],.rw ⟨55,64,es⟩,.bx 38 1 [.view M],.bx 55 64 [.J a0,.fv c1 hm,.J a2,.J a3,.J a4,.J a5,.J a6,.J a7,.B a8,.B a9,.J hv,.J hw,.J hy,.J hz,.J hA,.J hC,.J hD,.J hE,.J hG,.J hH,.J hI,.J hJ,.J hK,.J hL,.J hN,.J hO,.J hP,.J hQ,.J hR,.J hS,.J hT,.J hU,.J hV,.J hW,.J hX,.J hY,.J hZ,.J h3,.J h4,.J h5,.J h6,.J h7,.J h8,.J h9,.J xa,.J xb,.J xc,.J xd,.J xe,.J xf,.J xg,.J xh,.J xi,.J xj,.J xk,.J xl,.J xm,.J xn,.J xo,.J xp,.J xq,.J xr,.B xt,.view he],.gn,.gn],⟨.inl rfl,.inl rfl,.inl rfl,.inl rfl,.inl rfl,trivial⟩,⟨⟨rfl,rfl,.inl rfl,trivial⟩,⟨rfl,rfl,.inl rfl,trivial⟩,.inl rfl,⟨rfl,rfl,.inl rfl,trivial⟩,⟨rfl,rfl,⟨.inl rfl,.inr (.inl ⟨rfl,rfl⟩),.inl rfl,.inl rfl,.inl rfl,.inl rfl,.inl rfl,.inl rfl,.inl rfl,.inl rfl,.inl rfl,.inl rfl,.inl rfl,.inl rfl,.inl rfl,.inl rfl,.inl rfl,.inl rfl,.inl rfl,.inl rfl,.inl rfl,.inl rfl,.inl rfl,.inl rfl,.inl rfl,.inl rfl,.inl rfl,.inl rfl,.inl rfl,.inl rfl,.inl rfl,.inl rfl,.inl rfl,.inl rfl,.inl rfl,.inl rfl,.inl rfl,.inl rfl,.inl rfl,.inl rfl,.inl rfl,.inl rfl,.inl rfl,.inl rfl,.inl rfl,.inl rfl,.inl rfl,.inl rfl,.inl rfl,.inl rfl,.inl rfl,.inl rfl,.inl rfl,.inl rfl,.inl rfl,.inl rfl,.inl rfl,.inl rfl,.inl rfl,.inl rfl,.inl rfl,.inl rfl,.inl rfl,.inl rfl,trivial⟩⟩,trivial,rfl,trivial⟩,?_⟩
 clear hn hj xx xv
 cbv
 refine ro xy aB [] [] 8 he (mD hh) rfl (by kernel_rfl) (fun g2 xu xP B2 xv xx hj hn=> ?_)
 cbv
 refine zr hj hu (by decide) (by rw [hi];exact xK.2.1) ?_
 cbv
 rw [jo hj,List.nil_append]
 refine hn _ _ _ _ rfl rfl (fun xD b2 q1 hk=> ?_)
 rw [vx hh]
 obtain⟨c2,xI⟩:=nmE (hd1 b2 he)
 rw [<-xI]at hk⊢
 clear xI
 refine⟨[(1,.p 3),(2,.p 0),(3,.p 1),(4,.i (z)),(5,.p 4)],[.bx 38 1 [.N],.bx 38 1 [.own 2],.rw ⟨55,64,es⟩,.bx 38 1 [.view M],.bx 55 64 [.J a0,.fv c1 hm,.J a2,.J a3,.J a4,.J a5,.J a6,.J a7,.B a8,.B a9,.J hv,.J hw,.J hy,.J hz,.J hA,.J hC,.J hD,.J hE,.J hG,.J hH,.J hI,.J hJ,.J hK,.J hL,.J hN,.J hO,.J hP,.J hQ,.J hR,.J hS,.J hT,.J hU,.J hV,.J hW,.J hX,.J hY,.J hZ,.J h3,.J h4,.J h5,.J h6,.J h7,.J h8,.J h9,.J xa,.J xb,.J xc,.J xd,.J xe,.J xf,.J xg,.J xh,.J xi,.J xj,.J xk,.J xl,.J xm,.J xn,.J xo,.J xp,.J xq,.J xr,.B xt,.fv c2 he],.gn,.gn,.gn,.gn],⟨.inl rfl,.inl rfl,.inl rfl,.inl rfl,.inl rfl,trivial⟩,⟨⟨rfl,rfl,.inl rfl,trivial⟩,⟨rfl,rfl,.inl rfl,trivial⟩,.inl rfl,⟨rfl,rfl,.inl rfl,trivial⟩,⟨rfl,rfl,⟨.inl rfl,.inl rfl,.inl rfl,.inl rfl,.inl rfl,.inl rfl,.inl rfl,.inl rfl,.inl rfl,.inl rfl,.inl rfl,.inl rfl,.inl rfl,.inl rfl,.inl rfl,.inl rfl,.inl rfl,.inl rfl,.inl rfl,.inl rfl,.inl rfl,.inl rfl,.inl rfl,.inl rfl,.inl rfl,.inl rfl,.inl rfl,.inl rfl,.inl rfl,.inl rfl,.inl rfl,.inl rfl,.inl rfl,.inl rfl,.inl rfl,.inl rfl,.inl rfl,.inl rfl,.inl rfl,.inl rfl,.inl rfl,.inl rfl,.inl rfl,.inl rfl,.inl rfl,.inl rfl,.inl rfl,.inl rfl,.inl rfl,.inl rfl,.inl rfl,.inl rfl,.inl rfl,.inl rfl,.inl rfl,.inl rfl,.inl rfl,.inl rfl,.inl rfl,.inl rfl,.inl rfl,.inl rfl,.inl rfl,.inr (.inl ⟨rfl,rfl⟩),trivial⟩⟩,trivial,trivial,trivial,rfl,trivial⟩,?_⟩
 clear hn hj xx xv
 have xz:∀b∈fpE es,b<xL:=fun b hb=>hp.old b (o7 _ 2 rfl b hb)
 have xA:∀b∈fpE es,b<xD:=fun b hb=>hk.old b (o7 _ 2 rfl b hb)
 have xB:∀b∈c1,b<xD:=fun b hb=>hk.old b (by simp [fpH,fpL,fpC,hb])
 have n1:jl xL c1:=⟨hp.nd,hp.ge⟩
 have n2:jl xD c2:=⟨hk.nd,hk.ge⟩
 clear hp hk
 cbv
 refine zt hg rfl (by decide) (by omega) ?_
 cbv
 have e1:g .w .add .i64 z 1=z+1:=by rw [aI hg,aq _ (by omega)]
 rw [e1,jo hg]
 have xJ:=hq.step2 (y:=[.J a0,.fv c1 hm,.J a2,.J a3,.J a4,.J a5,.J a6,.J a7,.B a8,.B a9,.J hv,.J hw,.J hy,.J hz,.J hA,.J hC,.J hD,.J hE,.J hG,.J hH,.J hI,.J hJ,.J hK,.J hL,.J hN,.J hO,.J hP,.J hQ,.J hR,.J hS,.J hT,.J hU,.J hV,.J hW,.J hX,.J hY,.J hZ,.J h3,.J h4,.J h5,.J h6,.J h7,.J h8,.J h9,.J xa,.J xb,.J xc,.J xd,.J xe,.J xf,.J xg,.J xh,.J xi,.J xj,.J xk,.J xl,.J xm,.J xn,.J xo,.J xp,.J xq,.J xr,.B xt,.fv c2 he]) hr rfl rfl rfl (by
  have:=(n1.mono p1).app q1 n2 xB
  simpa [fpL,fpC]using this) (fun b hb=>by
  have h1:=xz b hb
  have h2:=xA b hb
  simp only [fpL,fpC,List.flatMap_cons,List.flatMap_nil,List.append_nil,List.nil_append,List.mem_append,not_or]
  exact⟨fun h=>by have:=n1.2 b h;omega,fun h=>by have:=n2.2 b h;omega⟩)
 rw [hB]
 skip
 exact⟨(z+1,_),xJ,by show(az M).toNat-(z+1).toNat<(az M).toNat-z.toNat;omega,Wk.weak (wkG [some 0,some 1,some 10,some 3] zr4 ⟨wqE rfl rfl,⟨_,_,rfl,rfl,rfl,rfl,.inr ⟨zr1,trivial⟩⟩,⟨_,_,rfl,rfl,rfl,rfl,.inl ⟨rfl,dl xJ.cp.bare⟩⟩,wqE rfl rfl,trivial⟩ (by decide) ay)⟩
def CM(s:ah):af:=⟨0,[],s,false,⟨[]⟩⟩
def xz(ns:List af)(s:ah):Bool:=bi ns&&(pI s&&decide (ns.length<12))
def sU(ns:List af)(s:ah):List af:=if xz ns s=true then ns++[CM s]else ns
def t9(ns:List af)(s:ah):Int:=if xz ns s=true then(ns.length:Int)+1 else 0
def AK(s:ah):List AC:= .J 0:: .fv [] []::(lc (ah.c s)++[.B false,.fv [] []])
def Co(s:ah):List AC:= .J 0:: .N::(lc (ah.c s)++[.B false,.N])
theorem ei.snoc{k lo:Nat}{y v:List AC}(h:ei k E V lo)(hy:y.map vwC=v)(hk:y.length=k)(hb:y.all ji=true)(hf:fpL y=[]):ei k (E++[y]) (V++[v]) lo:=
 ⟨fun e he=>(List.mem_append.1 he).elim (h.kk e) fun h1=>by rw [List.mem_singleton.1 h1];exact hk,fun e he=>(List.mem_append.1 he).elim (h.bare e) fun h1=>by rw [List.mem_singleton.1 h1];exact hb,
  by rw [List.map_append,h.eq,<-hy];rfl,by rw [o8,show fpE [y]=fpL y from List.append_nil _,hf,List.append_nil];exact h.new⟩
theorem wx{α:Type}(E:List α)(y y':α):E++[y']=(E++[y]).set E.length y'/\(E++[y])[E.length]? =some y:=by
 constructor
 ·rw [List.set_append_right _ _ (Nat.le_refl _),Nat.sub_self];rfl
 ·rw [zqg (Nat.le_refl _),Nat.sub_self];rfl
theorem wj(ns:List af)(x:af):vwA af.ac (ns++[x])=vwA af.ac ns++[x.ac]:=by simp [vwA]
theorem m6(ns:List af)(hl:ns.length<=1048576)(hs:∀y∈ns,af.small y)(s:ah):yq prog 10 [.agg [.view (vwA af.ac ns)],.agg (lc (ah.c s))] fun lo res hi=>(∃b0,res= .tup [.agg [.fv b0 (vwA af.ac (sU ns s))],ai (t9 ns s)]/\jl lo b0)/\eP res=true/\hi=[]:=by
 have ck:=fF ns hl hs
 have cT:=fd ns hl hs
 have cS:=fG s
 obtain⟨M,hM⟩:=nmE (vwA af.ac ns)
 have hx:az M=(ns.length:Int):=by rw [aw,hM,aQ]
 obtain⟨W,hW⟩:=nmE (vwA af.ac (sU ns s))
 obtain⟨AI,hc⟩:=nmE (t9 ns s)
 rw [<-hM]at ck cT
 have hu:az M≥12->decide (ns.length<12)=false:=fun h=>zqt (by omega)
 have hv:¬az M≥12->decide (ns.length<12)=true:=fun h=>zqu (by omega)
 rw [<-hM,<-hW,<-hc]
 refine lj ([(4,.hand),(5,.hand)]) ([]) (c:=aM f10) aB func10 (by kernel_rfl) (by kernel_rfl) (by rfl) (by kernel_rfl) fun β g hw hd F he hn hg hF=> ?_
 cbv
 refine ph hg ck (fD rfl) (fun lo E h=>dl h.bare) (fun lo E q1 q2 q3 hE=> ?_)
 clear q2 q3
 replace hE:ei 64 E M β.lo:=⟨hE.kk,hE.bare,hE.eq,hE.new.mono q1⟩
 clear q1
 cbv
 have pE:=dl hE.bare
 have hf:xz ns s=false->W=M/\AI=0:=fun h=>⟨by rw [hW,hM];unfold sU;rw [if_neg (by rw [h];decide)],by rw [hc];unfold t9;rw [if_neg (by rw [h];decide)]⟩
 have hh:xz ns s=true->W=M++[(CM s).ac]/\AI=(ns.length:Int)+1:=fun h=>⟨by rw [hW,hM];unfold sU;rw [if_pos h,wj],by rw [hc];unfold t9;rw [if_pos h]⟩
 cases hTB:bi ns
 case false=>
  rw [hTB]at cT
  refine ad hg cT ?_
  cbv
  obtain⟨h1,h2⟩:=hf (by unfold xz;rw [hTB];rfl)
  rw [h1,h2]at hF
  refine gI hF fun bl ha=>⟨[.agg [.fv (hd1 (bl 3) E++fpE E) M],ai 0],.agg (.cons (bq rfl hE) .nil) (.c (.imm _) .nil),⟨_,rfl,da ha (r:=3) (ab:=⟨_,_,E⟩) rfl hE.new⟩,rfl,rfl⟩
 rw [hTB]at cT
 refine ad hg cT ?_
 cbv
 cases hSO:pI s
 case false=>
  rw [hSO]at cS
  refine ad hg cS ?_
  cbv
  obtain⟨h1,h2⟩:=hf (by unfold xz;rw [hTB,hSO];rfl)
  rw [h1,h2]at hF
  refine gI hF fun bl ha=>⟨[.agg [.fv (hd1 (bl 3) E++fpE E) M],ai 0],.agg (.cons (bq rfl hE) .nil) (.c (.imm _) .nil),⟨_,rfl,da ha (r:=3) (ab:=⟨_,_,E⟩) rfl hE.new⟩,rfl,rfl⟩
 rw [hSO]at cS
 refine ad hg cS ?_
 cbv
 cases hL:g .q .geq (g .ln M) 12
 case true=>
  rw [ii hg,bG hg,zqp]at hL
  cbv
  obtain⟨h1,h2⟩:=hf (by unfold xz;rw [hTB,hSO,hu hL];rfl)
  rw [h1,h2]at hF
  refine gI hF fun bl ha=>⟨[.agg [.fv (hd1 (bl 3) E++fpE E) M],ai 0],.agg (.cons (bq rfl hE) .nil) (.c (.imm _) .nil),⟨_,rfl,da ha (r:=3) (ab:=⟨_,_,E⟩) rfl hE.new⟩,rfl,rfl⟩
 rw [ii hg,bG hg,zqo]at hL
 cbv
 obtain⟨ht,hr⟩:=hh (by unfold xz;rw [hTB,hSO,hv hL];rfl)
 have hk:E.length=ns.length:=by rw [hE.len,hM,aQ]
 have hb:ei 64 (E++[AK s]) W β.lo:=by rw [ht];exact hE.snoc rfl rfl rfl rfl
 obtain⟨ho,hp⟩:=wx E (Co s) (AK s)
 have pZ:aK (E++[Co s])=true:=by
  unfold aK at pE⊢
  rw [List.all_append,pE];rfl
 have hq:=dl hb.bare
 have hj:g .ln (E++[AK s])=AI:=by rw [bG hg,aw,zqe,hr,hk];rfl
 refine lw [] [] he hn hg aB [(4,.p 0),(6,.p 1)] [.bx 38 1 [.N],.bx 38 1 [.own 2],.rw ⟨55,64,E++[AK s]⟩] (by kernel_rfl) (fun B hB=> ?_) ?_
 ·cbv
  refine zt hg rfl (by decide) (by omega) ?_
  cbv
  rw [jo hg]
  refine hB _ _ (ix.trans (l1:=[(4,.p 0),(6,.p 1)]) (h1:=toH [.bx 38 1 [.N],.bx 38 1 [.own 2],.rw ⟨55,64,E++[Co s]⟩]) (Wk.weak (wkG [some 2,some 4,some 6] zr2 ⟨wqE rfl rfl,⟨_,_,rfl,rfl,rfl,rfl,.inr ⟨zr1,trivial⟩⟩,wqE rfl pZ,trivial⟩ (by decide) ay)) (yA ⟨.inl rfl,.inl rfl,trivial⟩ ⟨⟨rfl,rfl,.inl rfl,trivial⟩,⟨rfl,rfl,.inl rfl,trivial⟩,.inr ⟨_,_,_,rfl,rfl,ho,hp,⟨.inl rfl,.inr (.inr ⟨rfl,rfl⟩),.inl rfl,.inl rfl,.inl rfl,.inl rfl,.inl rfl,.inl rfl,.inl rfl,.inl rfl,.inl rfl,.inl rfl,.inl rfl,.inl rfl,.inl rfl,.inl rfl,.inl rfl,.inl rfl,.inl rfl,.inl rfl,.inl rfl,.inl rfl,.inl rfl,.inl rfl,.inl rfl,.inl rfl,.inl rfl,.inl rfl,.inl rfl,.inl rfl,.inl rfl,.inl rfl,.inl rfl,.inl rfl,.inl rfl,.inl rfl,.inl rfl,.inl rfl,.inl rfl,.inl rfl,.inl rfl,.inl rfl,.inl rfl,.inl rfl,.inl rfl,.inl rfl,.inl rfl,.inl rfl,.inl rfl,.inl rfl,.inl rfl,.inl rfl,.inl rfl,.inl rfl,.inl rfl,.inl rfl,.inl rfl,.inl rfl,.inl rfl,.inl rfl,.inl rfl,.inl rfl,.inl rfl,.inr (.inr ⟨rfl,rfl⟩),trivial⟩⟩,trivial⟩))
 obtain⟨E2,hm⟩:=nmE (E++[AK s])
 rw [<-hm]at hb hj hq⊢
 clear ho hp pZ hm hE hk pE
 refine w8 hg hn aB (.op 0 (.op 1 (.op 2 (.op 3 (.op 4 (.op 5 .done .none) .none) (.op 4 (.op 3 (.op 5 .done .none) .none) .none)) (.op 4 (.op 2 (.op 3 (.op 5 .done .none) .none) .none) .none)) (.op 4 (.op 1 (.op 2 (.op 3 (.op 5 .done .none) .none) .none) .none) .none)) (.op 1 (.op 0 (.op 2 (.op 3 (.op 4 (.op 5 .done .none) .none) (.op 4 (.op 3 (.op 5 .done .none) .none) .none)) (.op 4 (.op 2 (.op 3 (.op 5 .done .none) .none) .none) .none)) (.op 2 (.op 0 (.op 3 (.op 4 (.op 5 .done .none) .none) (.op 4 (.op 3 (.op 5 .done .none) .none) .none)) (.op 3 (.op 0 (.op 4 (.op 5 .done .none) .none) .none) .none)) .none)) .none)) (by kernel_rfl) (by kernel_rfl) [(4,.p 0),(5,.i (AI))] [.bx 38 1 [.own 1],.rw ⟨55,64,E2⟩] (fun B hB=> ?_) ?_
 ·cbv
  rw [hj]
  repeat' apply And.intro
  all_goals first|exact trivial|exact hB _ _ (Wk.weak (wkG [some 0,some 2] zr2 ⟨⟨_,_,rfl,rfl,rfl,rfl,.inr ⟨zr1,trivial⟩⟩,wqE rfl hq,trivial⟩ (by decide) ay))
 cbv
 refine gI hF fun bl ha=>⟨[.agg [.fv (hd1 (bl 1) E2++fpE E2) W],ai AI],.agg (.cons (bq rfl hb) .nil) (.c (.imm _) .nil),⟨_,rfl,da ha (r:=1) (ab:=⟨_,_,E2⟩) rfl hb.new⟩,rfl,rfl⟩
def gR(u:Int)(K R:LLA)(s:ah)(m:Bool):List AC:= .J u:: .view K::(lc (ah.c s)++[.B m,.view R])
def mj(u:Int)(K R:LLA)(s:ah)(m:Bool)(b1 b2:List Nat):List AC:= .J u:: .fv b1 K::(lc (ah.c s)++[.B m,.fv b2 R])
theorem qt:∀(L e:List AC),e.all ji=true->e.map vwC=L->(L.all fun c=>match c with| .imm _=>true|_=>false)=true->e=L
 | [],e,_,h,_=>by cases e<;>first|rfl|simp at h
 |c::L,e,hb,h,hi=>by
  cases e with
  |nil=>simp at h
  |cons d e=>
   simp only [zqA,List.cons.injEq]at h
   simp only [zqD,zqs]at hb hi
   have h1:=qt L e hb.2 h.2 hi.2
   cases c<;>first|(cases hi.1;done)|skip
   rw [pm hb.1 h.1,h1]
theorem uA(s:ah):((lc (ah.c s)).all fun c=>match c with| .imm _=>true|_=>false)=true:=rfl
variable {j:Nat}
theorem ei.node{E M:LLA}(h:ei 64 E M lo){u:Int}{K R:LLA}{s:ah}{m:Bool}(hj:M[j]? =some (gR u K R s m)):∃b1 b2,E[j]? =some (mj u K R s m b1 b2):=by
 have hl:=(List.getElem?_eq_some_iff.1 hj).1
 have hE:j<E.length:=by rw [h.len];exact hl
 obtain⟨e,he⟩:∃e,E[j]? =some e:=⟨_,zqc hE⟩
 have hb:e.map vwC=gR u K R s m:=by
  have h1:(E.map (·.map vwC))[j]? =some (e.map vwC):=by rw [zqi,he];rfl
  rw [h.eq,hj]at h1
  exact(Option.some.inj h1).symm
 have ha:=h.bare e (zqd he)
 unfold gR at hb
 cases e with
 |nil=>simp at hb
 |cons c0 e=>cases e with
  |nil=>simp at hb
  |cons c1 r=>
   rw [zqA,zqA,List.cons.injEq,List.cons.injEq]at hb
   rw [zqD,zqD,zqs,zqs]at ha
   obtain⟨h0,h1,h2⟩:=hb
   obtain⟨r1,r2,hr,k1,k2⟩:=List.map_eq_append_iff.1 h2
   subst hr
   rw [List.all_append,zqs]at ha
   have hr1:=qt _ _ ha.2.2.1 k1 (uA s)
   cases r2 with
   |nil=>cases k2
   |cons c2 r2=>cases r2 with
    |nil=>simp at k2
    |cons c3 r2=>
     have hn:r2=[]:=by
      have:=congrArg List.length k2
      cases r2 with
      |nil=>rfl
      |cons _ _=>simp at this
     subst hn
     simp only [zqA,List.map_nil,List.cons.injEq,and_true]at k2
     simp only [zqD,List.all_nil,Bool.and_true,zqs]at ha
     obtain⟨b1,hc⟩:=vU ha.2.1 h1
     obtain⟨b2,hd⟩:=vU ha.2.2.2.2 k2.2
     have e0:=pm ha.1 h0
     have e2:=pm ha.2.2.2.1 k2.1
     refine⟨b1,b2,?_⟩
     rw [he,e0,hc,hr1,e2,hd];rfl
theorem ei.set{k lo:Nat}(h:ei k E V lo){e y v:List AC}(he:E[j]? =some e)(hy:y.map vwC=v)(hk:y.length=k)(hb:y.all ji=true)(hf:fpL y=fpL e):ei k (E.set j y) (V.set j v) lo:=
 ⟨fun x hx=>(List.mem_or_eq_of_mem_set hx).elim (h.kk x) fun h1=>by rw [h1];exact hk,fun x hx=>(List.mem_or_eq_of_mem_set hx).elim (h.bare x) fun h1=>by rw [h1];exact hb,by rw [List.map_set,h.eq,hy],by rw [sx he hf];exact h.new⟩
theorem qP(ns:List af)(j:Nat)(x:af):vwA af.ac (ns.set j x)=(vwA af.ac ns).set j x.ac:=by simp [vwA]
def uH(ns:List af)(n:Int):Bool:=bi ns&&isN ns n
def seN(ns:List af)(n:Int)(s:ah):List af:=match uH ns n&&pI s,ns[(n-1).toNat]? with|true,some x=>ns.set (n-1).toNat {x with style:=s}|_,_=>ns
def seI(ns:List af)(n:Int)(s:ah):Int:=if uH ns n=true then(if pI s=true then 0 else 4)else 1
theorem lP(ns:List af)(hl:ns.length<=1048576)(hs:∀y∈ns,af.small y)(n:Int)(s:ah):yq prog 14 [.agg [.view (vwA af.ac ns)],ai n,.agg (lc (ah.c s))] fun lo res hj=>(∃b0,res= .tup [.agg [.fv b0 (vwA af.ac (seN ns n s))],ai (seI ns n s)]/\jl lo b0)/\eP res=true/\hj=[]:=by
 have ck:=fF ns hl hs
 have cT:=fd ns hl hs
 have cS:=fG s
 obtain⟨M,hM⟩:=nmE (vwA af.ac ns)
 have hk:az M=(ns.length:Int):=by rw [aw,hM,aQ]
 have cn:=bW M n
 have hm:isN ns n=rng n 1 (az M):=by rw [hk];rfl
 rw [<-hm]at cn
 obtain⟨W,hW⟩:=nmE (vwA af.ac (seN ns n s))
 obtain⟨AI,hb⟩:=nmE (seI ns n s)
 have hh:uH ns n=false->W=M/\AI=1:=fun h=>⟨by rw [hW,hM];unfold seN;rw [h];rfl,by rw [hb];unfold seI;rw [if_neg (by rw [h];decide)]⟩
 have hn:uH ns n=true->pI s=false->W=M/\AI=4:=fun h h'=>⟨by rw [hW,hM];unfold seN;rw [h,h'];rfl,by rw [hb];unfold seI;rw [if_pos h,if_neg (by rw [h'];decide)]⟩
 have ho:uH ns n=true->pI s=true->AI=0/\0<=n-1/\(n-1).toNat<M.length/\n<=1048576/\∃u K R t m,M[(n-1).toNat]? =some (gR u K R t m)/\W=M.set (n-1).toNat (gR u K R s m):=fun h h'=>by
  have hi:isN ns n=true:=by unfold uH at h;simp only [zqs]at h;exact h.2
  obtain⟨i1,i2,x,hx⟩:=aR hi
  refine⟨by rw [hb];unfold seI;rw [if_pos h,if_pos h'],by omega,by rw [hM,aQ];exact(List.getElem?_eq_some_iff.1 hx).1,by omega,x.up,vw aj x.kids,vw aJ.c x.table.rules,x.style,x.measured,by rw [hM];exact e9 hx,?_⟩
  rw [hW,hM];unfold seN;rw [h,h',hx];exact qP ns _ _
 rw [<-hM]at ck cT
 rw [<-hM,<-hW,<-hb]
 clear hm hk hM hW hb
 refine lj ([]) ([]) (c:=aM f14) aB func14 (by kernel_rfl) (by kernel_rfl) (by rfl) (by kernel_rfl) fun β g hq hd F hp hr hg hF=> ?_
 cbv
 refine ph hg ck (fD rfl) (fun lo E h=>dl h.bare) (fun lo E q1 q2 q3 hE=> ?_)
 clear q2 q3
 replace hE:ei 64 E M β.lo:=⟨hE.kk,hE.bare,hE.eq,hE.new.mono q1⟩
 clear q1
 cbv
 cases hTB:bi ns
 case false=>
  rw [hTB]at cT
  refine ad hg cT ?_
  cbv
  obtain⟨h1,h2⟩:=hh (by unfold uH;rw [hTB];rfl)
  rw [h1,h2]at hF
  refine gI hF fun bl ha=>⟨[.agg [.fv (hd1 (bl 3) E++fpE E) M],ai 1],.agg (.cons (bq rfl hE) .nil) (.c (.imm _) .nil),⟨_,rfl,da ha (r:=3) (ab:=⟨_,_,E⟩) rfl hE.new⟩,rfl,rfl⟩
 rw [hTB]at cT
 refine ad hg cT ?_
 cbv
 cases hN:isN ns n
 case false=>
  rw [hN]at cn
  refine ad hg cn ?_
  cbv
  obtain⟨h1,h2⟩:=hh (by unfold uH;rw [hTB,hN];rfl)
  rw [h1,h2]at hF
  refine gI hF fun bl ha=>⟨[.agg [.fv (hd1 (bl 3) E++fpE E) M],ai 1],.agg (.cons (bq rfl hE) .nil) (.c (.imm _) .nil),⟨_,rfl,da ha (r:=3) (ab:=⟨_,_,E⟩) rfl hE.new⟩,rfl,rfl⟩
 rw [hN]at cn
 refine ad hg cn ?_
 cbv
 cases hSO:pI s
 case false=>
  rw [hSO]at cS
  refine ad hg cS ?_
  cbv
  obtain⟨h1,h2⟩:=hn (by unfold uH;rw [hTB,hN];rfl) hSO
  rw [h1,h2]at hF
  refine gI hF fun bl ha=>⟨[.agg [.fv (hd1 (bl 3) E++fpE E) M],ai 4],.agg (.cons (bq rfl hE) .nil) (.c (.imm _) .nil),⟨_,rfl,da ha (r:=3) (ab:=⟨_,_,E⟩) rfl hE.new⟩,rfl,rfl⟩
 rw [hSO]at cS
 refine ad hg cS ?_
 cbv
 obtain⟨hA,z0,z1,z2,u,K,R,t,m,hMj,hW⟩:=ho (by unfold uH;rw [hTB,hN];rfl) hSO
 clear hh hn ho
 obtain⟨b1,b2,he⟩:=hE.node hMj
 have hc:=hE.set (y:=mj u K R s m b1 b2) (v:=gR u K R s m) he rfl rfl rfl rfl
 rw [<-hW]at hc
 have es:g .w .sub .i64 n 1=n-1:=by rw [d4 hg,aq _ (by omega)]
 rw [es]
 refine Cv hg z0 rfl (by rw [hE.len];exact z1) ?_
 cbv
 refine⟨_,he,?_⟩
 cbv
 rw [px hg]
 rw [hA]at hF
 obtain⟨E2,hf⟩:=nmE (E.set (n-1).toNat (mj u K R s m b1 b2))
 rw [<-hf]at hc
 refine gI hF fun bl ha=>⟨[.agg [.fv (hd1 (bl 3) E2++fpE E2) W],ai 0],.agg (.cons (bq (t:=55) (k:=64) (by rw [hf];rfl) hc) .nil) (.c (.imm _) .nil),⟨_,rfl,da ha (r:=3) (ab:=⟨55,64,E2⟩) (by rw [hf];rfl) hc.new⟩,rfl,rfl⟩
variable {a b:List Nat}
theorem jl.perm(h:jl lo a)(hp:a.Perm b):jl lo b:=⟨hp.nodup_iff.1 h.1,fun x hx=>h.2 x (hp.mem_iff.2 hx)⟩
theorem jl.sub(h:jl lo b)(hp:a.Sublist b):jl lo a:=⟨h.1.sublist hp,fun x hx=>h.2 x (hp.subset hx)⟩
theorem tn{x:af}{s:ah}(h:x.small):af.small {x with style:=s}:=by
 obtain⟨a0,a1,⟨a2,a3,a4,a5,a6,a7,a8,a9,ha,hb,hc,⟨hd,he⟩,⟨hf,hg⟩,⟨hh,hi⟩,⟨hj,hk⟩,⟨hl,hm⟩,⟨hn,ho⟩,⟨hp,hq⟩,hr,⟨⟨hs,ht⟩,⟨hu,hv⟩,⟨hw,hx⟩,⟨hy,hz⟩,⟨hA,hB⟩,⟨hC,hD⟩⟩,⟨⟨hE,hF⟩,⟨hG,hH⟩,⟨hI,hJ⟩,⟨hK,hL⟩,⟨hM,hN⟩,⟨hO,hP⟩⟩,⟨hQ,hR,hS,hT⟩,⟨hU,hV,hW,hX⟩,hY,hZ⟩,h0,⟨h1⟩⟩:=x
 exact h
theorem Av(ns:List af)(hl:ns.length<=1048576)(hs:∀y∈ns,af.small y)(n:Int)(s:ah):(seN ns n s).length<=1048576/\(∀y∈seN ns n s,af.small y)/\(seI ns n s≠0->seN ns n s=ns):=by
 unfold seN seI
 cases h1:uH ns n<;>cases h2:pI s<;>cases h3:ns[(n-1).toNat]? <;>first|exact⟨hl,hs,fun _=>rfl⟩|skip
 rename_i x
 refine⟨by simpa using hl,fun y hy=> ?_,fun h=>absurd rfl h⟩
 rcases List.mem_or_eq_of_mem_set hy with h|h
 ·exact hs y h
 ·rw [h];exact tn (hs x (zqd h3))
theorem sw(u:Int)(K R:LLA)(s:ah)(m:Bool)(b1 b2:List Nat):fpL (mj u K R s m b1 b2)=b1++b2:=by
 show b1++(b2++[])=_
 rw [List.append_nil]
theorem vz{E:LLA}{e:List AC}(he:E[j]? =some e):∃A B,E=A++e::B/\∀y,E.set j y=A++y::B:=by
 obtain⟨hj,rfl⟩:=List.getElem?_eq_some_iff.1 he
 refine⟨E.take j,E.drop (j+1),?_,fun y=> ?_⟩
 ·exact(List.take_append_drop j E).symm.trans (by rw [List.drop_eq_getElem_cons hj])
 ·rw [List.set_eq_take_append_cons_drop,if_pos hj]
theorem ei.put{k lo lo':Nat}(h:ei k E V lo){e y v:List AC}(he:E[j]? =some e)(hy:y.map vwC=v)(hk:y.length=k)(hb:y.all ji=true){b1 bn:List Nat}(hf:(fpL y).Perm (b1++bn))(hs:b1.Sublist (fpL e))(hn:jl lo' bn)(hlo:lo<=lo')(hlt:∀b∈fpE E,b<lo'):ei k (E.set j y) (V.set j v) lo:=
 ⟨fun x hx=>(List.mem_or_eq_of_mem_set hx).elim (h.kk x) fun h1=>by rw [h1];exact hk,fun x hx=>(List.mem_or_eq_of_mem_set hx).elim (h.bare x) fun h1=>by rw [h1];exact hb,by rw [List.map_set,h.eq,hy],by
  obtain⟨A,B,h1,h2⟩:=vz he
  have hE:fpE E=fpE A++(fpL e++fpE B):=by rw [h1,o8];rfl
  rw [h2 y]
  have hc:fpE (A++y::B)=fpE A++(fpL y++fpE B):=by rw [o8];rfl
  rw [hc]
  have ha:(fpE A++(b1++fpE B)).Sublist (fpE E):=by rw [hE];exact List.Sublist.append (List.Sublist.refl _) (List.Sublist.append hs (List.Sublist.refl _))
  have h3:jl lo (fpE A++(b1++fpE B)):=h.new.sub ha
  refine(h3.app hlo hn fun b hb=>hlt b (ha.subset hb)).perm (List.perm_iff_count.2 fun a=> ?_)
  have:=List.perm_iff_count.1 hf a
  simp only [List.count_append]at this⊢
  omega⟩
end Go.Proofs.YtbnplcingdgaaaaGreat
namespace Go.Proofs.YtbnplcingdgaaaaGreat
open Go.ChangeShapes Go.WideShapes Go.ChangeAt Go.RowKit
set_option maxRecDepth 100000
def bM(s:bH)(sd:Int)(rtl:Bool):jm:=
 if sd=1 then s.top else if sd=3 then s.bottom
 else if sd=0 then(if(if rtl then s.fin else s.start).kind≠0 then(if rtl then s.fin else s.start)else s.left)
 else if sd=2 then(if(if rtl then s.start else s.fin).kind≠0 then(if rtl then s.start else s.fin)else s.right)else⟨0,0⟩
theorem oY(s:bH)(sd:Int)(rtl:Bool)(w:World):
  Calls Tryz.prog 125 #[.agg #[.int .i64 s.left.kind,.int .i64 s.left.n,.int .i64 s.top.kind,.int .i64 s.top.n,.int .i64 s.right.kind,.int .i64 s.right.n,.int .i64 s.bottom.kind,.int .i64 s.bottom.n,.int .i64 s.start.kind,.int .i64 s.start.n,.int .i64 s.fin.kind,.int .i64 s.fin.n],.int .i64 sd,.bool rtl] w fun e w'=>e= .returned (.agg #[.int .i64 (bM s sd rtl).kind,.int .i64 (bM s sd rtl).n])/\Below w.heap.size w w':=by
 by_cases h1:sd=1
 ·subst h1
  cases rtl
  ·go_enter Tryz.func125,Tryz.ntmps125
   go_wp2
   go_region
   all_goals go_wp2
   all_goals(try go_wp2)
   all_goals(refine bodyPost_ret (v:= .agg #[.int .i64 (bM s 1 false).kind,.int .i64 (bM s 1 false).n]) (by simp [results,Tryz.results125,go_sem,bM, *]) rfl ?_)
   all_goals exact⟨rfl,by repeat(first|(with_reducible exact db _)|(with_reducible assumption)|(with_reducible refine Below.setCell ?_ (by first|omega|(simp;done)|(simp;omega)) _)|(with_reducible refine bm ?_ _)|(with_reducible refine Below.drew ?_)|(with_reducible refine aG ?_ (by with_reducible assumption))|(with_reducible refine aG ?_ (bN _ _)))⟩
  ·go_enter Tryz.func125,Tryz.ntmps125
   go_wp2
   go_region
   all_goals go_wp2
   all_goals(try go_wp2)
   all_goals(refine bodyPost_ret (v:= .agg #[.int .i64 (bM s 1 true).kind,.int .i64 (bM s 1 true).n]) (by simp [results,Tryz.results125,go_sem,bM, *]) rfl ?_)
   all_goals exact⟨rfl,by repeat(first|(with_reducible exact db _)|(with_reducible assumption)|(with_reducible refine Below.setCell ?_ (by first|omega|(simp;done)|(simp;omega)) _)|(with_reducible refine bm ?_ _)|(with_reducible refine Below.drew ?_)|(with_reducible refine aG ?_ (by with_reducible assumption))|(with_reducible refine aG ?_ (bN _ _)))⟩
 by_cases h3:sd=3
 ·subst h3
  cases rtl
  ·go_enter Tryz.func125,Tryz.ntmps125
   go_wp2
   go_region
   all_goals go_wp2
   all_goals(try go_wp2)
   all_goals(refine bodyPost_ret (v:= .agg #[.int .i64 (bM s 3 false).kind,.int .i64 (bM s 3 false).n]) (by simp [results,Tryz.results125,go_sem,bM, *]) rfl ?_)
   all_goals exact⟨rfl,by repeat(first|(with_reducible exact db _)|(with_reducible assumption)|(with_reducible refine Below.setCell ?_ (by first|omega|(simp;done)|(simp;omega)) _)|(with_reducible refine bm ?_ _)|(with_reducible refine Below.drew ?_)|(with_reducible refine aG ?_ (by with_reducible assumption))|(with_reducible refine aG ?_ (bN _ _)))⟩
  ·go_enter Tryz.func125,Tryz.ntmps125
   go_wp2
   go_region
   all_goals go_wp2
   all_goals(try go_wp2)
   all_goals(refine bodyPost_ret (v:= .agg #[.int .i64 (bM s 3 true).kind,.int .i64 (bM s 3 true).n]) (by simp [results,Tryz.results125,go_sem,bM, *]) rfl ?_)
   all_goals exact⟨rfl,by repeat(first|(with_reducible exact db _)|(with_reducible assumption)|(with_reducible refine Below.setCell ?_ (by first|omega|(simp;done)|(simp;omega)) _)|(with_reducible refine bm ?_ _)|(with_reducible refine Below.drew ?_)|(with_reducible refine aG ?_ (by with_reducible assumption))|(with_reducible refine aG ?_ (bN _ _)))⟩
 by_cases h0:sd=0
 ·subst h0
  cases rtl
  ·by_cases hk:s.start.kind=0
   ·go_enter Tryz.func125,Tryz.ntmps125
    go_wp2
    go_region
    all_goals go_wp2
    all_goals(try go_wp2)
    all_goals(refine bodyPost_ret (v:= .agg #[.int .i64 (bM s 0 false).kind,.int .i64 (bM s 0 false).n]) (by simp [results,Tryz.results125,go_sem,bM, *]) rfl ?_)
    all_goals exact⟨rfl,by repeat(first|(with_reducible exact db _)|(with_reducible assumption)|(with_reducible refine Below.setCell ?_ (by first|omega|(simp;done)|(simp;omega)) _)|(with_reducible refine bm ?_ _)|(with_reducible refine Below.drew ?_)|(with_reducible refine aG ?_ (by with_reducible assumption))|(with_reducible refine aG ?_ (bN _ _)))⟩
   ·go_enter Tryz.func125,Tryz.ntmps125
    go_wp2
    go_region
    all_goals go_wp2
    all_goals(try go_wp2)
    all_goals(refine bodyPost_ret (v:= .agg #[.int .i64 (bM s 0 false).kind,.int .i64 (bM s 0 false).n]) (by simp [results,Tryz.results125,go_sem,bM, *]) rfl ?_)
    all_goals exact⟨rfl,by repeat(first|(with_reducible exact db _)|(with_reducible assumption)|(with_reducible refine Below.setCell ?_ (by first|omega|(simp;done)|(simp;omega)) _)|(with_reducible refine bm ?_ _)|(with_reducible refine Below.drew ?_)|(with_reducible refine aG ?_ (by with_reducible assumption))|(with_reducible refine aG ?_ (bN _ _)))⟩
  ·by_cases hk:s.fin.kind=0
   ·go_enter Tryz.func125,Tryz.ntmps125
    go_wp2
    go_region
    all_goals go_wp2
    all_goals(try go_wp2)
    all_goals(refine bodyPost_ret (v:= .agg #[.int .i64 (bM s 0 true).kind,.int .i64 (bM s 0 true).n]) (by simp [results,Tryz.results125,go_sem,bM, *]) rfl ?_)
    all_goals exact⟨rfl,by repeat(first|(with_reducible exact db _)|(with_reducible assumption)|(with_reducible refine Below.setCell ?_ (by first|omega|(simp;done)|(simp;omega)) _)|(with_reducible refine bm ?_ _)|(with_reducible refine Below.drew ?_)|(with_reducible refine aG ?_ (by with_reducible assumption))|(with_reducible refine aG ?_ (bN _ _)))⟩
   ·go_enter Tryz.func125,Tryz.ntmps125
    go_wp2
    go_region
    all_goals go_wp2
    all_goals(try go_wp2)
    all_goals(refine bodyPost_ret (v:= .agg #[.int .i64 (bM s 0 true).kind,.int .i64 (bM s 0 true).n]) (by simp [results,Tryz.results125,go_sem,bM, *]) rfl ?_)
    all_goals exact⟨rfl,by repeat(first|(with_reducible exact db _)|(with_reducible assumption)|(with_reducible refine Below.setCell ?_ (by first|omega|(simp;done)|(simp;omega)) _)|(with_reducible refine bm ?_ _)|(with_reducible refine Below.drew ?_)|(with_reducible refine aG ?_ (by with_reducible assumption))|(with_reducible refine aG ?_ (bN _ _)))⟩
 by_cases h2:sd=2
 ·subst h2
  cases rtl
  ·by_cases hk:s.fin.kind=0
   ·go_enter Tryz.func125,Tryz.ntmps125
    go_wp2
    go_region
    all_goals go_wp2
    all_goals(try go_wp2)
    all_goals(refine bodyPost_ret (v:= .agg #[.int .i64 (bM s 2 false).kind,.int .i64 (bM s 2 false).n]) (by simp [results,Tryz.results125,go_sem,bM, *]) rfl ?_)
    all_goals exact⟨rfl,by repeat(first|(with_reducible exact db _)|(with_reducible assumption)|(with_reducible refine Below.setCell ?_ (by first|omega|(simp;done)|(simp;omega)) _)|(with_reducible refine bm ?_ _)|(with_reducible refine Below.drew ?_)|(with_reducible refine aG ?_ (by with_reducible assumption))|(with_reducible refine aG ?_ (bN _ _)))⟩
   ·go_enter Tryz.func125,Tryz.ntmps125
    go_wp2
    go_region
    all_goals go_wp2
    all_goals(try go_wp2)
    all_goals(refine bodyPost_ret (v:= .agg #[.int .i64 (bM s 2 false).kind,.int .i64 (bM s 2 false).n]) (by simp [results,Tryz.results125,go_sem,bM, *]) rfl ?_)
    all_goals exact⟨rfl,by repeat(first|(with_reducible exact db _)|(with_reducible assumption)|(with_reducible refine Below.setCell ?_ (by first|omega|(simp;done)|(simp;omega)) _)|(with_reducible refine bm ?_ _)|(with_reducible refine Below.drew ?_)|(with_reducible refine aG ?_ (by with_reducible assumption))|(with_reducible refine aG ?_ (bN _ _)))⟩
  ·by_cases hk:s.start.kind=0
   ·go_enter Tryz.func125,Tryz.ntmps125
    go_wp2
    go_region
    all_goals go_wp2
    all_goals(try go_wp2)
    all_goals(refine bodyPost_ret (v:= .agg #[.int .i64 (bM s 2 true).kind,.int .i64 (bM s 2 true).n]) (by simp [results,Tryz.results125,go_sem,bM, *]) rfl ?_)
    all_goals exact⟨rfl,by repeat(first|(with_reducible exact db _)|(with_reducible assumption)|(with_reducible refine Below.setCell ?_ (by first|omega|(simp;done)|(simp;omega)) _)|(with_reducible refine bm ?_ _)|(with_reducible refine Below.drew ?_)|(with_reducible refine aG ?_ (by with_reducible assumption))|(with_reducible refine aG ?_ (bN _ _)))⟩
   ·go_enter Tryz.func125,Tryz.ntmps125
    go_wp2
    go_region
    all_goals go_wp2
    all_goals(try go_wp2)
    all_goals(refine bodyPost_ret (v:= .agg #[.int .i64 (bM s 2 true).kind,.int .i64 (bM s 2 true).n]) (by simp [results,Tryz.results125,go_sem,bM, *]) rfl ?_)
    all_goals exact⟨rfl,by repeat(first|(with_reducible exact db _)|(with_reducible assumption)|(with_reducible refine Below.setCell ?_ (by first|omega|(simp;done)|(simp;omega)) _)|(with_reducible refine bm ?_ _)|(with_reducible refine Below.drew ?_)|(with_reducible refine aG ?_ (by with_reducible assumption))|(with_reducible refine aG ?_ (bN _ _)))⟩
 have g1:(sd==1)=false:=by simpa using h1
 have g3:(sd==3)=false:=by simpa using h3
 have g0:(sd==0)=false:=by simpa using h0
 have g2:(sd==2)=false:=by simpa using h2
 cases rtl
 ·go_enter Tryz.func125,Tryz.ntmps125
  go_wp2
  go_region
  all_goals go_wp2
  all_goals(try go_wp2)
  all_goals(refine bodyPost_ret (v:= .agg #[.int .i64 (bM s sd false).kind,.int .i64 (bM s sd false).n]) (by simp [results,Tryz.results125,go_sem,bM, *]) rfl ?_)
  all_goals exact⟨rfl,by repeat(first|(with_reducible exact db _)|(with_reducible assumption)|(with_reducible refine Below.setCell ?_ (by first|omega|(simp;done)|(simp;omega)) _)|(with_reducible refine bm ?_ _)|(with_reducible refine Below.drew ?_)|(with_reducible refine aG ?_ (by with_reducible assumption))|(with_reducible refine aG ?_ (bN _ _)))⟩
 ·go_enter Tryz.func125,Tryz.ntmps125
  go_wp2
  go_region
  all_goals go_wp2
  all_goals(try go_wp2)
  all_goals(refine bodyPost_ret (v:= .agg #[.int .i64 (bM s sd true).kind,.int .i64 (bM s sd true).n]) (by simp [results,Tryz.results125,go_sem,bM, *]) rfl ?_)
  all_goals exact⟨rfl,by repeat(first|(with_reducible exact db _)|(with_reducible assumption)|(with_reducible refine Below.setCell ?_ (by first|omega|(simp;done)|(simp;omega)) _)|(with_reducible refine bm ?_ _)|(with_reducible refine Below.drew ?_)|(with_reducible refine aG ?_ (by with_reducible assumption))|(with_reducible refine aG ?_ (bN _ _)))⟩
end Go.Proofs.YtbnplcingdgaaaaGreat
namespace Go.Proofs.YtbnplcingdgaaaaGreat
open Go.ChangeShapes Go.WideShapes Go.ChangeAt Go.RowKit Am Go.Proofs.Tryz
set_option maxRecDepth 100000
variable {F:Nat->Prop}{w:World}
theorem s6{a:Array Value}{u:Value}(h:RT F w [] [] (.agg (lc a)) u):u= .agg a:=by
 obtain⟨vs,rfl,hl,hc⟩:=h
 have ha:vs.length=a.toList.length:=by rw [hl];simp [lc]
 have:vs=a.toList:=by
  refine List.ext_getElem? fun i=> ?_
  by_cases hi:i<a.toList.length
  ·have h1:=zqc hi
   obtain⟨u,hu,_,hr⟩:=hc i (.imm a.toList[i]) (by simp [lc,h1])
   rw [hu,h1]
   exact congrArg some hr
  ·rw [zqz (by omega),zqz (by omega)]
 rw [this]
theorem vV:∀(j:Nat)(x:AT)(u:Value),([]:List AT)[j]? =some x->RT F w [] [] x u->([]:List Value)[j]? =some u:=fun j x u h=>by simp at h
theorem km{x:AT}{v:Value}{xs:List AT}{vs:List Value}(h1:∀u,RT F w [] [] x u->u=v)(h2:∀(j:Nat)(x:AT)(u:Value),xs[j]? =some x->RT F w [] [] x u->vs[j]? =some u):
  ∀(j:Nat)(y:AT)(u:Value),(x::xs)[j]? =some y->RT F w [] [] y u->(v::vs)[j]? =some u:=fun j y u h hr=>by
 cases j with
 |zero=>simp only [zqw,zqy]at h;subst h;rw [h1 u hr];rfl
 |succ j=>exact h2 j y u (by simpa using h) hr
theorem jF(s:bH)(sd:Int)(rtl:Bool):PC0 125 [.agg (lc (bH.c s)),ai sd,abl rtl] (.t (agV (pT s sd rtl))):=
 oH (us:=[.agg (bH.c s),.int .i64 sd,.bool rtl]) (v:= .agg #[.int .i64 (pT s sd rtl).kind,.int .i64 (pT s sd rtl).n]) (by kernel_rfl) rfl
  (fun F w=>km (fun u h=>s6 h) (km (fun u h=>h) (km (fun u h=>h) vV)))
  (fun F w=>⟨[.int .i64 (pT s sd rtl).kind,.int .i64 (pT s sd rtl).n],rfl,rfl,fun j c hj=>by
   match j,hj with
   |0,hj=>cases hj;exact⟨_,rfl,rfl,rfl⟩
   |1,hj=>cases hj;exact⟨_,rfl,rfl,rfl⟩⟩)
  (fun w=>oY s sd rtl w)
end Go.Proofs.YtbnplcingdgaaaaGreat
