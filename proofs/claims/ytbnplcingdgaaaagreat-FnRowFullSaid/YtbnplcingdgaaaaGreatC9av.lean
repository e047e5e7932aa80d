/- A child is taken out. -/
import Derived.Test.YtbnplcingdgaaaaGreatC9au
set_option linter.unusedVariables false
set_option linter.unusedSimpArgs false
set_option maxHeartbeats 16000000
namespace Go.Proofs.YtbnplcingdgaaaaGreat
open Go.ChangeShapes Go.WideShapes Go.ChangeAt Go.RowKit Am Go.Proofs.Tryz
set_option maxRecDepth 100000
structure fg(k:Nat)(E V:LLA)(lo:Nat):Prop where
 kk:∀e∈E,e.length=k
 bare:∀e∈E,e.all jI=true
 eq:E.map (·.map vwC)=V
 new:jO lo (fpE E)
theorem pU(a b:LLA):fpE (a++b)=fpE a++fpE b:=List.flatMap_append ..
theorem fg.nil(k lo:Nat):fg k [] [] lo:=⟨fun e h=>by simp at h,fun e h=>by simp at h,rfl,jO.nil lo⟩
variable {E V:LLA}
theorem fg.len{k lo:Nat}(h:fg k E V lo):E.length=V.length:=by rw [<-h.eq,zql]
structure ny(k:Nat)(V es:LLA)(z:Int)(lo:Nat):Prop where
 z0:0<=z
 z1:z<=aD V
 cp:fg k es (V.take z.toNat) lo
theorem ny.start(k:Nat)(V:LLA)(lo:Nat):ny k V [] 0 lo:=⟨Int.le_refl 0,by rw [az];omega,fg.nil k lo⟩
variable {lo:Nat}{k:Nat}{z:Int}
theorem ny.len{V es:LLA}(h:ny k V es z lo):es.length<=V.length:=by rw [h.cp.len,List.length_take];omega
theorem ny.done{V es:LLA}(h:ny k V es z lo)(hz:¬z<aD V):fg k es V lo:=by
 have:=h.cp
 rwa [List.take_of_length_le (by rw [az]at hz;omega)]at this
theorem pT{ab:AB}:∀(h:EH)(r:Nat),h[r]? =some (.rw ab)->∀b∈fpE ab.es,b∈fpH h
 | [],r,hr,b,hb=>by simp at hr
 |e::h,0,hr,b,hb=>by simp at hr;subst hr;exact List.mem_append_left _ hb
 |e::h,r+1,hr,b,hb=>by have:=pT h r (by simpa using hr) b hb;cases e<;>first|exact List.mem_append_right _ this|exact this
variable {es:LLA}
theorem AG{P:Program}{n0 N:Nat}{β:BP}{g:Gd}(hg:g=G0 P n0 N){t k by_:Nat}{y:List AC}{q:Prop}(hk:y.length=k)(hb:by_<=65536)(hl:es.length<=1048576)(hq:q):
  g .N ((∀x,x∈[y]->x.length=k)/\((AB.mk t k es).es.length+[y].length)*by_<=140737488355328/\(AB.mk t k es).es.length+[y].length<=4611686018427387904) q:=
 goN hg ⟨fun x hx=>by rw [List.mem_singleton.1 hx];exact hk,Nat.le_trans (Nat.mul_le_mul (show es.length+1<=1048577 by omega) hb) (by decide),by show es.length+1<=_;omega⟩ hq
theorem bQ{bl:Nat->Nat}{h:AH}{r t k k' lo:Nat}(hr:h[r]? =some (.live ⟨t,k,E⟩))(hc:fg k' E V lo):oL bl h (.own r) (.fv (hd1 (bl r) E++fpE E) V):=by
 have:=qB (bl:=bl) hr hc.bare
 rw [hc.eq]at this
 exact this
section
variable {P:Program}{n0 N:Nat}{g:Gd}
end
theorem ny.step2{V es:LLA}{y v:List AC}(h:ny k V es z lo)(hv:V[z.toNat]? =some v)(hy:y.map vwC=v)(hk:y.length=k)(hb:y.all jI=true)(hn:jO lo (fpL y))(hd:∀b∈fpE es,b∉fpL y):ny k V (es++[y]) (z+1) lo:=by
 have h0:=h.z0
 have hl:=(List.getElem?_eq_some_iff.1 hv).1
 refine⟨by omega,by rw [az];omega,⟨fun e he=> ?_,fun e he=> ?_,?_,?_⟩⟩
 ·rcases List.mem_append.1 he with h1|h1
  ·exact h.cp.kk e h1
  ·rw [List.mem_singleton.1 h1];exact hk
 ·rcases List.mem_append.1 he with h1|h1
  ·exact h.cp.bare e h1
  ·rw [List.mem_singleton.1 h1];exact hb
 ·rw [show(z+1).toNat=z.toNat+1 by omega,List.take_add_one,hv,List.map_append,h.cp.eq,<-hy];rfl
 ·rw [pU,show fpE [y]=fpL y from List.append_nil _]
  exact⟨List.nodup_append.2 ⟨h.cp.new.1,hn.1,fun a h1 b h2 he=>by subst he;exact hd a h1 h2⟩,fun b ha=>(List.mem_append.1 ha).elim (h.cp.new.2 b) (hn.2 b)⟩
theorem wB{b:Nat}(hi:rV es=true):(AC.fv (hd1 b es++fpE es) (es.map (·.map vwC)))= .fv (hd1 b es) es:=by rw [Cu hi,Cv hi,List.append_nil]
theorem m9(hi:rV es=true):∀e∈es,e.all jI=true:=fun e he=>List.all_eq_true.2 fun c hc=>by obtain⟨u,rfl⟩:=wy hi e he c hc;rfl
section
variable {P:Program}{n0 N:Nat}{g:Gd}
theorem se{β:BP}(hg:g=G0 P n0 N){h:EH}{f:FuncId}{args args':List AT}{K:AV->EH->Prop}{t k:Nat}{Q:Nat->LLA->Prop}(hc:Bj P f args' fun lo res hb=>∃E,res= .t (.agg [.own 0])/\hb=[⟨t,k,E⟩]/\Q lo E)(ha:dwA args args')
  (hp:∀lo E,Q lo E->aN E=true)
  (hK:∀lo E,BP.lo<=lo->(∀b∈fpH h,b<lo)->(∀b∈fpA args,b<lo)->Q lo E->K (.t (.agg [.own (jA h)])) (h++[.rw ⟨t,k,E⟩])):g .C f h args K:=
 DE hg hc ha fun lo res hb h1 h2 h3⟨E,hres,hrows,hQ⟩=>by
  subst hres hrows
  refine⟨[.rw ⟨t,k,E⟩],?_,?_⟩
  ·simp only [zqA,List.map_nil,fF (ab:=⟨t,k,E⟩) (hp lo E hQ)];rfl
  ·have:=hK lo E h1 h2 h3 hQ
   rw [bL]at this
   rw [aV];exact this
theorem CH{β:BP}{F:List AT->EH->Prop}{Post:AV->List AB->Prop}{r:Nat}{eh:EH}{ab:AB}(hF:F=fun xs eh=>BH Post xs (toH eh))(hr:nth eh r=some (.rw ab))(hp:aN ab.es=true)(hpost:Post (.t (.agg [.own 0])) [ab]):F [.agg [.own r]] eh:=by
 subst hF
 refine .inl ⟨.t (.agg [.own 0]),[.live ab],[some r],⟨Nat.zero_le _,fun i hi=>absurd hi (Nat.not_lt_zero _),by simp,?_,?_⟩,[ab],rfl,hpost⟩
 ·simp only [rnH,zqw,dt hr]
  exact⟨fun h=>absurd h (Nat.not_lt_zero _),⟨by first|trivial|rfl,by first|trivial|rfl,.inl ⟨by first|trivial|rfl,hp⟩⟩,trivial⟩
 ·exact⟨.inr zr1,trivial⟩
end
theorem jm(ns:List af)(hl:ns.length<=1048576)(hs:∀y∈ns,af.small y):Bj prog 18 [.agg [.view (vwA af.ac ns)]] fun lo res xE=>∃E,res= .t (.agg [.own 0])/\xE=[⟨55,64,E⟩]/\fg 64 E (vwA af.ac ns) lo:=by
 obtain⟨M,hM⟩:=nmE (vwA af.ac ns)
 have xN:M.length=ns.length:=by rw [hM,bm]
 have xO:aD M=(ns.length:Int):=by rw [az,xN]
 have xS:aD M<=1048576:=by omega
 rw [<-hM]
 refine oT ([(6,.hand),(7,.hand)]) ([]) (c:=aP f18) aC func18 (by kernel_rfl) (by kernel_rfl) (by rfl) (by kernel_rfl) fun β g xR hd F xw xy hg hF=> ?_
 cbv
 refine fB [(6,.hand),(7,.hand)] [] xw xy hg aC (by kernel_rfl) (fun s:Int×LLA=>[(1,.p 3),(2,.p 0),(3,.p 1),(4,.i (s.1))]) (fun s=>[.bx 38 1 [.N],.bx 38 1 [.own 2],.rw ⟨55,64,s.2⟩,.bx 38 1 [.view M]]) (fun s=>ny 64 M s.2 s.1 β.lo) (fun s=>(aD M).toNat-s.1.toNat)
  (0,[]) (ny.start 64 M β.lo) (Wk.weak (wkG [some 1,some 2,none,some 0] zr4 ⟨wqE rfl rfl,⟨_,_,rfl,rfl,rfl,rfl,.inr ⟨zr1,trivial⟩⟩,⟨_,rfl,rfl⟩,wqE rfl rfl,trivial⟩ (by decide) aq)) (fun s B hq hB=> ?_)
 obtain⟨z,es⟩:=s
 simp only at hq
 have h0:=hq.z0
 have xQ:=hq.len
 cbv
 cases hc:g .q .lss z (g .ln M)
 ·rw [bD hg,bH hg,zqo]at hc
  cbv
  have hd:=hq.done hc
  exact CH hF rfl (dI hd.bare) ⟨es,rfl,rfl,hd⟩
 rw [bD hg,bH hg,zqp]at hc
 cbv
 obtain⟨x,hx⟩:=uI (xs:=ns) h0 (fT xO hc)
 have xK:=hs x (zqd hx)
 have hr:M[z.toNat]? =some x.ac:=by rw [hM];exact fE hx
 obtain⟨a0,a1,⟨a2,a3,a4,a5,a6,a7,a8,a9,hv,hw,hy,⟨hz,hA⟩,⟨hC,hD⟩,⟨hE,hG⟩,⟨hH,hI⟩,⟨hJ,hK⟩,⟨hL,hN⟩,⟨hO,hP⟩,hQ,⟨⟨hR,hS⟩,⟨hT,hU⟩,⟨hV,hW⟩,⟨hX,hY⟩,⟨hZ,h3⟩,⟨h4,h5⟩⟩,⟨⟨h6,h7⟩,⟨h8,h9⟩,⟨xa,xb⟩,⟨xc,xd⟩,⟨xe,xf⟩,⟨xg,xh⟩⟩,⟨xi,xj,xk,xl⟩,⟨xm,xn,xo,xp⟩,xq,xr⟩,xt,⟨xF⟩⟩:=x
 replace hr:M[z.toNat]? =some [.J a0,.view (vw aj a1),.J a2,.J a3,.J a4,.J a5,.J a6,.J a7,.B a8,.B a9,.J hv,.J hw,.J hy,.J hz,.J hA,.J hC,.J hD,.J hE,.J hG,.J hH,.J hI,.J hJ,.J hK,.J hL,.J hN,.J hO,.J hP,.J hQ,.J hR,.J hS,.J hT,.J hU,.J hV,.J hW,.J hX,.J hY,.J hZ,.J h3,.J h4,.J h5,.J h6,.J h7,.J h8,.J h9,.J xa,.J xb,.J xc,.J xd,.J xe,.J xf,.J xg,.J xh,.J xi,.J xj,.J xk,.J xl,.J xm,.J xn,.J xo,.J xp,.J xq,.J xr,.B xt,.view (vw aQ.c xF)]:=hr
 obtain⟨hm,hf⟩:=nmE (vw aj a1)
 have ho:=lmV hf
 have ht:=imV hf
 have xC:=kmV (k:=1) hf fun _=>rfl
 have xM:=dmV hf
 obtain⟨he,ha⟩:=nmE (vw aQ.c xF)
 have hi:=lmV ha
 have hh:=imV ha
 have hu:=kmV (k:=3) ha fun _=>rfl
 have xG:=dmV ha
 rw [<-hf,<-ha]at hr
 refine goX hg _ h0 hr rfl ?_
 cbv
 refine rZ xy aC [] [] 6 hm (m9 ht) rfl (by kernel_rfl) (fun g2 xu xP B2 xv xx hj hn=> ?_)
 cbv
 refine AF hj xC (by decide) (by rw [ho];exact xK.1) ?_
 cbv
 rw [jt hj,List.nil_append]
 refine hn _ _ _ _ rfl rfl (fun xL b1 p1 hp=> ?_)
 rw [wB ht]
 obtain⟨c1,xH⟩:=nmE (hd1 b1 hm)
 rw [<-xH]at hp⊢
 clear xH
 refine⟨[(1,.p 3),(2,.p 0),(3,.p 1),(4,.i (z)),(5,.p 4)],[.bx 38 1 [.N],.bx 38 1 [.own 2],.rw ⟨55,64,es⟩,.bx 38 1 [.view M],.bx 55 64 [.J a0,.fv c1 hm,.J a2,.J a3,.J a4,.J a5,.J a6,.J a7,.B a8,.B a9,.J hv,.J hw,.J hy,.J hz,.J hA,.J hC,.J hD,.J hE,.J hG,.J hH,.J hI,.J hJ,.J hK,.J hL,.J hN,.J hO,.J hP,.J hQ,.J hR,.J hS,.J hT,.J hU,.J hV,.J hW,.J hX,.J hY,.J hZ,.J h3,.J h4,.J h5,.J h6,.J h7,.J h8,.J h9,.J xa,.J xb,.J xc,.J xd,.J xe,.J xf,.J xg,.J xh,.J xi,.J xj,.J xk,.J xl,.J xm,.J xn,.J xo,.J xp,.J xq,.J xr,.B xt,.view he],.gn,.gn],⟨.inl rfl,.inl rfl,.inl rfl,.inl rfl,.inl rfl,trivial⟩,⟨⟨rfl,rfl,.inl rfl,trivial⟩,⟨rfl,rfl,.inl rfl,trivial⟩,.inl rfl,⟨rfl,rfl,.inl rfl,trivial⟩,⟨rfl,rfl,⟨.inl rfl,.inr (.inl ⟨rfl,rfl⟩),.inl rfl,.inl rfl,.inl rfl,.inl rfl,.inl rfl,.inl rfl,.inl rfl,.inl rfl,.inl rfl,.inl rfl,.inl rfl,.inl rfl,.inl rfl,.inl rfl,.inl rfl,.inl rfl,.inl rfl,.inl rfl,.inl rfl,.inl rfl,.inl rfl,.inl rfl,.inl rfl,.inl rfl,.inl rfl,.inl rfl,.inl rfl,.inl rfl,.inl rfl,.inl rfl,.inl rfl,.inl rfl,.inl rfl,.inl rfl,.inl rfl,.inl rfl,.inl rfl,.inl rfl,.inl rfl,.inl rfl,.inl rfl,.inl rfl,.inl rfl,.inl rfl,.inl rfl,.inl rfl,.inl rfl,.inl rfl,.inl rfl,.inl rfl,.inl rfl,.inl rfl,.inl rfl,.inl rfl,.inl rfl,.inl rfl,.inl rfl,.inl rfl,.inl rfl,.inl rfl,.inl rfl,.inl rfl,trivial⟩⟩,trivial,rfl,trivial⟩,?_⟩
 clear hn hj xx xv
 cbv
 refine rZ xy aC [] [] 8 he (m9 hh) rfl (by kernel_rfl) (fun g2 xu xP B2 xv xx hj hn=> ?_)
 cbv
 refine AF hj hu (by decide) (by rw [hi];exact xK.2.1) ?_
 cbv
 rw [jt hj,List.nil_append]
 refine hn _ _ _ _ rfl rfl (fun xD b2 q1 hk=> ?_)
 rw [wB hh]
 obtain⟨c2,xI⟩:=nmE (hd1 b2 he)
 rw [<-xI]at hk⊢
 clear xI
 refine⟨[(1,.p 3),(2,.p 0),(3,.p 1),(4,.i (z)),(5,.p 4)],[.bx 38 1 [.N],.bx 38 1 [.own 2],.rw ⟨55,64,es⟩,.bx 38 1 [.view M],.bx 55 64 [.J a0,.fv c1 hm,.J a2,.J a3,.J a4,.J a5,.J a6,.J a7,.B a8,.B a9,.J hv,.J hw,.J hy,.J hz,.J hA,.J hC,.J hD,.J hE,.J hG,.J hH,.J hI,.J hJ,.J hK,.J hL,.J hN,.J hO,.J hP,.J hQ,.J hR,.J hS,.J hT,.J hU,.J hV,.J hW,.J hX,.J hY,.J hZ,.J h3,.J h4,.J h5,.J h6,.J h7,.J h8,.J h9,.J xa,.J xb,.J xc,.J xd,.J xe,.J xf,.J xg,.J xh,.J xi,.J xj,.J xk,.J xl,.J xm,.J xn,.J xo,.J xp,.J xq,.J xr,.B xt,.fv c2 he],.gn,.gn,.gn,.gn],⟨.inl rfl,.inl rfl,.inl rfl,.inl rfl,.inl rfl,trivial⟩,⟨⟨rfl,rfl,.inl rfl,trivial⟩,⟨rfl,rfl,.inl rfl,trivial⟩,.inl rfl,⟨rfl,rfl,.inl rfl,trivial⟩,⟨rfl,rfl,⟨.inl rfl,.inl rfl,.inl rfl,.inl rfl,.inl rfl,.inl rfl,.inl rfl,.inl rfl,.inl rfl,.inl rfl,.inl rfl,.inl rfl,.inl rfl,.inl rfl,.inl rfl,.inl rfl,.inl rfl,.inl rfl,.inl rfl,.inl rfl,.inl rfl,.inl rfl,.inl rfl,.inl rfl,.inl rfl,.inl rfl,.inl rfl,.inl rfl,.inl rfl,.inl rfl,.inl rfl,.inl rfl,.inl rfl,.inl rfl,.inl rfl,.inl rfl,.inl rfl,.inl rfl,.inl rfl,.inl rfl,.inl rfl,.inl rfl,.inl rfl,.inl rfl,.inl rfl,.inl rfl,.inl rfl,.inl rfl,.inl rfl,.inl rfl,.inl rfl,.inl rfl,.inl rfl,.inl rfl,.inl rfl,.inl rfl,.inl rfl,.inl rfl,.inl rfl,.inl rfl,.inl rfl,.inl rfl,.inl rfl,.inr (.inl ⟨rfl,rfl⟩),trivial⟩⟩,trivial,trivial,trivial,rfl,trivial⟩,?_⟩
 clear hn hj xx xv
 have xz:∀b∈fpE es,b<xL:=fun b hb=>hp.old b (pT _ 2 rfl b hb)
 have xA:∀b∈fpE es,b<xD:=fun b hb=>hk.old b (pT _ 2 rfl b hb)
 have xB:∀b∈c1,b<xD:=fun b hb=>hk.old b (by simp [fpH,fpL,fpC,hb])
 have n1:jO xL c1:=⟨hp.nd,hp.ge⟩
 have n2:jO xD c2:=⟨hk.nd,hk.ge⟩
 clear hp hk
 cbv
 refine AG hg rfl (by decide) (by omega) ?_
 cbv
 have e1:g .w .add .i64 z 1=z+1:=by rw [aJ hg,aw _ (by omega)]
 rw [e1,jt hg]
 have xJ:=hq.step2 (y:=[.J a0,.fv c1 hm,.J a2,.J a3,.J a4,.J a5,.J a6,.J a7,.B a8,.B a9,.J hv,.J hw,.J hy,.J hz,.J hA,.J hC,.J hD,.J hE,.J hG,.J hH,.J hI,.J hJ,.J hK,.J hL,.J hN,.J hO,.J hP,.J hQ,.J hR,.J hS,.J hT,.J hU,.J hV,.J hW,.J hX,.J hY,.J hZ,.J h3,.J h4,.J h5,.J h6,.J h7,.J h8,.J h9,.J xa,.J xb,.J xc,.J xd,.J xe,.J xf,.J xg,.J xh,.J xi,.J xj,.J xk,.J xl,.J xm,.J xn,.J xo,.J xp,.J xq,.J xr,.B xt,.fv c2 he]) hr rfl rfl rfl (by
  have:=(n1.mono p1).app q1 n2 xB
  simpa [fpL,fpC]using this) (fun b hb=>by
  have h1:=xz b hb
  have h2:=xA b hb
  simp only [fpL,fpC,List.flatMap_cons,List.flatMap_nil,List.append_nil,List.nil_append,List.mem_append,not_or]
  exact⟨fun h=>by have:=n1.2 b h;omega,fun h=>by have:=n2.2 b h;omega⟩)
 rw [hB]
 skip
 exact⟨(z+1,_),xJ,by show(aD M).toNat-(z+1).toNat<(aD M).toNat-z.toNat;omega,Wk.weak (wkG [some 0,some 1,some 10,some 3] zr4 ⟨wqE rfl rfl,⟨_,_,rfl,rfl,rfl,rfl,.inr ⟨zr1,trivial⟩⟩,⟨_,_,rfl,rfl,rfl,rfl,.inl ⟨rfl,dI xJ.cp.bare⟩⟩,wqE rfl rfl,trivial⟩ (by decide) aq)⟩
def fM(s:ah):af:=⟨0,[],s,false,⟨[]⟩⟩
def rr(ns:List af)(s:ah):Bool:=aM ns&&(gP s&&decide (ns.length<12))
def jN(ns:List af)(s:ah):List af:=if rr ns s=true then ns++[fM s]else ns
def nv(ns:List af)(s:ah):Int:=if rr ns s=true then(ns.length:Int)+1 else 0
def Cb(s:ah):List AC:= .J 0:: .fv [] []::(lc (ah.c s)++[.B false,.fv [] []])
def Dv(s:ah):List AC:= .J 0:: .N::(lc (ah.c s)++[.B false,.N])
theorem fg.snoc{k lo:Nat}{y v:List AC}(h:fg k E V lo)(hy:y.map vwC=v)(hk:y.length=k)(hb:y.all jI=true)(hf:fpL y=[]):fg k (E++[y]) (V++[v]) lo:=
 ⟨fun e he=>(List.mem_append.1 he).elim (h.kk e) fun h1=>by rw [List.mem_singleton.1 h1];exact hk,fun e he=>(List.mem_append.1 he).elim (h.bare e) fun h1=>by rw [List.mem_singleton.1 h1];exact hb,
  by rw [List.map_append,h.eq,<-hy];rfl,by rw [pU,show fpE [y]=fpL y from List.append_nil _,hf,List.append_nil];exact h.new⟩
theorem xH{α:Type}(E:List α)(y y':α):E++[y']=(E++[y]).set E.length y'/\(E++[y])[E.length]? =some y:=by
 constructor
 ·rw [List.set_append_right _ _ (Nat.le_refl _),Nat.sub_self];rfl
 ·rw [zqg (Nat.le_refl _),Nat.sub_self];rfl
theorem xv(ns:List af)(x:af):vwA af.ac (ns++[x])=vwA af.ac ns++[x.ac]:=by simp [vwA]
theorem nL(ns:List af)(hl:ns.length<=1048576)(hs:∀y∈ns,af.small y)(s:ah):Bj prog 10 [.agg [.view (vwA af.ac ns)],.agg (lc (ah.c s))] fun lo res hi=>(∃b0,res= .tup [.agg [.fv b0 (vwA af.ac (jN ns s))],ai (nv ns s)]/\jO lo b0)/\fj res=true/\hi=[]:=by
 have ck:=jm ns hl hs
 have cT:=gv ns hl hs
 have cS:=jo s
 obtain⟨M,hM⟩:=nmE (vwA af.ac ns)
 have hx:aD M=(ns.length:Int):=by rw [az,hM,bm]
 obtain⟨W,hW⟩:=nmE (vwA af.ac (jN ns s))
 obtain⟨AI,hc⟩:=nmE (nv ns s)
 rw [<-hM]at ck cT
 have hu:aD M≥12->decide (ns.length<12)=false:=fun h=>zqt (by omega)
 have hv:¬aD M≥12->decide (ns.length<12)=true:=fun h=>zqu (by omega)
 rw [<-hM,<-hW,<-hc]
 refine oT ([(4,.hand),(5,.hand)]) ([]) (c:=aP f10) aC func10 (by kernel_rfl) (by kernel_rfl) (by rfl) (by kernel_rfl) fun β g hw hd F he hn hg hF=> ?_
 cbv
 refine se hg ck (gM rfl) (fun lo E h=>dI h.bare) (fun lo E q1 q2 q3 hE=> ?_)
 clear q2 q3
 replace hE:fg 64 E M β.lo:=⟨hE.kk,hE.bare,hE.eq,hE.new.mono q1⟩
 clear q1
 cbv
 have pE:=dI hE.bare
 have hf:rr ns s=false->W=M/\AI=0:=fun h=>⟨by rw [hW,hM];unfold jN;rw [if_neg (by rw [h];decide)],by rw [hc];unfold nv;rw [if_neg (by rw [h];decide)]⟩
 have hh:rr ns s=true->W=M++[(fM s).ac]/\AI=(ns.length:Int)+1:=fun h=>⟨by rw [hW,hM];unfold jN;rw [if_pos h,xv],by rw [hc];unfold nv;rw [if_pos h]⟩
 cases hTB:aM ns
 case false=>
  rw [hTB]at cT
  refine ad hg cT ?_
  cbv
  obtain⟨h1,h2⟩:=hf (by unfold rr;rw [hTB];rfl)
  rw [h1,h2]at hF
  refine kt hF fun bl ha=>⟨[.agg [.fv (hd1 (bl 3) E++fpE E) M],ai 0],.agg (.cons (bQ rfl hE) .nil) (.c (.imm _) .nil),⟨_,rfl,d8 ha (r:=3) (ab:=⟨_,_,E⟩) rfl hE.new⟩,rfl,rfl⟩
 rw [hTB]at cT
 refine ad hg cT ?_
 cbv
 cases hSO:gP s
 case false=>
  rw [hSO]at cS
  refine ad hg cS ?_
  cbv
  obtain⟨h1,h2⟩:=hf (by unfold rr;rw [hTB,hSO];rfl)
  rw [h1,h2]at hF
  refine kt hF fun bl ha=>⟨[.agg [.fv (hd1 (bl 3) E++fpE E) M],ai 0],.agg (.cons (bQ rfl hE) .nil) (.c (.imm _) .nil),⟨_,rfl,d8 ha (r:=3) (ab:=⟨_,_,E⟩) rfl hE.new⟩,rfl,rfl⟩
 rw [hSO]at cS
 refine ad hg cS ?_
 cbv
 cases hL:g .q .geq (g .ln M) 12
 case true=>
  rw [iP hg,bH hg,zqp]at hL
  cbv
  obtain⟨h1,h2⟩:=hf (by unfold rr;rw [hTB,hSO,hu hL];rfl)
  rw [h1,h2]at hF
  refine kt hF fun bl ha=>⟨[.agg [.fv (hd1 (bl 3) E++fpE E) M],ai 0],.agg (.cons (bQ rfl hE) .nil) (.c (.imm _) .nil),⟨_,rfl,d8 ha (r:=3) (ab:=⟨_,_,E⟩) rfl hE.new⟩,rfl,rfl⟩
 rw [iP hg,bH hg,zqo]at hL
 cbv
 obtain⟨ht,hr⟩:=hh (by unfold rr;rw [hTB,hSO,hv hL];rfl)
 have hk:E.length=ns.length:=by rw [hE.len,hM,bm]
 have hb:fg 64 (E++[Cb s]) W β.lo:=by rw [ht];exact hE.snoc rfl rfl rfl rfl
 obtain⟨ho,hp⟩:=xH E (Dv s) (Cb s)
 have pZ:aN (E++[Dv s])=true:=by
  unfold aN at pE⊢
  rw [List.all_append,pE];rfl
 have hq:=dI hb.bare
 have hj:g .ln (E++[Cb s])=AI:=by rw [bH hg,az,zqe,hr,hk];rfl
 refine fu [] [] he hn hg aC [(4,.p 0),(6,.p 1)] [.bx 38 1 [.N],.bx 38 1 [.own 2],.rw ⟨55,64,E++[Cb s]⟩] (by kernel_rfl) (fun B hB=> ?_) ?_
 ·cbv
  refine AG hg rfl (by decide) (by omega) ?_
  cbv
  rw [jt hg]
  refine hB _ _ (ja.trans (l1:=[(4,.p 0),(6,.p 1)]) (h1:=toH [.bx 38 1 [.N],.bx 38 1 [.own 2],.rw ⟨55,64,E++[Dv s]⟩]) (Wk.weak (wkG [some 2,some 4,some 6] zr2 ⟨wqE rfl rfl,⟨_,_,rfl,rfl,rfl,rfl,.inr ⟨zr1,trivial⟩⟩,wqE rfl pZ,trivial⟩ (by decide) aq)) (zK ⟨.inl rfl,.inl rfl,trivial⟩ ⟨⟨rfl,rfl,.inl rfl,trivial⟩,⟨rfl,rfl,.inl rfl,trivial⟩,.inr ⟨_,_,_,rfl,rfl,ho,hp,⟨.inl rfl,.inr (.inr ⟨rfl,rfl⟩),.inl rfl,.inl rfl,.inl rfl,.inl rfl,.inl rfl,.inl rfl,.inl rfl,.inl rfl,.inl rfl,.inl rfl,.inl rfl,.inl rfl,.inl rfl,.inl rfl,.inl rfl,.inl rfl,.inl rfl,.inl rfl,.inl rfl,.inl rfl,.inl rfl,.inl rfl,.inl rfl,.inl rfl,.inl rfl,.inl rfl,.inl rfl,.inl rfl,.inl rfl,.inl rfl,.inl rfl,.inl rfl,.inl rfl,.inl rfl,.inl rfl,.inl rfl,.inl rfl,.inl rfl,.inl rfl,.inl rfl,.inl rfl,.inl rfl,.inl rfl,.inl rfl,.inl rfl,.inl rfl,.inl rfl,.inl rfl,.inl rfl,.inl rfl,.inl rfl,.inl rfl,.inl rfl,.inl rfl,.inl rfl,.inl rfl,.inl rfl,.inl rfl,.inl rfl,.inl rfl,.inl rfl,.inr (.inr ⟨rfl,rfl⟩),trivial⟩⟩,trivial⟩))
 obtain⟨E2,hm⟩:=nmE (E++[Cb s])
 rw [<-hm]at hb hj hq⊢
 clear ho hp pZ hm hE hk pE
 refine yl hg hn aC (.op 0 (.op 1 (.op 2 (.op 3 (.op 4 (.op 5 .done .none) .none) (.op 4 (.op 3 (.op 5 .done .none) .none) .none)) (.op 4 (.op 2 (.op 3 (.op 5 .done .none) .none) .none) .none)) (.op 4 (.op 1 (.op 2 (.op 3 (.op 5 .done .none) .none) .none) .none) .none)) (.op 1 (.op 0 (.op 2 (.op 3 (.op 4 (.op 5 .done .none) .none) (.op 4 (.op 3 (.op 5 .done .none) .none) .none)) (.op 4 (.op 2 (.op 3 (.op 5 .done .none) .none) .none) .none)) (.op 2 (.op 0 (.op 3 (.op 4 (.op 5 .done .none) .none) (.op 4 (.op 3 (.op 5 .done .none) .none) .none)) (.op 3 (.op 0 (.op 4 (.op 5 .done .none) .none) .none) .none)) .none)) .none)) (by kernel_rfl) (by kernel_rfl) [(4,.p 0),(5,.i (AI))] [.bx 38 1 [.own 1],.rw ⟨55,64,E2⟩] (fun B hB=> ?_) ?_
 ·cbv
  rw [hj]
  repeat' apply And.intro
  all_goals first|exact trivial|exact hB _ _ (Wk.weak (wkG [some 0,some 2] zr2 ⟨⟨_,_,rfl,rfl,rfl,rfl,.inr ⟨zr1,trivial⟩⟩,wqE rfl hq,trivial⟩ (by decide) aq))
 cbv
 refine kt hF fun bl ha=>⟨[.agg [.fv (hd1 (bl 1) E2++fpE E2) W],ai AI],.agg (.cons (bQ rfl hb) .nil) (.c (.imm _) .nil),⟨_,rfl,d8 ha (r:=1) (ab:=⟨_,_,E2⟩) rfl hb.new⟩,rfl,rfl⟩
def jZ(u:Int)(K R:LLA)(s:ah)(m:Bool):List AC:= .J u:: .view K::(lc (ah.c s)++[.B m,.view R])
def po(u:Int)(K R:LLA)(s:ah)(m:Bool)(b1 b2:List Nat):List AC:= .J u:: .fv b1 K::(lc (ah.c s)++[.B m,.fv b2 R])
theorem qV:∀(L e:List AC),e.all jI=true->e.map vwC=L->(L.all fun c=>match c with| .imm _=>true|_=>false)=true->e=L
 | [],e,_,h,_=>by cases e<;>first|rfl|simp at h
 |c::L,e,hb,h,hi=>by
  cases e with
  |nil=>simp at h
  |cons d e=>
   simp only [zqA,List.cons.injEq]at h
   simp only [zqD,zqs]at hb hi
   have h1:=qV L e hb.2 h.2 hi.2
   cases c<;>first|(cases hi.1;done)|skip
   rw [qc hb.1 h.1,h1]
theorem vt(s:ah):((lc (ah.c s)).all fun c=>match c with| .imm _=>true|_=>false)=true:=rfl
variable {j:Nat}
theorem fg.node{E M:LLA}(h:fg 64 E M lo){u:Int}{K R:LLA}{s:ah}{m:Bool}(hj:M[j]? =some (jZ u K R s m)):∃b1 b2,E[j]? =some (po u K R s m b1 b2):=by
 have hl:=(List.getElem?_eq_some_iff.1 hj).1
 have hE:j<E.length:=by rw [h.len];exact hl
 obtain⟨e,he⟩:∃e,E[j]? =some e:=⟨_,zqc hE⟩
 have hb:e.map vwC=jZ u K R s m:=by
  have h1:(E.map (·.map vwC))[j]? =some (e.map vwC):=by rw [zqi,he];rfl
  rw [h.eq,hj]at h1
  exact(Option.some.inj h1).symm
 have ha:=h.bare e (zqd he)
 unfold jZ at hb
 cases e with
 |nil=>simp at hb
 |cons c0 e=>cases e with
  |nil=>simp at hb
  |cons c1 r=>
   rw [zqA,zqA,List.cons.injEq,List.cons.injEq]at hb
   rw [zqD,zqD,zqs,zqs]at ha
   obtain⟨h0,h1,h2⟩:=hb
   obtain⟨r1,r2,hr,k1,k2⟩:=List.map_eq_append_iff.1 h2
   subst hr
   rw [List.all_append,zqs]at ha
   have hr1:=qV _ _ ha.2.2.1 k1 (vt s)
   cases r2 with
   |nil=>cases k2
   |cons c2 r2=>cases r2 with
    |nil=>simp at k2
    |cons c3 r2=>
     have hn:r2=[]:=by
      have:=congrArg List.length k2
      cases r2 with
      |nil=>rfl
      |cons _ _=>simp at this
     subst hn
     simp only [zqA,List.map_nil,List.cons.injEq,and_true]at k2
     simp only [zqD,List.all_nil,Bool.and_true,zqs]at ha
     obtain⟨b1,hc⟩:=xc ha.2.1 h1
     obtain⟨b2,hd⟩:=xc ha.2.2.2.2 k2.2
     have e0:=qc ha.1 h0
     have e2:=qc ha.2.2.2.1 k2.1
     refine⟨b1,b2,?_⟩
     rw [he,e0,hc,hr1,e2,hd];rfl
theorem fg.set{k lo:Nat}(h:fg k E V lo){e y v:List AC}(he:E[j]? =some e)(hy:y.map vwC=v)(hk:y.length=k)(hb:y.all jI=true)(hf:fpL y=fpL e):fg k (E.set j y) (V.set j v) lo:=
 ⟨fun x hx=>(List.mem_or_eq_of_mem_set hx).elim (h.kk x) fun h1=>by rw [h1];exact hk,fun x hx=>(List.mem_or_eq_of_mem_set hx).elim (h.bare x) fun h1=>by rw [h1];exact hb,by rw [List.map_set,h.eq,hy],by rw [tx he hf];exact h.new⟩
theorem vc(ns:List af)(j:Nat)(x:af):vwA af.ac (ns.set j x)=(vwA af.ac ns).set j x.ac:=by simp [vwA]
variable {a b:List Nat}
theorem jO.perm(h:jO lo a)(hp:a.Perm b):jO lo b:=⟨hp.nodup_iff.1 h.1,fun x hx=>h.2 x (hp.mem_iff.2 hx)⟩
theorem jO.sub(h:jO lo b)(hp:a.Sublist b):jO lo a:=⟨h.1.sublist hp,fun x hx=>h.2 x (hp.subset hx)⟩
theorem tu(u:Int)(K R:LLA)(s:ah)(m:Bool)(b1 b2:List Nat):fpL (po u K R s m b1 b2)=b1++b2:=by
 show b1++(b2++[])=_
 rw [List.append_nil]
theorem wF{E:LLA}{e:List AC}(he:E[j]? =some e):∃A B,E=A++e::B/\∀y,E.set j y=A++y::B:=by
 obtain⟨hj,rfl⟩:=List.getElem?_eq_some_iff.1 he
 refine⟨E.take j,E.drop (j+1),?_,fun y=> ?_⟩
 ·exact(List.take_append_drop j E).symm.trans (by rw [List.drop_eq_getElem_cons hj])
 ·rw [List.set_eq_take_append_cons_drop,if_pos hj]
theorem fg.put{k lo lo':Nat}(h:fg k E V lo){e y v:List AC}(he:E[j]? =some e)(hy:y.map vwC=v)(hk:y.length=k)(hb:y.all jI=true){b1 bn:List Nat}(hf:(fpL y).Perm (b1++bn))(hs:b1.Sublist (fpL e))(hn:jO lo' bn)(hlo:lo<=lo')(hlt:∀b∈fpE E,b<lo'):fg k (E.set j y) (V.set j v) lo:=
 ⟨fun x hx=>(List.mem_or_eq_of_mem_set hx).elim (h.kk x) fun h1=>by rw [h1];exact hk,fun x hx=>(List.mem_or_eq_of_mem_set hx).elim (h.bare x) fun h1=>by rw [h1];exact hb,by rw [List.map_set,h.eq,hy],by
  obtain⟨A,B,h1,h2⟩:=wF he
  have hE:fpE E=fpE A++(fpL e++fpE B):=by rw [h1,pU];rfl
  rw [h2 y]
  have hc:fpE (A++y::B)=fpE A++(fpL y++fpE B):=by rw [pU];rfl
  rw [hc]
  have ha:(fpE A++(b1++fpE B)).Sublist (fpE E):=by rw [hE];exact List.Sublist.append (List.Sublist.refl _) (List.Sublist.append hs (List.Sublist.refl _))
  have h3:jO lo (fpE A++(b1++fpE B)):=h.new.sub ha
  refine(h3.app hlo hn fun b hb=>hlt b (ha.subset hb)).perm (List.perm_iff_count.2 fun a=> ?_)
  have:=List.perm_iff_count.1 hf a
  simp only [List.count_append]at this⊢
  omega⟩
end Go.Proofs.YtbnplcingdgaaaaGreat
namespace Go.Proofs.YtbnplcingdgaaaaGreat
open Go.ChangeShapes Go.WideShapes Go.ChangeAt Go.RowKit
set_option maxRecDepth 100000
def bP(s:bK)(sd:Int)(rtl:Bool):jL:=
 if sd=1 then s.top else if sd=3 then s.bottom
 else if sd=0 then(if(if rtl then s.fin else s.start).kind≠0 then(if rtl then s.fin else s.start)else s.left)
 else if sd=2 then(if(if rtl then s.start else s.fin).kind≠0 then(if rtl then s.start else s.fin)else s.right)else⟨0,0⟩
theorem pN(s:bK)(sd:Int)(rtl:Bool)(w:World):
  Calls Tryz.prog 125 #[.agg #[.int .i64 s.left.kind,.int .i64 s.left.n,.int .i64 s.top.kind,.int .i64 s.top.n,.int .i64 s.right.kind,.int .i64 s.right.n,.int .i64 s.bottom.kind,.int .i64 s.bottom.n,.int .i64 s.start.kind,.int .i64 s.start.n,.int .i64 s.fin.kind,.int .i64 s.fin.n],.int .i64 sd,.bool rtl] w fun e w'=>e= .returned (.agg #[.int .i64 (bP s sd rtl).kind,.int .i64 (bP s sd rtl).n])/\Below w.heap.size w w':=by
 by_cases h1:sd=1
 ·subst h1
  cases rtl
  ·go_enter Tryz.func125,Tryz.ntmps125
   go_wp2
   go_region
   all_goals go_wp2
   all_goals(try go_wp2)
   all_goals(refine bodyPost_ret (v:= .agg #[.int .i64 (bP s 1 false).kind,.int .i64 (bP s 1 false).n]) (by simp [results,Tryz.results125,go_sem,bP, *]) rfl ?_)
   all_goals exact⟨rfl,by repeat(first|(with_reducible exact dd _)|(with_reducible assumption)|(with_reducible refine Below.setCell ?_ (by first|omega|(simp;done)|(simp;omega)) _)|(with_reducible refine bz ?_ _)|(with_reducible refine Below.drew ?_)|(with_reducible refine aO ?_ (by with_reducible assumption))|(with_reducible refine aO ?_ (bR _ _)))⟩
  ·go_enter Tryz.func125,Tryz.ntmps125
   go_wp2
   go_region
   all_goals go_wp2
   all_goals(try go_wp2)
   all_goals(refine bodyPost_ret (v:= .agg #[.int .i64 (bP s 1 true).kind,.int .i64 (bP s 1 true).n]) (by simp [results,Tryz.results125,go_sem,bP, *]) rfl ?_)
   all_goals exact⟨rfl,by repeat(first|(with_reducible exact dd _)|(with_reducible assumption)|(with_reducible refine Below.setCell ?_ (by first|omega|(simp;done)|(simp;omega)) _)|(with_reducible refine bz ?_ _)|(with_reducible refine Below.drew ?_)|(with_reducible refine aO ?_ (by with_reducible assumption))|(with_reducible refine aO ?_ (bR _ _)))⟩
 by_cases h3:sd=3
 ·subst h3
  cases rtl
  ·go_enter Tryz.func125,Tryz.ntmps125
   go_wp2
   go_region
   all_goals go_wp2
   all_goals(try go_wp2)
   all_goals(refine bodyPost_ret (v:= .agg #[.int .i64 (bP s 3 false).kind,.int .i64 (bP s 3 false).n]) (by simp [results,Tryz.results125,go_sem,bP, *]) rfl ?_)
   all_goals exact⟨rfl,by repeat(first|(with_reducible exact dd _)|(with_reducible assumption)|(with_reducible refine Below.setCell ?_ (by first|omega|(simp;done)|(simp;omega)) _)|(with_reducible refine bz ?_ _)|(with_reducible refine Below.drew ?_)|(with_reducible refine aO ?_ (by with_reducible assumption))|(with_reducible refine aO ?_ (bR _ _)))⟩
  ·go_enter Tryz.func125,Tryz.ntmps125
   go_wp2
   go_region
   all_goals go_wp2
   all_goals(try go_wp2)
   all_goals(refine bodyPost_ret (v:= .agg #[.int .i64 (bP s 3 true).kind,.int .i64 (bP s 3 true).n]) (by simp [results,Tryz.results125,go_sem,bP, *]) rfl ?_)
   all_goals exact⟨rfl,by repeat(first|(with_reducible exact dd _)|(with_reducible assumption)|(with_reducible refine Below.setCell ?_ (by first|omega|(simp;done)|(simp;omega)) _)|(with_reducible refine bz ?_ _)|(with_reducible refine Below.drew ?_)|(with_reducible refine aO ?_ (by with_reducible assumption))|(with_reducible refine aO ?_ (bR _ _)))⟩
 by_cases h0:sd=0
 ·subst h0
  cases rtl
  ·by_cases hk:s.start.kind=0
   ·go_enter Tryz.func125,Tryz.ntmps125
    go_wp2
    go_region
    all_goals go_wp2
    all_goals(try go_wp2)
    all_goals(refine bodyPost_ret (v:= .agg #[.int .i64 (bP s 0 false).kind,.int .i64 (bP s 0 false).n]) (by simp [results,Tryz.results125,go_sem,bP, *]) rfl ?_)
    all_goals exact⟨rfl,by repeat(first|(with_reducible exact dd _)|(with_reducible assumption)|(with_reducible refine Below.setCell ?_ (by first|omega|(simp;done)|(simp;omega)) _)|(with_reducible refine bz ?_ _)|(with_reducible refine Below.drew ?_)|(with_reducible refine aO ?_ (by with_reducible assumption))|(with_reducible refine aO ?_ (bR _ _)))⟩
   ·go_enter Tryz.func125,Tryz.ntmps125
    go_wp2
    go_region
    all_goals go_wp2
    all_goals(try go_wp2)
    all_goals(refine bodyPost_ret (v:= .agg #[.int .i64 (bP s 0 false).kind,.int .i64 (bP s 0 false).n]) (by simp [results,Tryz.results125,go_sem,bP, *]) rfl ?_)
    all_goals exact⟨rfl,by repeat(first|(with_reducible exact dd _)|(with_reducible assumption)|(with_reducible refine Below.setCell ?_ (by first|omega|(simp;done)|(simp;omega)) _)|(with_reducible refine bz ?_ _)|(with_reducible refine Below.drew ?_)|(with_reducible refine aO ?_ (by with_reducible assumption))|(with_reducible refine aO ?_ (bR _ _)))⟩
  ·by_cases hk:s.fin.kind=0
   ·go_enter Tryz.func125,Tryz.ntmps125
    go_wp2
    go_region
    all_goals go_wp2
    all_goals(try go_wp2)
    all_goals(refine bodyPost_ret (v:= .agg #[.int .i64 (bP s 0 true).kind,.int .i64 (bP s 0 true).n]) (by simp [results,Tryz.results125,go_sem,bP, *]) rfl ?_)
    all_goals exact⟨rfl,by repeat(first|(with_reducible exact dd _)|(with_reducible assumption)|(with_reducible refine Below.setCell ?_ (by first|omega|(simp;done)|(simp;omega)) _)|(with_reducible refine bz ?_ _)|(with_reducible refine Below.drew ?_)|(with_reducible refine aO ?_ (by with_reducible assumption))|(with_reducible refine aO ?_ (bR _ _)))⟩
   ·go_enter Tryz.func125,Tryz.ntmps125
    go_wp2
    go_region
    all_goals go_wp2
    all_goals(try go_wp2)
    all_goals(refine bodyPost_ret (v:= .agg #[.int .i64 (bP s 0 true).kind,.int .i64 (bP s 0 true).n]) (by simp [results,Tryz.results125,go_sem,bP, *]) rfl ?_)
    all_goals exact⟨rfl,by repeat(first|(with_reducible exact dd _)|(with_reducible assumption)|(with_reducible refine Below.setCell ?_ (by first|omega|(simp;done)|(simp;omega)) _)|(with_reducible refine bz ?_ _)|(with_reducible refine Below.drew ?_)|(with_reducible refine aO ?_ (by with_reducible assumption))|(with_reducible refine aO ?_ (bR _ _)))⟩
 by_cases h2:sd=2
 ·subst h2
  cases rtl
  ·by_cases hk:s.fin.kind=0
   ·go_enter Tryz.func125,Tryz.ntmps125
    go_wp2
    go_region
    all_goals go_wp2
    all_goals(try go_wp2)
    all_goals(refine bodyPost_ret (v:= .agg #[.int .i64 (bP s 2 false).kind,.int .i64 (bP s 2 false).n]) (by simp [results,Tryz.results125,go_sem,bP, *]) rfl ?_)
    all_goals exact⟨rfl,by repeat(first|(with_reducible exact dd _)|(with_reducible assumption)|(with_reducible refine Below.setCell ?_ (by first|omega|(simp;done)|(simp;omega)) _)|(with_reducible refine bz ?_ _)|(with_reducible refine Below.drew ?_)|(with_reducible refine aO ?_ (by with_reducible assumption))|(with_reducible refine aO ?_ (bR _ _)))⟩
   ·go_enter Tryz.func125,Tryz.ntmps125
    go_wp2
    go_region
    all_goals go_wp2
    all_goals(try go_wp2)
    all_goals(refine bodyPost_ret (v:= .agg #[.int .i64 (bP s 2 false).kind,.int .i64 (bP s 2 false).n]) (by simp [results,Tryz.results125,go_sem,bP, *]) rfl ?_)
    all_goals exact⟨rfl,by repeat(first|(with_reducible exact dd _)|(with_reducible assumption)|(with_reducible refine Below.setCell ?_ (by first|omega|(simp;done)|(simp;omega)) _)|(with_reducible refine bz ?_ _)|(with_reducible refine Below.drew ?_)|(with_reducible refine aO ?_ (by with_reducible assumption))|(with_reducible refine aO ?_ (bR _ _)))⟩
  ·by_cases hk:s.start.kind=0
   ·go_enter Tryz.func125,Tryz.ntmps125
    go_wp2
    go_region
    all_goals go_wp2
    all_goals(try go_wp2)
    all_goals(refine bodyPost_ret (v:= .agg #[.int .i64 (bP s 2 true).kind,.int .i64 (bP s 2 true).n]) (by simp [results,Tryz.results125,go_sem,bP, *]) rfl ?_)
    all_goals exact⟨rfl,by repeat(first|(with_reducible exact dd _)|(with_reducible assumption)|(with_reducible refine Below.setCell ?_ (by first|omega|(simp;done)|(simp;omega)) _)|(with_reducible refine bz ?_ _)|(with_reducible refine Below.drew ?_)|(with_reducible refine aO ?_ (by with_reducible assumption))|(with_reducible refine aO ?_ (bR _ _)))⟩
   ·go_enter Tryz.func125,Tryz.ntmps125
    go_wp2
    go_region
    all_goals go_wp2
    all_goals(try go_wp2)
    all_goals(refine bodyPost_ret (v:= .agg #[.int .i64 (bP s 2 true).kind,.int .i64 (bP s 2 true).n]) (by simp [results,Tryz.results125,go_sem,bP, *]) rfl ?_)
    all_goals exact⟨rfl,by repeat(first|(with_reducible exact dd _)|(with_reducible assumption)|(with_reducible refine Below.setCell ?_ (by first|omega|(simp;done)|(simp;omega)) _)|(with_reducible refine bz ?_ _)|(with_reducible refine Below.drew ?_)|(with_reducible refine aO ?_ (by with_reducible assumption))|(with_reducible refine aO ?_ (bR _ _)))⟩
 have g1:(sd==1)=false:=by simpa using h1
 have g3:(sd==3)=false:=by simpa using h3
 have g0:(sd==0)=false:=by simpa using h0
 have g2:(sd==2)=false:=by simpa using h2
 cases rtl
 ·go_enter Tryz.func125,Tryz.ntmps125
  go_wp2
  go_region
  all_goals go_wp2
  all_goals(try go_wp2)
  all_goals(refine bodyPost_ret (v:= .agg #[.int .i64 (bP s sd false).kind,.int .i64 (bP s sd false).n]) (by simp [results,Tryz.results125,go_sem,bP, *]) rfl ?_)
  all_goals exact⟨rfl,by repeat(first|(with_reducible exact dd _)|(with_reducible assumption)|(with_reducible refine Below.setCell ?_ (by first|omega|(simp;done)|(simp;omega)) _)|(with_reducible refine bz ?_ _)|(with_reducible refine Below.drew ?_)|(with_reducible refine aO ?_ (by with_reducible assumption))|(with_reducible refine aO ?_ (bR _ _)))⟩
 ·go_enter Tryz.func125,Tryz.ntmps125
  go_wp2
  go_region
  all_goals go_wp2
  all_goals(try go_wp2)
  all_goals(refine bodyPost_ret (v:= .agg #[.int .i64 (bP s sd true).kind,.int .i64 (bP s sd true).n]) (by simp [results,Tryz.results125,go_sem,bP, *]) rfl ?_)
  all_goals exact⟨rfl,by repeat(first|(with_reducible exact dd _)|(with_reducible assumption)|(with_reducible refine Below.setCell ?_ (by first|omega|(simp;done)|(simp;omega)) _)|(with_reducible refine bz ?_ _)|(with_reducible refine Below.drew ?_)|(with_reducible refine aO ?_ (by with_reducible assumption))|(with_reducible refine aO ?_ (bR _ _)))⟩
end Go.Proofs.YtbnplcingdgaaaaGreat
namespace Go.Proofs.YtbnplcingdgaaaaGreat
open Go.ChangeShapes Go.WideShapes Go.ChangeAt Go.RowKit Am Go.Proofs.Tryz
set_option maxRecDepth 100000
variable {F:Nat->Prop}{w:World}
theorem uc{a:Array Value}{u:Value}(h:RT F w [] [] (.agg (lc a)) u):u= .agg a:=by
 obtain⟨vs,rfl,hl,hc⟩:=h
 have ha:vs.length=a.toList.length:=by rw [hl];simp [lc]
 have:vs=a.toList:=by
  refine List.ext_getElem? fun i=> ?_
  by_cases hi:i<a.toList.length
  ·have h1:=zqc hi
   obtain⟨u,hu,_,hr⟩:=hc i (.imm a.toList[i]) (by simp [lc,h1])
   rw [hu,h1]
   exact congrArg some hr
  ·rw [zqz (by omega),zqz (by omega)]
 rw [this]
theorem xd:∀(j:Nat)(x:AT)(u:Value),([]:List AT)[j]? =some x->RT F w [] [] x u->([]:List Value)[j]? =some u:=fun j x u h=>by simp at h
theorem ll{x:AT}{v:Value}{xs:List AT}{vs:List Value}(h1:∀u,RT F w [] [] x u->u=v)(h2:∀(j:Nat)(x:AT)(u:Value),xs[j]? =some x->RT F w [] [] x u->vs[j]? =some u):
  ∀(j:Nat)(y:AT)(u:Value),(x::xs)[j]? =some y->RT F w [] [] y u->(v::vs)[j]? =some u:=fun j y u h hr=>by
 cases j with
 |zero=>simp only [zqw,zqy]at h;subst h;rw [h1 u hr];rfl
 |succ j=>exact h2 j y u (by simpa using h) hr
theorem kg(s:bK)(sd:Int)(rtl:Bool):PC0 125 [.agg (lc (bK.c s)),ai sd,abl rtl] (.t (agV (qv s sd rtl))):=
 pi (us:=[.agg (bK.c s),.int .i64 sd,.bool rtl]) (v:= .agg #[.int .i64 (qv s sd rtl).kind,.int .i64 (qv s sd rtl).n]) (by kernel_rfl) rfl
  (fun F w=>ll (fun u h=>uc h) (ll (fun u h=>h) (ll (fun u h=>h) xd)))
  (fun F w=>⟨[.int .i64 (qv s sd rtl).kind,.int .i64 (qv s sd rtl).n],rfl,rfl,fun j c hj=>by
   match j,hj with
   |0,hj=>cases hj;exact⟨_,rfl,rfl,rfl⟩
   |1,hj=>cases hj;exact⟨_,rfl,rfl,rfl⟩⟩)
  (fun w=>pN s sd rtl w)
def ow(s:bK)(sd:Int)(rtl:Bool)(base:Int):Int:=if kn (qv s sd rtl) base=false then 0 else sg (Dg (qv s sd rtl) base)
def uT(s:aI)(less:Int):aI:=if s.mode=1 then s else⟨s.mode,cl (wrap64 (cl s.n-cl less))⟩
def uR(s:ah)(w:Bool)(o:Int):Int:=if s.ratio<=0\/o<0 then-1 else if w then cl (fdv (wrap64 (cl o*cl s.ratio)) 64)else cl (fdv (wrap64 (cl o*64)) (cl s.ratio))
theorem iC(s:bK)(sd:Int)(rtl:Bool)(base:Int):PC0 124 [.agg (lc (bK.c s)),ai sd,abl rtl,ai base] (.i (ow s sd rtl base)):=by
 obtain⟨⟨a0,a1⟩,⟨a2,a3⟩,⟨a4,a5⟩,⟨a6,a7⟩,⟨a8,a9⟩,⟨hc,hd⟩⟩:=s
 have hb:=kg (⟨⟨a0,a1⟩,⟨a2,a3⟩,⟨a4,a5⟩,⟨a6,a7⟩,⟨a8,a9⟩,⟨hc,hd⟩⟩:bK)
 refine ae (aP f124) aC func124 fun g F hg hF=> ?_
 cbv
 repeat'(first|((first|refine wW hg (hb _ _) rfl (fun R0 R1 ha he=> ?_)|refine ri hg (hb _ _) rfl (fun R0 R1 ha he=> ?_));cbv)|(refine bI hg (dN _ _ _) rfl (fun R0 ha=> ?_);cases R0<;>cbv)|(refine bf hg (dN _ _ _) rfl (fun R0 ha=> ?_);cases R0<;>cbv)|((first|refine bM hg (d4 _ _ _) rfl (fun R0 ha=> ?_)|refine bh hg (d4 _ _ _) rfl (fun R0 ha=> ?_)|refine bM hg (bC _) rfl (fun R0 ha=> ?_)|refine bh hg (bC _) rfl (fun R0 ha=> ?_));cbv)|(split<;>rename_i hh<;>(try rw [hh])<;>(try simp only [fk hg]at hh)<;>cbv))
 all_goals exact bk hF (by simp only [ow];subst_vars;simp_all)
theorem eN(m n less:Int):PC0 82 [.agg [.J m,.J n],ai less] (.t (agP (uT ⟨m,n⟩ less))):=by
 refine ae (aP f82) aC func82 fun g F hg hF=> ?_
 cbv
 repeat'(first|((first|refine bM hg (ar _) rfl (fun R0 ha=> ?_)|refine bh hg (ar _) rfl (fun R0 ha=> ?_));cbv)|(split<;>rename_i hh<;>(try rw [hh])<;>(try simp only [fk hg]at hh)<;>cbv))
 all_goals exact uB hF (by simp only [uT,(fd hg)]at *;subst_vars;simp_all)
theorem fY(s:ah)(w:Bool)(o:Int):PC0 61 [.agg (lc (ah.c s)),abl w,ai o] (.i (uR s w o)):=by
 cases w<;>(refine ae (aP f61) aC func61 fun g F hg hF=> ?_;cbv;repeat'(first|((first|refine bM hg (ar _) rfl (fun R0 ha=> ?_)|refine bh hg (ar _) rfl (fun R0 ha=> ?_)|refine bM hg (ba _ _) rfl (fun R0 ha=> ?_)|refine bh hg (ba _ _) rfl (fun R0 ha=> ?_));cbv)|(split<;>rename_i hh<;>(try rw [hh])<;>(try simp only [fk hg]at hh)<;>cbv)))
 all_goals exact bk hF (by simp only [uR,(jD hg)]at *;subst_vars;(try simp_all);(try(intro hx;omega)))
def B9(x:af)(K R:LLA):List AC:= .J x.up:: .view K::(lc (ah.c x.style)++[.B x.measured,.view R])
theorem xV(x:af):x.ac=B9 x (vw aj x.kids) (vw aQ.c x.table.rules):=rfl
def Dz(xs:List Int)(n:Int):Bool:=xs.any fun x=>decide (x=n)
theorem rB{p:Int->Bool}{xs:List Int}{z:Int}{x:Int}(h0:0<=z)(hx:xs[z.toNat]? =some x):(xs.take (z+1).toNat).filter p=(xs.take z.toNat).filter p++if p x then [x]else []:=by
 rw [show(z+1).toNat=z.toNat+1 by omega,List.take_add_one,hx,List.filter_append]
 simp only [Option.toList_some]
 cases h:p x<;>simp [h]
theorem sv(xs ys:List Int):vw aj (xs++ys)=vw aj xs++vw aj ys:=by simp [vw]
theorem bJ(ns:List af)(n:Int)(x:af)(h1:1<=n)(h2:n<=1048576)(hx:ns[(n-1).toNat]? =some x)(V K R:LLA)(hV:V=vwA af.ac ns)(hK:K=vw aj x.kids)(hR:R=vw aQ.c x.table.rules):PC0 40 [.agg [.view V],ai n] (.t (.agg (B9 x K R))):=by
 subst hV hK hR
 rw [<-xV]
 obtain⟨a0,a1,⟨a2,a3,a4,a5,a6,a7,a8,a9,ha,hb,hc,⟨hd,he⟩,⟨hf,hg⟩,⟨hh,hi⟩,⟨hj,hk⟩,⟨hl,hm⟩,⟨hn,ho⟩,⟨hp,hq⟩,hr,⟨⟨hs,ht⟩,⟨hu,hv⟩,⟨hw,hy⟩,⟨hz,hA⟩,⟨hB,hC⟩,⟨hD,hE⟩⟩,⟨⟨hF,hG⟩,⟨hH,hI⟩,⟨hJ,hL⟩,⟨hM,hN⟩,⟨hO,hP⟩,⟨hQ,hS⟩⟩,⟨hT,hU,hW,hX⟩,⟨hY,hZ,h0,h3⟩,h4,h5⟩,h6,⟨h7⟩⟩:=x
 exact ei _ n h1 h2 (fE hx)
variable {ns:List af}
theorem ij(h:aM ns=true){n:Int}{x:af}(h1:1<=n)(hx:ns[(n-1).toNat]? =some x):∀k∈x.kids,isN ns k=true:=fun k hk=>by
 simp only [aM,zqs]at h
 have:=(en ns ns 0).1 h.2 _ x hx
 simp only [aR,zqs,zqf,dz]at this
 exact(this.2.2.2.1 k hk).1
theorem wU:∀(xs:List Int)(n:Int),cnt xs n=1->n∈xs
 | [],n,h=>by simp [cnt]at h
 |x::xs,n,h=>by
  by_cases hx:x=n
  ·rw [hx];exact List.mem_cons_self ..
  ·refine List.mem_cons_of_mem _ (wU xs n ?_)
   simpa [cnt,hx]using h
theorem pP(xs:List Int)(n:Int):Dz xs n=true↔n∈xs:=by simp [Dz]
theorem mi(h:aM ns=true){n:Int}{x:af}(h1:1<=n)(hx:ns[(n-1).toNat]? =some x):aR ns n x=true:=by
 simp only [aM,zqs]at h
 have:=(en ns ns 0).1 h.2 _ x hx
 rwa [show(0:Int)+(((n-1).toNat:Nat):Int)+1=n by omega]at this
theorem BQ(h:aM ns=true){n k:Int}{x y:af}(h1:1<=n)(hx:ns[(n-1).toNat]? =some x)(k1:1<=k)(hy:ns[(k-1).toNat]? =some y):y.up=n↔Dz x.kids k=true:=by
 have hk:jf ns n=x.kids:=by unfold jf;rw [hx]
 have hu:upN ns k=y.up:=by unfold upN;rw [hy]
 constructor
 ·intro he
  have:=mi h k1 hy
  simp only [aR,sB,zqs,Bool.or_eq_true,zqp,he,hk]at this
  rcases this.2.2.1 with h2|h2
  ·omega
  ·exact(pP _ _).2 (wU _ _ h2)
 ·intro he
  have:=mi h h1 hx
  simp only [aR,zqs,zqf,dz,zqp]at this
  rw [<-hu]
  exact(this.2.2.2.1 k ((pP _ _).1 he)).2
def fa(bl:Nat->Nat)(h:AH):List AC->List AC->Prop
 | [],[]=>True
 |c::l,d::l'=>oL bl h c d/\fa bl h l l'
 |_,_=>False
def Ag(u:Int)(q:Nat)(R:LLA)(s:ah)(m:Bool)(b2:List Nat):List AC:= .J u:: .own q::(lc (ah.c s)++[.B m,.fv b2 R])
end Go.Proofs.YtbnplcingdgaaaaGreat
