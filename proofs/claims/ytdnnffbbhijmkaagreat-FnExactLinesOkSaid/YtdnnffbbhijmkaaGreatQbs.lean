/- The reference's layout of a node with children in its flow. -/
import Derived.Test.YtdnnffbbhijmkaaGreatQbr
set_option linter.unusedVariables false
set_option linter.unusedSimpArgs false
set_option maxHeartbeats 32000000
namespace Go.Proofs.YtdnnffbbhijmkaaGreat
open Go.ChangeShapes Go.WideShapes Go.ChangeAt Go.RowKit Am Go.Proofs.Tryz
set_option maxRecDepth 100000
theorem Cw{xs:List ah}{ss:List Int}{gap inner js:Int}(h:al5 xs ss gap inner=true):(alg xs ss gap inner js).length=ss.length:=by
 unfold alg
 rw [if_neg (by rw [h];simp),uL,zqB]
 simp only [al5,zqs,zqp]at h
 omega
theorem BV{g:Gd}(hg:g= @G0 bp0 prog 3 f259.ntmps){Q:Exit→List (Nat×AV)→EH→Prop}(V:LLA)(rtl keeps:Bool)(n:Int)(s0:ar)(row:Bool)(al ac:aw)(KW w0 w1 h0' h1':Int)(K M A0:LLA)(pM:aj M=true)(pA:aj A0=true)(IN GP AC':Int)(vI vL vZ vS vC vT:LLA)(fl ft fr fb:Int)(wd hgh iw ih:aw)(kids:List Int)(hK:K=vw ao kids)(hkl:kids.length≤1048576)(I:List ah)(hvI:vI=vw ah.c I)(hIl:I.length=kids.length)(ZZ CC ST:List Int)(S1:List av)(hvZ:vZ=vw ao ZZ)(hvC:vC=vw ao CC)(hvT:vT=vw ao ST)(hvS:vS=vw av.c S1)(hTl:ST.length=CC.length)
  (hzl:ZZ.length=kids.length) (hsl:S1.length=kids.length) (hf:nL s0=⟨fl,ft,fr,fb⟩) (hGP:GP=fP s0 row) (LL:List (List Int)) (hvL:vL=vwA lnA LL) (hLl:LL.length≤1048576) (hcl:CC.length=LL.length) (hfl:LL.flatten=ixs 0 kids.length) (hal:∀l∈LL,al5 (lit I l) (l.map (elZ ZZ)) GP IN=true)
  (E:LLA) (hE:E=vw aV.c (List.replicate kids.length ⟨0,0,0,0,0⟩))
  (hQ:∀(z:Int)(E:LLA),E=vw aV.c (wh ⟨s0,row,wd,hgh,iw,ih,al,ac,kids⟩ rtl I IN AC' ZZ S1 ST 0 (LL.zip CC))→Q (.exit 0) [(109,.t (abl (false))),(108,.i (g .ln vL)),(107,.v vL),(106,.i (z)),(0,.p 0),(5,.p 3),(6,.p 4),(7,.p 5),(8,.p 6),(9,.v vI),(10,.v vZ),(11,.i (IN)),(12,.i (GP)),(13,.v vL),(14,.v vS),(15,.v vC),(16,.i (AC')),(18,.v vT),(19,.p 9),(20,.p 10),(21,.i (z))] [.bx 79 5 [.view V,.B rtl,.B keeps,.own 7,.own 8],.gn,.gn,.bx 89 68 (nwL n s0 row al ac KW (.view K)),.bx 28 2 [.J w0,.J w1],.bx 28 2 [.J h0',.J h1'],.bx 64 4 [.J 0,.J 0,.J 0,.N],.rw ⟨199,10,M⟩,.rw ⟨206,6,A0⟩,.bx 85 4 [.J fl,.J ft,.J fr,.J fb],.bx 64 4 [.J 0,.J 0,.J 0,.own 11],.rw ⟨45,5,E⟩]):
  g .L (lO (aK f259) 0) Q [(0,.p 0),(5,.p 3),(6,.p 4),(7,.p 5),(8,.p 6),(9,.v vI),(10,.v vZ),(11,.i (IN)),(12,.i (GP)),(13,.v vL),(14,.v vS),(15,.v vC),(16,.i (AC')),(18,.v vT),(19,.p 9),(20,.p 10),(21,.i (0))] [.bx 79 5 [.view V,.B rtl,.B keeps,.own 7,.own 8],.gn,.gn,.bx 89 68 (nwL n s0 row al ac KW (.view K)),.bx 28 2 [.J w0,.J w1],.bx 28 2 [.J h0',.J h1'],.bx 64 4 [.J 0,.J 0,.J 0,.N],.rw ⟨199,10,M⟩,.rw ⟨206,6,A0⟩,.bx 85 4 [.J fl,.J ft,.J fr,.J fb],.bx 64 4 [.J 0,.J 0,.J 0,.own 11],.rw ⟨45,5,E⟩]:=by
 have hzL:vL=(LL.zip CC).map (fun t=>lnA t.1):=by rw [hvL];exact o9 hcl
 have hzM:(LL.zip CC).map (·.1)=LL:=fd hcl
 have hzl2:(LL.zip CC).length≤1048576:=by rw [zqB];exact Nat.le_trans (Nat.min_le_left ..) hLl
 have hzg:=fun{i t} h=>wj (a:=LL) (b:=CC) (i:=i) (t:=t) h
 have hlb:∀l∈LL,∀i∈l,0≤i∧i<(kids.length:Int):=fun l hl i hi=>by
  have:i∈LL.flatten:=List.mem_flatten.2 ⟨l,hl,hi⟩
  rw [hfl,k6]at this
  omega
 obtain⟨qs,hqs⟩:=nmE (LL.zip CC)
 rw [←hqs]at hzL hzM hzl2 hQ
 simp only [←hqs]at hzg
 have hfq:(qs.map (·.1)).flatten=ixs 0 kids.length:=by rw [hzM];exact hfl
 obtain⟨q,hq⟩:∃q:Pl,q=⟨s0,row,wd,hgh,iw,ih,al,ac,kids⟩:=⟨_,rfl⟩
 rw [←hq]at hQ
 obtain⟨D1,hD1⟩:=nmE (wh q rtl I IN AC' ZZ S1 ST 0 qs)
 rw [←hD1]at hQ
 have hI2:I.length≤1048576:=by omega
 have hgA:Bc q=GP:=by rw [hq,hGP];rfl
 have hju:q.s.justify=s0.justify:=by rw [hq]
 have hIB:=fun(zo c st lb:Int)(h1:0≤zo)(h2:CC[zo.toNat]? =some c)(h2':ST[zo.toNat]? =some st) PS vP h3 l h4 L vW h5 h5' h6 done h7 h8 E h9 Q' hQ'=>BX hg (Q:=Q') V rtl keeps n s0 row al ac KW w0 w1 h0' h1' K M A0 pM pA IN GP AC' vI vL vZ vS vC vT fl ft fr fb zo wd hgh iw ih kids hK ZZ CC ST PS S1 hvZ hvC hvT hvS vP h3 hzl hsl hf h1 c h2 st h2' lb l h4 L vW h5 h5' h6 done h7 h8 E h9 hQ'
 simp only [←hq]at hIB
 replace hvL:=hzL
 have pE:aj E=true:=by rw [hE];exact ag _ _
 refine aY hg aD (by kernel_rfl) vL (fun t=>lnA t.1) qs hvL hzl2 (fun z(s:Int×List aV×LLA)=>[(0,.p 0),(5,.p 3),(6,.p 4),(7,.p 5),(8,.p 6),(9,.v vI),(10,.v vZ),(11,.i (IN)),(12,.i (GP)),(13,.v vL),(14,.v vS),(15,.v vC),(16,.i (AC')),(18,.v vT),(19,.p 9),(20,.p 10),(21,.i (z))]) (fun z(s:Int×List aV×LLA)=>[.bx 79 5 [.view V,.B rtl,.B keeps,.own 7,.own 8],.gn,.gn,.bx 89 68 (nwL n s0 row al ac KW (.view K)),.bx 28 2 [.J w0,.J w1],.bx 28 2 [.J h0',.J h1'],.bx 64 4 [.J 0,.J 0,.J 0,.N],.rw ⟨199,10,M⟩,.rw ⟨206,6,A0⟩,.bx 85 4 [.J fl,.J ft,.J fr,.J fb],.bx 64 4 [.J 0,.J 0,.J 0,.own 11],.rw ⟨45,5,s.2.2⟩]) (fun z(s:Int×List aV×LLA)=>s.1=z∧s.2.2=vw aV.c (s.2.1++List.replicate (kids.length-s.2.1.length) ⟨0,0,0,0,0⟩)) (fun(s:Int×List aV×LLA) rest=>(s.2.1++wh q rtl I IN AC' ZZ S1 ST s.1 rest,ixs 0 s.2.1.length++(rest.map (·.1)).flatten)) ((D1,ixs 0 kids.length)) (0,[],E) (by rw [hD1];exact Prod.ext rfl hfq) ⟨rfl,hE⟩ (Wk.weak (wkM [some 0,none,none,some 3,some 4,some 5,some 6,some 7,some 8,some 9,some 10,some 11] ⟨rfl,rfl,rfl,rfl,rfl,rfl,rfl,rfl,rfl,rfl,rfl,rfl,rfl,rfl,rfl,rfl,rfl,trivial⟩ ⟨.inr ⟨_,_,rfl,rfl,rfl,rfl,.inr ⟨⟨rfl,rfl,rfl,rfl,rfl,trivial⟩,trivial⟩⟩,.inl rfl,.inl rfl,.inr (wqE rfl rfl),.inr (wqE rfl rfl),.inr (wqE rfl rfl),.inr (wqE rfl rfl),.inr (wqE rfl pM),.inr (wqE rfl pA),.inr (wqE rfl rfl),.inr ⟨_,_,rfl,rfl,rfl,rfl,.inr ⟨⟨rfl,rfl,rfl,rfl,trivial⟩,trivial⟩⟩,.inr (wqE rfl pE),trivial⟩ (by decide) ⟨.inl rfl,.inl rfl,.inr rfl,trivial⟩ ⟨.inl rfl,.inl rfl,.inr ⟨_,rfl⟩,trivial⟩)) (fun z s B hz h0 hi he=> ?_) (fun z s x rest B z0 z1 z2 hx hy h0 hi hc e1 hB=> ?_)
 ·obtain⟨k,D,E1⟩:=s
  obtain⟨i1,i2⟩:=hi
  obtain⟨h01,h02⟩:=Prod.mk.inj h0
  dsimp only at i1 i2
  obtain rfl:D=D1:=by simpa [wh]using h01
  have hDk:D.length=kids.length:=by
   have:=congrArg List.length h02
   simpa [bW]using this
  have hQ:=hQ z E1 (by rw [i2,hDk,Nat.sub_self,List.replicate_zero,List.append_nil])
  cbv
  rw [he]
  cbv
  exact hQ
 ·obtain⟨k,done,E1⟩:=s
  obtain⟨l,c⟩:=x
  obtain⟨i1,i2⟩:=hi
  obtain⟨h01,h02⟩:=Prod.mk.inj h0
  dsimp only at i1 i2 hy h01 h02
  subst i1
  obtain⟨L,hL⟩:=nmE (vw ao l)
  have hy2:vL[k.toNat]? =some [.view L]:=by rw [hL];exact hy
  have hsp:=ny h02
  rw [bW]at hsp
  have hls:=lD (l:=l) (ls:=rest.map (fun t:List Int×Int=>t.1)) hsp.2.2
  have hll:l.length≤1048576:=Nat.le_trans hls.1 (Nat.le_trans (Nat.sub_le ..) hkl)
  have hlL:=zqd (hzg hx).1
  have hlm:=hlb l hlL
  have pE1:aj E1=true:=by rw [i2];exact ag _ _
  have hle:done.length+l.length≤kids.length:=by have:=hls.1;omega
  have cLI:=gH I l hI2 hll
  have cPk:=oB S1 l (by omega) hll (fun i hi=>by have:=hlm i hi;omega)
  have cBs:=m6 (pck S1 l) (Nat.le_trans (tJ S1 l) hll)
  have hll2:(l.map (elZ ZZ)).length≤1048576:=by rw [zql];exact hll
  have cPA:=mW (lit I l) (l.map (elZ ZZ)) GP IN s0.justify (Nat.le_trans qw hll) hll2
  obtain⟨PS,hPS⟩:=nmE (EO q I IN ZZ l)
  have hPS2:alg (lit I l) (l.map (elZ ZZ)) GP IN s0.justify=PS:=by rw [hPS];unfold EO;rw [hgA,hju]
  rw [hPS2]at cPA
  have hPl:PS.length=l.length:=by rw [←hPS2,Cw (hal l hlL),zql]
  obtain⟨lb,hlbd⟩:=nmE (bas (pck S1 l))
  rw [←hlbd]at cBs
  obtain⟨LI,hLI⟩:=nmE (vw ah.c (lit I l));(try rw [←hLI]at cLI);(try rw [←hLI]at cPA)
  obtain⟨PK,hPK⟩:=nmE (vw av.c (pck S1 l));(try rw [←hPK]at cPk);(try rw [←hPK]at cBs)
  rw [←hvI,←hL]at cLI
  rw [←hvS,←hL]at cPk
  obtain⟨W,hW⟩:=nmE (vw ao (l.map (elZ ZZ)))
  have hWl:W.length=(l.map (elZ ZZ)).length:=by rw [hW,af]
  have iW:bR W=true:=by rw [hW];exact aG _ _
  have kW:∀y∈W,y.length=1:=by rw [hW];exact bC (c:=ao) (k:=1) fun _=>rfl
  have dW:∀y∈W,y.all dat=true:=by rw [hW];exact az
  rw [←hW]at cPA
  obtain⟨vP,hvP⟩:=nmE (vw ao PS)
  have hvPl:vP.length=PS.length:=by rw [hvP,af]
  have ivP:bR vP=true:=by rw [hvP];exact aG _ _
  have kvP:∀y∈vP,y.length=1:=by rw [hvP];exact bC (c:=ao) (k:=1) fun _=>rfl
  have dvP:∀y∈vP,y.all dat=true:=by rw [hvP];exact az
  rw [←hvP]at cPA
  have hlz:∀i∈l,0≤i∧i<(ZZ.length:Int):=fun i hi=>by have:=hlm i hi;omega
  have hkC:k.toNat<CC.length:=(List.getElem?_eq_some_iff.1 (hzg hx).2).1
  obtain⟨st,hst⟩:∃v,ST[k.toNat]? =some v:=⟨_,zqc (by omega)⟩
  have hIB:=hIB k c st lb z0 (hzg hx).2 hst PS vP hvP l hPl L W hL hW hll done (by simpa using hls.2.1) hle E1 i2
  have h3:∀D,D=done++qY q rtl IN AC' ZZ S1 (elZ ST k) c lb PS 0 l→(D++wh q rtl I IN AC' ZZ S1 ST (k+1) rest,ixs 0 D.length++(rest.map (·.1)).flatten)=(D1,ixs 0 kids.length):=fun D hD=>Prod.ext (by
   rw [←h01,hD,hlbd,hPS,zqC];rfl) (by
   show ixs 0 D.length++(rest.map (·.1)).flatten=ixs 0 kids.length
   rw [←h02,hD,zqe,lK,jx,zqC]
   congr 1
   rw [zqA,List.flatten_cons]
   congr 1
   exact hls.2.1.symm)
  clear hsp hls hle h02 hfq hzM hzg hzL hq hqs hlm hlb hPS2 hPS hlbd hvI hvS hll2 hlL hal hPl hkC hst
  cbv
  rw [hc]
  cbv
  refine goX hg _ z0 hy2 rfl ?_
  cbv
  refine kP hg (lO (aK f259) 1) (by kernel_rfl) [(0,.p 0),(5,.p 3),(6,.p 4),(7,.p 5),(8,.p 6),(9,.v vI),(10,.v vZ),(11,.i (IN)),(12,.i (GP)),(13,.v vL),(14,.v vS),(15,.v vC),(16,.i (AC')),(18,.v vT),(19,.p 9),(20,.p 10),(21,.i (k)),(22,.v L),(23,.o 12),(24,.i (0))] [.bx 79 5 [.view V,.B rtl,.B keeps,.own 7,.own 8],.gn,.gn,.bx 89 68 (nwL n s0 row al ac KW (.view K)),.bx 28 2 [.J w0,.J w1],.bx 28 2 [.J h0',.J h1'],.bx 64 4 [.J 0,.J 0,.J 0,.N],.rw ⟨199,10,M⟩,.rw ⟨206,6,A0⟩,.bx 85 4 [.J fl,.J ft,.J fr,.J fb],.bx 64 4 [.J 0,.J 0,.J 0,.own 11],.rw ⟨45,5,E1⟩,.rw ⟨3,1,[]⟩] (Wk.weak (wkM [some 0,none,none,some 3,some 4,some 5,some 6,some 7,some 8,some 9,some 10,some 11,some 12] ⟨rfl,rfl,rfl,rfl,rfl,rfl,rfl,rfl,rfl,rfl,rfl,rfl,rfl,rfl,rfl,rfl,rfl,rfl,rfl,rfl,trivial⟩ ⟨.inr ⟨_,_,rfl,rfl,rfl,rfl,.inr ⟨⟨rfl,rfl,rfl,rfl,rfl,trivial⟩,trivial⟩⟩,.inl rfl,.inl rfl,.inr (wqE rfl rfl),.inr (wqE rfl rfl),.inr (wqE rfl rfl),.inr (wqE rfl rfl),.inr (wqE rfl pM),.inr (wqE rfl pA),.inr (wqE rfl rfl),.inr ⟨_,_,rfl,rfl,rfl,rfl,.inr ⟨⟨rfl,rfl,rfl,rfl,trivial⟩,trivial⟩⟩,.inr (wqE rfl pE1),.inr (wqE rfl rfl),trivial⟩ (by decide) ⟨.inl rfl,.inl rfl,.inr rfl,trivial⟩ ⟨.inl rfl,.inl rfl,.inr ⟨_,rfl⟩,trivial⟩)) ?_
  refine BZ hg V rtl keeps n s0 row al ac KW w0 w1 h0' h1' K M A0 pM pA IN GP AC' vI vL vZ vS vC vT fl ft fr fb k E1 pE1 ZZ hvZ l L hL hll hlz fun z2 E2 hE2=> ?_
  obtain rfl:W=E2:=by rw [hE2,hW]
  cbv
  (repeat'((first|refine aa hg cLI ?_|refine ad hg cLI ?_|refine ad hg cPk ?_|refine aa hg cPk ?_|refine ad hg cBs ?_|refine bB hg cPA (aq (ay rfl) (aq (bi (ab:=⟨_,_,W⟩) rfl kW dW) (aq (ay rfl) (aq (ay rfl) (aq (ay rfl) (aF)))))) ivP ?_|refine bN hg cPA (aq (ay rfl) (aq (bi (ab:=⟨_,_,W⟩) rfl kW dW) (aq (ay rfl) (aq (ay rfl) (aq (ay rfl) (aF)))))) ivP ?_);cbv))
  refine kP hg (lO (aK f259) 2) (by kernel_rfl) [(0,.p 0),(5,.p 3),(6,.p 4),(7,.p 5),(8,.p 6),(9,.v vI),(10,.v vZ),(11,.i (IN)),(12,.i (GP)),(13,.v vL),(14,.v vS),(15,.v vC),(16,.i (AC')),(18,.v vT),(19,.p 9),(20,.p 10),(21,.i (k)),(22,.v L),(23,.v W),(25,.v vP),(26,.i (lb)),(27,.i (0))] [.bx 79 5 [.view V,.B rtl,.B keeps,.own 7,.own 8],.gn,.gn,.bx 89 68 (nwL n s0 row al ac KW (.view K)),.bx 28 2 [.J w0,.J w1],.bx 28 2 [.J h0',.J h1'],.bx 64 4 [.J 0,.J 0,.J 0,.N],.rw ⟨199,10,M⟩,.rw ⟨206,6,A0⟩,.bx 85 4 [.J fl,.J ft,.J fr,.J fb],.bx 64 4 [.J 0,.J 0,.J 0,.own 11],.rw ⟨45,5,E1⟩] (bH (sl2 12 13 W vP) (DF rfl kW dW rfl kvP dvP) (Wk.weak (wkM [some 0,none,none,some 3,some 4,some 5,some 6,some 7,some 8,some 9,some 10,some 11] ⟨rfl,rfl,rfl,rfl,rfl,rfl,rfl,rfl,rfl,rfl,rfl,rfl,rfl,rfl,rfl,rfl,rfl,rfl,rfl,rfl,rfl,rfl,trivial⟩ ⟨.inr ⟨_,_,rfl,rfl,rfl,rfl,.inr ⟨⟨rfl,rfl,rfl,rfl,rfl,trivial⟩,trivial⟩⟩,.inl rfl,.inl rfl,.inr (wqE rfl rfl),.inr (wqE rfl rfl),.inr (wqE rfl rfl),.inr (wqE rfl rfl),.inr ⟨_,_,rfl,rfl,rfl,rfl,.inl (bG pM)⟩,.inr ⟨_,_,rfl,rfl,rfl,rfl,.inl (bG pA)⟩,.inr (wqE rfl rfl),.inr ⟨_,_,rfl,rfl,rfl,rfl,.inr ⟨⟨rfl,rfl,rfl,rfl,trivial⟩,trivial⟩⟩,.inr ⟨_,_,rfl,rfl,rfl,rfl,.inl (bG pE1)⟩,trivial⟩ (by decide) ⟨.inl rfl,.inl rfl,.inr rfl,trivial⟩ ⟨.inl rfl,.inl rfl,.inr ⟨_,rfl⟩,trivial⟩))) ?_
  refine hIB _ fun z3 E3 D hD hE3=> ?_
  have pE3:aj E3=true:=by rw [hE3];exact ag _ _
  cbv
  ((repeat'(rw [e1];cbv)))
  skip
  exact hB ((k+1,D,E3)) _ _ ⟨h3 D hD,⟨rfl,hE3⟩⟩ (Wk.weak (wkM [some 0,none,none,some 3,some 4,some 5,some 6,some 7,some 8,some 9,some 10,some 11] ⟨rfl,rfl,rfl,rfl,rfl,rfl,rfl,rfl,rfl,rfl,rfl,rfl,rfl,rfl,rfl,rfl,rfl,trivial⟩ ⟨.inr ⟨_,_,rfl,rfl,rfl,rfl,.inr ⟨⟨rfl,rfl,rfl,rfl,rfl,trivial⟩,trivial⟩⟩,.inl rfl,.inl rfl,.inr (wqE rfl rfl),.inr (wqE rfl rfl),.inr (wqE rfl rfl),.inr (wqE rfl rfl),.inr (wqE rfl pM),.inr (wqE rfl pA),.inr (wqE rfl rfl),.inr ⟨_,_,rfl,rfl,rfl,rfl,.inr ⟨⟨rfl,rfl,rfl,rfl,trivial⟩,trivial⟩⟩,.inr (wqE rfl pE3),trivial⟩ (by decide) ⟨.inl rfl,.inl rfl,.inr rfl,trivial⟩ ⟨.inl rfl,.inl rfl,.inr ⟨_,rfl⟩,trivial⟩))
theorem Ed{xs:List Int}{i:Int}(h:i∉xs):cnt xs i=0:=by
 induction xs with
 |nil=>rfl
 |cons x xs ih=>
  have e:cnt (x::xs) i=(if x=i then 1 else 0)+cnt xs i:=by simp [cnt]
  rw [e,ih (fun hm=>h (List.mem_cons_of_mem _ hm)),if_neg (fun hx=>h (by rw [hx];exact List.mem_cons_self ..))]
  rfl
theorem CW{i:Int}{k:Int}{l:List Int}{LL:List (List Int)}(h:i∈l):pi i k (l::LL)=k:=by
 have:=(Dc l i).2 h
 simp only [pi]
 rw [if_pos (by omega)]
theorem z8{i:Int}{k:Int}{l:List Int}{LL:List (List Int)}(h:i∉l):pi i k (l::LL)=pi i (k+1) LL:=by
 simp only [pi]
 rw [Ed h,if_neg (by omega)]
theorem CX{i:Int}:∀(LL:List (List Int))(k:Int),i∈LL.flatten→k≤pi i k LL∧pi i k LL<k+(LL.length:Int)
 | [],k,h=>by simp at h
 |l::LL,k,h=>by
  by_cases hm:i∈l
  ·rw [CW hm];simp only [zqx];omega
  ·rw [z8 hm]
   have:=CX LL (k+1) (by rw [List.flatten_cons]at h;exact(List.mem_append.1 h).resolve_left hm)
   simp only [zqx];omega
theorem D7(P:List Int)(c:Int)(C:List Int):elZ (P++c::C) (P.length:Int)=c:=nP (by rw [zqg (Nat.le_refl _)];simp)
theorem C8{α:Type}(f:Int→Int→α):∀(LL:List (List Int))(CC P:List Int)(m n:Nat),CC.length=LL.length→LL.flatten=ixs m n→(ixs m n).map (fun i=>f (elZ (P++CC) (pi i (P.length:Int) LL)) i)=(LL.zip CC).flatMap fun q=>q.1.map (f q.2)
 | [],CC,P,m,n,hc,hf=>by rw [←hf];rfl
 |l::LL,[],P,m,n,hc,hf=>by simp at hc
 |l::LL,c::CC,P,m,n,hc,hf=>by
  obtain⟨h1,h2,h3⟩:=lD hf
  have e:ixs (m:Int) n=l++LL.flatten:=by rw [←hf,List.flatten_cons]
  rw [e,List.map_append,List.zip_cons_cons,List.flatMap_cons]
  congr 1
  ·refine List.map_congr_left fun i hi=> ?_
   rw [CW hi,D7]
  ·have h4:LL.flatten=ixs ((m+l.length:Nat):Int) (n-l.length):=by rw [h3,Int.natCast_add]
   have:=C8 f LL CC (P++[c]) (m+l.length) (n-l.length) (by simpa using hc) h4
   rw [←this,←h4]
   refine List.map_congr_left fun i hi=> ?_
   have hil:i∉l:=fun hm=>by
    rw [h2,k6]at hm
    rw [h4,k6]at hi
    omega
   rw [z8 hil,zqC,zqe,zqm]
   rfl
theorem D5{α:Type}(f:Int→Int→α)(LL:List (List Int))(CC:List Int)(n:Nat)(hc:CC.length=LL.length)(hf:LL.flatten=ixs 0 n):(ixs 0 n).map (fun i=>f (elZ CC (pi i 0 LL)) i)=(LL.zip CC).flatMap fun q=>q.1.map (f q.2):=C8 f LL CC [] 0 n hc hf
theorem wK{V:LLA}{rtl keeps:Bool}{bx:Bx}{c L:Nat}(p:Pl)(ns:List ak):∀(ks:List Int)(st:St),(∀k∈ks,yr V rtl keeps bx c L k)→(j9 bx p rtl ns ks st).1.length=ks.length∧(j9 bx p rtl ns ks st).2.1.length≤st.1.length+ks.length*c∧(j9 bx p rtl ns ks st).2.2.length≤st.2.length+ks.length*c
 | [],st,_=>by simp [j9]
 |k::r,st,h=>by
  have h1:=AU (h k (List.mem_cons_self ..)) p ns st
  have h2:=wK p ns r (wa bx p rtl ns k st).2 (fun x hx=>h x (List.mem_cons_of_mem _ hx))
  have e:(k::r).length*c=r.length*c+c:=by rw [zqx,Nat.succ_mul]
  rw [e]
  simp only [j9,zqx]
  refine⟨by rw [h2.1],?_,?_⟩
  ·exact Nat.le_trans h2.2.1 (Nat.le_trans (Nat.add_le_add_right h1.1 _) (Nat.le_of_eq (by rw [Nat.add_assoc,Nat.add_comm c])))
  ·exact Nat.le_trans h2.2.2 (Nat.le_trans (Nat.add_le_add_right h1.2 _) (Nat.le_of_eq (by rw [Nat.add_assoc,Nat.add_comm c])))
theorem wu{V:LLA}{rtl keeps:Bool}{bx:Bx}{c L:Nat}(p:Pl)(ns:List ak):∀(ks:List (Int×Int))(st:St),(∀k∈ks,yr V rtl keeps bx c L k.1)→(tu bx p rtl ns ks st).1.length=ks.length∧(tu bx p rtl ns ks st).2.1.length≤st.1.length+ks.length*c∧(tu bx p rtl ns ks st).2.2.length≤st.2.length+ks.length*c
 | [],st,_=>by simp [tu]
 |(k,z)::r,st,h=>by
  have h1:=wZ (h (k,z) (List.mem_cons_self ..)) p.row ⟨3,z⟩ (y9 p (kst ns k) rtl z) st
  have h2:=wu p ns r (sW bx p.row k ⟨3,z⟩ (y9 p (kst ns k) rtl z) st).2 (fun x hx=>h x (List.mem_cons_of_mem _ hx))
  have e:((k,z)::r).length*c=r.length*c+c:=by rw [zqx,Nat.succ_mul]
  rw [e]
  simp only [tu,zqx]
  refine⟨by rw [h2.1],?_,?_⟩
  ·exact Nat.le_trans h2.2.1 (Nat.le_trans (Nat.add_le_add_right h1.1 _) (Nat.le_of_eq (by rw [Nat.add_assoc,Nat.add_comm c])))
  ·exact Nat.le_trans h2.2.2 (Nat.le_trans (Nat.add_le_add_right h1.2 _) (Nat.le_of_eq (by rw [Nat.add_assoc,Nat.add_comm c])))
theorem BC{cs:List Int}{gap inner ct:Int}(h:acr cs gap inner=true):(pll cs gap inner ct).length=cs.length:=by
 unfold pll
 rw [if_neg (by rw [h];simp),wz]
theorem rd(ns:List ak)(hl:ns.length≤1048576)(rtl keeps:Bool)(bx:Bx)(c L:Nat)(n:Int)(p:Pl)(w0 w1 h0' h1':Int)(hpw:p.w=⟨w0,w1⟩)(hph:p.h=⟨h0',h1'⟩)(hkn:p.kids≠[])(hkl:p.kids.length<20)(hk:∀kid∈p.kids,isN ns kid=true)(hbx:∀kid∈p.kids,yr (vwA ak.ac ns) rtl keeps bx c L kid)(st:St)(hm:st.1.length+40*c≤L)(hq:st.2.length+40*c≤L)
  (hal:∀l∈my p (j9 bx p rtl ns p.kids st).1,al5 (lit (j9 bx p rtl ns p.kids st).1 l) (l.map (elZ (pb p (j9 bx p rtl ns p.kids st).1))) (Bc p) (Bb p (j9 bx p rtl ns p.kids st).1)=true)
  (hac:∀cs,cs=wS p (my p (j9 bx p rtl ns p.kids st).1) (tu bx p rtl ns (p.kids.zip (pb p (j9 bx p rtl ns p.kids st).1)) (j9 bx p rtl ns p.kids st).2).1→acr cs (sM p) (yl p cs)=true):
  SE prog 259 (sR (vwA ak.ac ns) rtl keeps) (SM st.1) (SA st.2) [.c (.ptr 0 0 0),.agg (nwL n p.s p.row p.al p.ac (knS p.wide) (.view (vw ao p.kids))),agP ⟨w0,w1⟩,agP ⟨h0',h1'⟩] (.t (.agg (jK.ac (B5 bx p rtl ns st).1))) (SM (B5 bx p rtl ns st).2.1) (SA (B5 bx p rtl ns st).2.2):=by
 have cI:=ik ns hl rtl keeps bx c L n p hkl hk hbx st (by omega) (by omega)
 have hIlen:=wK p ns p.kids st hbx
 have hb20:p.kids.length*c≤20*c:=Nat.mul_le_mul_right c (by omega)
 obtain⟨ra,hra⟩:=nmE (j9 bx p rtl ns p.kids st)
 unfold B5
 dsimp only
 rw [←hra]at cI hIlen hal hac⊢
 obtain⟨I,st1⟩:=ra
 dsimp only at cI hIlen hal hac⊢
 have hIl:=hIlen.1
 have hI2:I.length≤1048576:=by omega
 have hzl:=mK p I
 have cS:=mN ns hl rtl keeps bx c L n p (pb p I) hkl (by rw [hzl,hIl]) hk hbx st1 (by omega) (by omega)
 obtain⟨rb,hrb⟩:=nmE (tu bx p rtl ns (p.kids.zip (pb p I)) st1)
 have hSlen:rb.1.length=p.kids.length:=by
  have:=(wu (V:=vwA ak.ac ns) (rtl:=rtl) (keeps:=keeps) (c:=c) (L:=L) p ns (p.kids.zip (pb p I)) st1 (fun k hkm=>hbx k.1 (by obtain⟨i,hi⟩:=List.mem_iff_getElem?.1 hkm;exact zqd (za (by obtain⟨a,b⟩:=k;exact hi)).1))).1
  rw [←hrb,zqB,hzl,hIl,Nat.min_self]at this
  exact this
 rw [←hrb]at cS hac⊢
 obtain⟨S0,st2⟩:=rb
 dsimp only at cS hac hSlen⊢
 obtain⟨s0,row,wd,hgh,iw,ih,al,ac,kids⟩:=p
 dsimp only at hpw hph hkn hkl hk hbx hIl hIlen hSlen cI cS
 subst hpw hph
 obtain⟨q,hqd⟩:∃q:Pl,q=⟨s0,row,⟨w0,w1⟩,⟨h0',h1'⟩,iw,ih,al,ac,kids⟩:=⟨_,rfl⟩
 rw [←hqd]at hal hac hzl cS⊢
 have hqk:q.kids=kids:=by rw [hqd]
 have hk20:kids.length≤1048576:=by omega
 have hZk:(pb q I).length=kids.length:=by rw [hzl,hIl]
 have cZ:=ki n s0 row al ac (knS iw) (vw ao kids) I hI2
 have cN:=km n s0 row al ac (knS iw) (vw ao kids) I hI2
 have hq1:my q I=lns I (fP s0 row) (gW al) (!decide (s0.wrap=1)):=by rw [hqd];rfl
 have hq2:Bb q I=tak al (lng I (fP s0 row) (gW al) (!decide (s0.wrap=1))):=by rw [hqd];rfl
 have hq3:pb q I=lsz I (fP s0 row) (gW al) (!decide (s0.wrap=1)) (tak al (lng I (fP s0 row) (gW al) (!decide (s0.wrap=1)))):=by rw [hqd];rfl
 rw [←hq3]at cZ
 rw [←hq2]at cN
 have hfl:(my q I).flatten=ixs 0 kids.length:=by rw [hq1,lC,hIl]
 have hln:(my q I).length≤64:=by rw [hq1];exact Nat.le_trans (mw ..) (by omega)
 have hlb:∀l∈my q I,l.length≤1048576∧∀i∈l,0≤i∧i<(S0.length:Int):=fun l hm=>by
  rw [hq1]at hm
  exact⟨Nat.le_trans (ju hm) hI2,fun i hi=>by have:=tP hm hi;omega⟩
 have cLn:=iO I (fP s0 row) (gW al) (!decide (s0.wrap=1)) hI2
 rw [←hq1]at cLn
 have cC:=nU n s0 row al ac (knS iw) (vw ao kids) (my q I) S0 (by omega) hln hlb
 have hq4:wS q (my q I) S0=Ci s0 row ac (my q I) S0:=by rw [hqd];rfl
 rw [←hq4]at cC
 have hcl:(wS q (my q I) S0).length=(my q I).length:=uG q _ _ hln
 have hac:=hac _ rfl
 have hgA:Bc q=fP s0 row:=by rw [hqd];rfl
 have hgC:sM q=fP s0 (!row):=by rw [hqd];rfl
 unfold Ga
 dsimp only
 obtain⟨LL,hLL⟩:=nmE (my q I)
 obtain⟨ZZ,hZZ⟩:=nmE (pb q I)
 obtain⟨IN,hIN⟩:=nmE (Bb q I)
 rw [←hLL]at hfl hln hlb cC hcl cLn hal hac⊢
 rw [←hZZ]at hZk cZ cS hal⊢
 rw [←hIN]at cN hal⊢
 obtain⟨CC,hCC⟩:=nmE (wS q LL S0)
 rw [←hCC]at hcl cC hac⊢
 obtain⟨S1,hS1⟩:=nmE (AA q ns S0 ZZ (LL.zip CC))
 have hfa:(ixs 0 S0.length).map (fun i=>wP q ns S0 ZZ (elZ CC (pi i 0 LL)) i)=S1:=by rw [hS1,hSlen];exact D5 (wP q ns S0 ZZ) LL CC kids.length hcl hfl
 have hlo:∀i:Int,0≤i→i<(q.kids.length:Int)→0≤pi i 0 LL∧pi i 0 LL<(CC.length:Int):=fun i h0 h1=>by
  rw [hqk]at h1
  have:=CX LL 0 (show i∈LL.flatten by rw [hfl,k6];omega)
  omega
 have cF:=fun C D=>oQ ns hl rtl keeps C D n q (by rw [hqk];exact hk20) (by rw [hqk];exact hk) LL CC S0 ZZ (by rw [hqk];exact hSlen) (by rw [hqk];exact hZk) (by omega) (fun l hm=>(hlb l hm).1) hlo
 simp only [hfa]at cF
 have hS1l:S1.length=kids.length:=by rw [←hfa,zql,bW,hSlen]
 rw [←hS1]
 obtain⟨am,an⟩:=ac
 obtain⟨lm,ln⟩:=al
 have cG:=gz s0 row
 have cG2:=gz s0 (!row)
 have cT:=fK CC (sM q) (by rw [hcl];omega)
 have cK:=dJ am an (crt CC (sM q))
 have hq6:yl q CC=tak ⟨am,an⟩ (crt CC (sM q)):=by rw [hqd];rfl
 rw [←hq6]at cK
 have cL:=nX CC (sM q) (yl q CC) (ctP q) (by omega)
 have hq7:ctP q=if s0.wrap=1 then 2 else s0.content:=by rw [hqd];rfl
 have hq8:El q CC=pll CC (sM q) (yl q CC) (ctP q):=rfl
 rw [←hq8]at cL
 have hSTl:(El q CC).length=CC.length:=by rw [hq8];exact BC hac
 rw [←hgC]at cG2
 rw [hgA]at hal
 obtain⟨GP,hGP⟩:=nmE (fP s0 row)
 rw [←hGP]at cG cLn hal
 obtain⟨GC,hGC⟩:=nmE (sM q)
 obtain⟨AC',hAC⟩:=nmE (yl q CC)
 obtain⟨ST,hST⟩:=nmE (El q CC)
 rw [←hGC]at cG2 cT cK cL
 rw [←hAC]at cK cL⊢
 rw [←hST]at cL hSTl⊢
 obtain⟨TT,hTT⟩:=nmE (crt CC GC)
 rw [←hTT]at cT cK
 have cRm:=gZ lm ln
 obtain⟨RM,hRM⟩:=nmE (gW ⟨lm,ln⟩);(try rw [←hRM]at cRm);(try rw [←hRM]at cLn)
 obtain⟨wr,hwr⟩:=nmE ((!decide (s0.wrap=1)))
 rw [←hwr]at cLn
 obtain⟨V,hV⟩:=nmE (vwA ak.ac ns)
 have hcS:∀zs,zs=pb q I→True:=fun _ _=>trivial
 have hqa:q.s=s0∧q.row=row∧q.al=⟨lm,ln⟩∧q.ac=⟨am,an⟩∧q.wide=iw∧q.w=⟨w0,w1⟩∧q.h=⟨h0',h1'⟩:=by rw [hqd];exact⟨rfl,rfl,rfl,rfl,rfl,rfl,rfl⟩
 obtain⟨hqs,hqr,hql,hqc,hqw,hqW,hqH⟩:=hqa
 rw [hqs,hqr,hql,hqc,hqw,hqk]
 simp only [hqs,hqr,hql,hqc,hqw,hqk]at cF
 simp only [←hV]at cF
 rw [←hV]at cI cS⊢
 obtain⟨KW,hKW⟩:=nmE (knS iw);(try rw [←hKW]at cI);(try rw [←hKW]at cS);(try rw [←hKW]at cZ);(try rw [←hKW]at cN);(try rw [←hKW]at cC);(try rw [←hKW]at⊢)
 simp only [←hKW]at cF
 obtain⟨K,hK⟩:=nmE (vw ao kids)
 have hKl:K.length=kids.length:=by rw [hK,af]
 have iK:bR K=true:=by rw [hK];exact aG _ _
 have kK:∀y∈K,y.length=1:=by rw [hK];exact bC (c:=ao) (k:=1) fun _=>rfl
 have dK:∀y∈K,y.all dat=true:=by rw [hK];exact az
 rw [←hK]at cI cS cZ cN cC⊢
 simp only [←hK]at cF
 obtain⟨vI,hvI⟩:=nmE (vw ah.c I)
 have hvIl:vI.length=I.length:=by rw [hvI,af]
 have ivI:bR vI=true:=by rw [hvI];exact aG _ _
 have kvI:∀y∈vI,y.length=9:=by rw [hvI];exact bC (c:=ah.c) (k:=9) fun _=>rfl
 have dvI:∀y∈vI,y.all dat=true:=by rw [hvI];exact az
 rw [←hvI]at cI cZ cN cLn
 obtain⟨vZ,hvZ⟩:=nmE (vw ao ZZ)
 have hvZl:vZ.length=ZZ.length:=by rw [hvZ,af]
 have ivZ:bR vZ=true:=by rw [hvZ];exact aG _ _
 have kvZ:∀y∈vZ,y.length=1:=by rw [hvZ];exact bC (c:=ao) (k:=1) fun _=>rfl
 have dvZ:∀y∈vZ,y.all dat=true:=by rw [hvZ];exact az
 rw [←hvZ]at cZ cS
 simp only [←hvZ]at cF
 obtain⟨vS,hvS⟩:=nmE (vw av.c S0)
 have hvSl:vS.length=S0.length:=by rw [hvS,af]
 have ivS:bR vS=true:=by rw [hvS];exact aG _ _
 have kvS:∀y∈vS,y.length=7:=by rw [hvS];exact bC (c:=av.c) (k:=7) fun _=>rfl
 have dvS:∀y∈vS,y.all dat=true:=by rw [hvS];exact az
 rw [←hvS]at cS cC
 simp only [←hvS]at cF
 obtain⟨vC,hvC⟩:=nmE (vw ao CC)
 have hvCl:vC.length=CC.length:=by rw [hvC,af]
 have ivC:bR vC=true:=by rw [hvC];exact aG _ _
 have kvC:∀y∈vC,y.length=1:=by rw [hvC];exact bC (c:=ao) (k:=1) fun _=>rfl
 have dvC:∀y∈vC,y.all dat=true:=by rw [hvC];exact az
 rw [←hvC]at cC cT cL
 simp only [←hvC]at cF
 obtain⟨vL,hvL⟩:=nmE (vwA lnA LL)
 rw [←hvL]at cLn cC
 simp only [←hvL]at cF
 obtain⟨vT,hvT⟩:=nmE (vw ao ST)
 have hvTl:vT.length=ST.length:=by rw [hvT,af]
 have ivT:bR vT=true:=by rw [hvT];exact aG _ _
 have kvT:∀y∈vT,y.length=1:=by rw [hvT];exact bC (c:=ao) (k:=1) fun _=>rfl
 have dvT:∀y∈vT,y.all dat=true:=by rw [hvT];exact az
 rw [←hvT]at cL
 obtain⟨vS1,hvS1⟩:=nmE (vw av.c S1)
 have hvS1l:vS1.length=S1.length:=by rw [hvS1,af]
 have ivS1:bR vS1=true:=by rw [hvS1];exact aG _ _
 have kvS1:∀y∈vS1,y.length=7:=by rw [hvS1];exact bC (c:=av.c) (k:=7) fun _=>rfl
 have dvS1:∀y∈vS1,y.all dat=true:=by rw [hvS1];exact az
 simp only [←hvS1]at cF
 have cFr:=fW s0
 obtain⟨fe,hfe⟩:=nmE (nL s0)
 rw [←hfe]at cFr
 obtain⟨fl,ft,fr,fb⟩:=fe
 obtain⟨M0,hM0⟩:=nmE (SM st.1)
 obtain⟨A0,hA0⟩:=nmE (SA st.2)
 obtain⟨M1,hM1⟩:=nmE (SM st1.1)
 obtain⟨A1,hA1⟩:=nmE (SA st1.2)
 obtain⟨M2,hM2⟩:=nmE (SM st2.1)
 obtain⟨A2,hA2⟩:=nmE (SA st2.2)
 have pM0:aj M0=true:=by rw [hM0];exact bX _
 have pA0:aj A0=true:=by rw [hA0];exact bZ _
 have pM1:aj M1=true:=by rw [hM1];exact bX _
 have pA1:aj A1=true:=by rw [hA1];exact bZ _
 have pM2:aj M2=true:=by rw [hM2];exact bX _
 have pA2:aj A2=true:=by rw [hA2];exact bZ _
 have kM:∀y∈M2,y.length=10:=by rw [hM2];exact Gk _
 have dM:∀y∈M2,y.all dat=true:=by rw [hM2];exact ym _
 have kA:∀y∈A2,y.length=6:=by rw [hA2];exact Gl _
 have dA:∀y∈A2,y.all dat=true:=by rw [hA2];exact yn _
 have cF:=cF (.view M2) (.view A2)
 rw [←hM0,←hA0,←hM1,←hA1]at cI
 rw [←hM1,←hA1,←hM2,←hA2]at cS
 rw [←hM0,←hA0,←hM2,←hA2]
 have hO:=fun(g:Gd)(hg:g= @G0 bp0 prog 3 f259.ntmps)(Q':Exit→List (Nat×AV)→EH→Prop) E hE hQ'=>BV hg (Q:=Q') V rtl keeps n s0 row ⟨lm,ln⟩ ⟨am,an⟩ KW w0 w1 h0' h1' K M2 A2 pM2 pA2 IN GP AC' vI vL vZ vS1 vC vT fl ft fr fb ⟨w0,w1⟩ ⟨h0',h1'⟩ iw ih kids hK hk20 I hvI hIl ZZ CC ST S1 hvZ hvC hvT hvS1 hSTl hZk hS1l hfe.symm hGP LL hvL (by omega) hcl hfl hal E hE hQ'
 rw [←hqd]at hO
 obtain⟨FF,hFF⟩:=nmE (wh q rtl I IN AC' ZZ S1 ST 0 (LL.zip CC))
 have hFl:FF.length=kids.length:=by rw [hFF,uw,fd hcl,hfl,bW]
 rw [←hFF]at hO⊢
 have hkp:0<kids.length:=List.length_pos_iff.2 hkn
 obtain⟨f0,FT,hF0⟩:∃f t,FF=f::t:=by
  cases FF with
  |nil=>simp at hFl;omega
  |cons a b=>exact⟨_,_,rfl⟩
 obtain⟨sd0,hsd0⟩:∃y,S1[(0:Int).toNat]? =some y:=⟨_,zqc (by show 0<S1.length;omega)⟩
 have hsz0:sdZ S1 0=sd0:=vk (Int.le_refl 0) hsd0
 obtain⟨vF,hvF⟩:=nmE (vw aV.c FF)
 have hvFl:vF.length=FF.length:=by rw [hvF,af]
 have ivF:bR vF=true:=by rw [hvF];exact aG _ _
 have kvF:∀y∈vF,y.length=5:=by rw [hvF];exact bC (c:=aV.c) (k:=5) fun _=>rfl
 have dvF:∀y∈vF,y.all dat=true:=by rw [hvF];exact az
 have pF:aj vF=true:=by rw [hvF];exact ag _ _
 have hF0v:vF[(0:Int).toNat]? =some (lc (aV.c f0)):=by rw [hvF,hF0];rfl
 have hF00:(0:Int)<bg vF:=by rw [hvF,aN];omega
 have hS0v:vS1[(0:Int).toNat]? =some (lc (av.c sd0)):=by rw [hvS1];exact bh hsd0
 have cWi:=gY fl ft fr fb
 have cHi:=hP fl ft fr fb
 obtain⟨B1,hB1⟩:=nmE (adE fl fr)
 obtain⟨B2,hB2⟩:=nmE (adE ft fb)
 change PC0 _ _ (.i (adE fl fr))at cWi
 change PC0 _ _ (.i (adE ft fb))at cHi
 rw [←hB1]at cWi
 rw [←hB2]at cHi
 obtain⟨XW,hXW⟩:=nmE ((if row then IN else AC'))
 obtain⟨XH,hXH⟩:=nmE ((if row then AC' else IN))
 obtain⟨W1,hW1⟩:=nmE (wrap64 (XW+B1))
 obtain⟨H1,hH1⟩:=nmE (wrap64 (XH+B2))
 obtain⟨BB,hBB⟩:=nmE (wrap64 (f0.y+sd0.base))
 have cT1:=dJ w0 w1 W1
 have cT2:=dJ h0' h1' H1
 have cCl:=aO BB
 obtain⟨R1,hR1⟩:=nmE (tak ⟨w0,w1⟩ W1);(try rw [←hR1]at cT1)
 obtain⟨R2,hR2⟩:=nmE (tak ⟨h0',h1'⟩ H1);(try rw [←hR2]at cT2)
 obtain⟨R3,hR3⟩:=nmE (cl BB);(try rw [←hR3]at cCl)
 have hbo:jK.ac (Dh q IN AC' FF S1)=[.J R1,.J R2,.J R3,.view vF]:=by
  rw [hR1,hR2,hR3,hW1,hH1,hBB,hXW,hXH,hB1,hB2,hvF]
  unfold Dh
  rw [hqs,hqW,hqH,hqr,←hfe,hsz0,hF0]
  rfl
 rw [hbo]
 refine vh (t:=45) (k:=5) (V:=vF) (R:= .t (.agg [.J R1,.J R2,.J R3,.own 5])) ?_ kvF dvF rfl rfl rfl
 have tRp:∀g:Gd,g=G0 prog 3 f259.ntmps→g .rp (g .ln K) [.J 0,.J 0,.J 0,.J 0,.J 0]=vw aV.c (List.replicate kids.length ⟨0,0,0,0,0⟩):=fun g hg=>by
  rw [yM hg,bD hg,hK,aN,Int.toNat_natCast];exact pt aV.c kids.length ⟨0,0,0,0,0⟩
 have hKl:K.length≤1048576:=by rw [hK,af];exact hk20
 have t0:∀g:Gd,g=G0 prog 3 f259.ntmps→g .q .neq s0.wrap 1=wr:=fun g hg=>by rw [bk hg,hwr];exact(dx _ _).trans (by simp)
 have te:∀g:Gd,g=G0 prog 3 f259.ntmps→g .q .eql s0.wrap 1=decide (s0.wrap=1):=fun g hg=>by rw [bv hg];exact zqn _ _
 have t1:∀g:Gd,g=G0 prog 3 f259.ntmps→g .w .add .i64 XW B1=W1:=fun g hg=>by rw [aM hg,hW1]
 have t2:∀g:Gd,g=G0 prog 3 f259.ntmps→g .w .add .i64 XH B2=H1:=fun g hg=>by rw [aM hg,hH1]
 have t3:∀g:Gd,g=G0 prog 3 f259.ntmps→g .w .add .i64 f0.y sd0.base=BB:=fun g hg=>by rw [aM hg,hBB]
 clear hbo hR1 hR2 hR3 hW1 hH1 hBB hB1 hB2 hfe hqs hqr hql hqc hqw hqW hqH hsz0 hF0 hFl hFF hS1 hsd0 hS1l hIl hZk hln hlb hfl hcl hTT hGC hAC hST hIN hqd hlo hfa hSTl hal hac hwr hgA hgC hq6 hq8 hcS hqk hLL hZZ hCC hzl hSlen hIlen hra hrb hb20 hM0 hA0 hM1 hA1 hM2 hA2 hKW hRM hV hGP hbx hk hm hq
 refine du ([]) ([]) (c:=aK f259) aD func259 (by kernel_rfl) (by kernel_rfl) (bl (by rfl)) (by kernel_rfl) (fun g eff hd F heff hhd hg hF=> ?_)
 have t0:=t0 g hg
 have te:=te g hg
 have t1:=t1 g hg
 have t2:=t2 g hg
 have t3:=t3 g hg
 have tRp:=tRp g hg
 have hO:=hO g hg
 cbv
 ((repeat'((first|rw [t0]|refine ad hg cZ ?_|refine aa hg cZ ?_|refine ad hg cN ?_|refine aa hg cN ?_|refine ad hg cG ?_|refine aa hg cG ?_|refine ad hg cRm ?_|refine aa hg cRm ?_|refine ad hg cLn ?_|refine aa hg cLn ?_|refine ad hg cC ?_|refine aa hg cC ?_|refine ad hg cG2 ?_|refine aa hg cG2 ?_|refine ad hg cT ?_|refine aa hg cT ?_|refine ad hg cK ?_|refine aa hg cK ?_|refine iC rfl hg 0 1 2 cI rfl rfl rfl (by decide) rfl pM0 pA0 ⟨rfl,.inl ⟨rfl,rfl⟩,trivial⟩ rfl ?_|refine iC rfl hg 0 7 8 cS rfl rfl rfl (by decide) rfl pM1 pA1 ⟨rfl,.inl ⟨rfl,rfl⟩,rfl,trivial⟩ rfl ?_|refine bB hg cF (dm (o3 (r:=0) (rm:=9) (ra:=10) [.view V,.B rtl,.B keeps] rfl rfl rfl kM dM rfl kA dA) (bM rfl (aq (ay rfl) (aq (ay rfl) (aq (ay rfl) (aq (ay rfl) aF)))))) ivS1 ?_);cbv)))
 by_cases hw1:s0.wrap=1
 all_goals
  first|rw [if_pos hw1]at hq7|rw [if_neg hw1]at hq7
  rw [hq7]at cL
  first|rw [zqu hw1]at te|rw [zqt hw1]at te
  ((repeat'((first|rw [te]|refine ad hg cG2 ?_|refine aa hg cG2 ?_|refine ad hg cL ?_|refine aa hg cL ?_|refine ad hg cFr ?_|refine aa hg cFr ?_);cbv)))
  refine D0 hg (by decide) hKl ?_
  cbv
  generalize hE0:g .rp (g .ln K) _=E3
  have hE3:E3=vw aV.c (List.replicate kids.length ⟨0,0,0,0,0⟩):=by rw [←hE0];exact tRp
  clear hE0
  have pE3:aj E3=true:=by rw [hE3];exact ag _ _
  refine kP hg (lO (aK f259) 0) (by kernel_rfl) [(0,.p 0),(5,.p 3),(6,.p 4),(7,.p 5),(8,.p 6),(9,.v vI),(10,.v vZ),(11,.i (IN)),(12,.i (GP)),(13,.v vL),(14,.v vS1),(15,.v vC),(16,.i (AC')),(18,.v vT),(19,.p 9),(20,.p 10),(21,.i (0))] [.bx 79 5 [.view V,.B rtl,.B keeps,.own 7,.own 8],.gn,.gn,.bx 89 68 (nwL n s0 row ⟨lm,ln⟩ ⟨am,an⟩ KW (.view K)),.bx 28 2 [.J w0,.J w1],.bx 28 2 [.J h0',.J h1'],.bx 64 4 [.J 0,.J 0,.J 0,.N],.rw ⟨199,10,M2⟩,.rw ⟨206,6,A2⟩,.bx 85 4 [.J fl,.J ft,.J fr,.J fb],.bx 64 4 [.J 0,.J 0,.J 0,.own 11],.rw ⟨45,5,E3⟩] (bH (sl1 11 vS1) (jb rfl kvS1 dvS1) (Wk.weak (wkM [some 0,none,none,some 3,some 4,some 5,some 6,some 9,some 10,some 12,some 14,some 13] ⟨rfl,rfl,rfl,rfl,rfl,rfl,rfl,rfl,rfl,rfl,rfl,rfl,rfl,rfl,rfl,rfl,rfl,trivial⟩ ⟨.inr ⟨_,_,rfl,rfl,rfl,rfl,.inr ⟨⟨rfl,rfl,rfl,rfl,rfl,trivial⟩,trivial⟩⟩,.inl rfl,.inl rfl,.inr (wqE rfl rfl),.inr (wqE rfl rfl),.inr (wqE rfl rfl),.inr (wqE rfl rfl),.inr ⟨_,_,rfl,rfl,rfl,rfl,.inl (bG pM2)⟩,.inr ⟨_,_,rfl,rfl,rfl,rfl,.inl (bG pA2)⟩,.inr (wqE rfl rfl),.inr ⟨_,_,rfl,rfl,rfl,rfl,.inr ⟨⟨rfl,rfl,rfl,rfl,trivial⟩,trivial⟩⟩,.inr ⟨_,_,rfl,rfl,rfl,rfl,.inl (bG pE3)⟩,trivial⟩ (by decide) ⟨.inl rfl,.inl rfl,.inr rfl,trivial⟩ ⟨.inl rfl,.inl rfl,.inr ⟨_,rfl⟩,trivial⟩))) ?_
  refine hO _ E3 hE3 fun z2 E2 hE2=> ?_
  obtain rfl:vF=E2:=by rw [hE2,hvF]
  cbv
  cases row
  all_goals
   (try simp only [Bool.false_eq_true,if_false]at hXW hXH)
   (try simp only [if_true]at hXW hXH)
   subst hXW hXH
   (try cbv)
   ((repeat'((first|rw [t1]|rw [t2]|rw [t3]|refine ad hg cWi ?_|refine aa hg cWi ?_|refine ad hg cHi ?_|refine aa hg cHi ?_|refine ad hg cT1 ?_|refine aa hg cT1 ?_|refine ad hg cT2 ?_|refine aa hg cT2 ?_|refine ad hg cCl ?_|refine aa hg cCl ?_|refine goX hg _ (Int.le_refl 0) hS0v rfl ?_|refine goY hg (Int.le_refl 0) hF00 fun j hj hjl=> ?_;subst hj|refine⟨_,hF0v,?_⟩);cbv)))
   exact Ax 7 8 11 hF rfl (.inr ⟨rfl,rfl,rfl,rfl,trivial⟩) rfl rfl rfl rfl (by decide) rfl pM2 pA2 pF
end Go.Proofs.YtdnnffbbhijmkaaGreat
