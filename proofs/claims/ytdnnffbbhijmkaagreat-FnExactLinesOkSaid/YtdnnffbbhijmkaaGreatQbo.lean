/- The program's box of any node of a tree. -/
import Derived.Test.YtdnnffbbhijmkaaGreatQbn
set_option linter.unusedVariables false
set_option linter.unusedSimpArgs false
set_option maxHeartbeats 16000000
namespace Go.Proofs.YtdnnffbbhijmkaaGreat
open Go.ChangeShapes Go.WideShapes Go.ChangeAt Go.RowKit Am Go.Proofs.Tryz
set_option maxRecDepth 100000
theorem Ag{g:Gd}(hg:g= @G0 bp0 prog 0 f186.ntmps){Q:Exit→List (Nat×AV)→EH→Prop}(V:LLA)(rtl:Bool)(n:Int)(s0:ar)(row:Bool)(iw ih al ac:aw)(w0 w1 h0' h1':Int)(K:LLA)(IN AC':Int)(vI vL vZ vS vC vT:LLA)(fl ft fr fb:Int)(kids:List Int)(hK:K=vw ao kids)(hkl:kids.length≤1048576)(I:List ah)(hvI:vI=vw ah.c I)(hIl:I.length=kids.length)(ZZ CC ST:List Int)(S1:List av)(hvZ:vZ=vw ao ZZ)(hvC:vC=vw ao CC)(hvT:vT=vw ao ST)(hvS:vS=vw av.c S1)(hTl:ST.length≤1048576)
  (hzl:ZZ.length=kids.length) (hsl:S1.length=kids.length) (hf:nL s0=⟨fl,ft,fr,fb⟩) (LL:List (List Int)) (hvL:vL=vwA lnA LL) (hLl:LL.length≤1048576) (hcl:CC.length=LL.length) (hfl:LL.flatten=ixs 0 kids.length)
  (E:LLA) (hE:E=vw aV.c (List.replicate kids.length ⟨0,0,0,0,0⟩))
  (hQ:∀(z:Int)(E:LLA),E=vw aV.c (wh ⟨s0,row,⟨w0,w1⟩,⟨h0',h1'⟩,iw,ih,al,ac,kids⟩ rtl I IN AC' ZZ S1 ST 0 (LL.zip CC))→Q (.exit 4) [(213,.t (abl (false))),(4,.p 0),(6,.p 1),(7,.p 2),(8,.p 3),(9,.p 4),(11,.v vI),(12,.v vL),(13,.i (IN)),(14,.v vZ),(15,.v vS),(16,.v vC),(18,.i (AC')),(20,.v vT),(28,.p 5),(29,.o 6),(210,.v vL),(211,.i (g .ln vL)),(212,.i (z))] [.bx 95 3 (mA V rtl),.bx 28 2 [.J w0,.J w1],.bx 28 2 [.J h0',.J h1'],.bx 64 4 [.J 0,.J 0,.J 0,.N],.bx 98 75 (plL n s0 ⟨w0,w1⟩ ⟨h0',h1'⟩ row iw ih al ac (.view K)),.bx 85 4 [.J fl,.J ft,.J fr,.J fb],.rw ⟨45,5,E⟩]):
  g .L (lO (aK f186) 2) Q [(4,.p 0),(6,.p 1),(7,.p 2),(8,.p 3),(9,.p 4),(11,.v vI),(12,.v vL),(13,.i (IN)),(14,.v vZ),(15,.v vS),(16,.v vC),(18,.i (AC')),(20,.v vT),(28,.p 5),(29,.o 6),(210,.v vL),(211,.i (g .ln vL)),(212,.i (0))] [.bx 95 3 (mA V rtl),.bx 28 2 [.J w0,.J w1],.bx 28 2 [.J h0',.J h1'],.bx 64 4 [.J 0,.J 0,.J 0,.N],.bx 98 75 (plL n s0 ⟨w0,w1⟩ ⟨h0',h1'⟩ row iw ih al ac (.view K)),.bx 85 4 [.J fl,.J ft,.J fr,.J fb],.rw ⟨45,5,E⟩]:=by
 have hzL:vL=(LL.zip CC).map (fun t=>lnA t.1):=by rw [hvL];exact o9 hcl
 have hzM:(LL.zip CC).map (·.1)=LL:=fd hcl
 have hzl2:(LL.zip CC).length≤1048576:=by rw [zqB];exact Nat.le_trans (Nat.min_le_left ..) hLl
 have hzg:=fun{i t} h=>wj (a:=LL) (b:=CC) (i:=i) (t:=t) h
 have hlb:∀l∈LL,∀i∈l,0≤i∧i<(kids.length:Int):=fun l hl i hi=>by
  have:i∈LL.flatten:=List.mem_flatten.2 ⟨l,hl,hi⟩
  rw [hfl,k6]at this
  omega
 obtain⟨qs,hqs⟩:=nmE (LL.zip CC)
 rw [←hqs]at hzL hzM hzl2 hQ
 simp only [←hqs]at hzg
 have hfq:(qs.map (·.1)).flatten=ixs 0 kids.length:=by rw [hzM];exact hfl
 obtain⟨q,hq⟩:∃q:Pl,q=⟨s0,row,⟨w0,w1⟩,⟨h0',h1'⟩,iw,ih,al,ac,kids⟩:=⟨_,rfl⟩
 rw [←hq]at hQ
 obtain⟨D1,hD1⟩:=nmE (wh q rtl I IN AC' ZZ S1 ST 0 qs)
 rw [←hD1]at hQ
 have hI2:I.length≤1048576:=by omega
 have cG:=gF s0 row
 have hgA:Bc q=fP s0 row:=by rw [hq];rfl
 have hju:q.s.justify=s0.justify:=by rw [hq]
 have hIB:=fun(zo c lb:Int)(h1:0≤zo)(h2:CC[zo.toNat]? =some c) PS vP h3 h4 l L h5 h6 done h7 h8 E h9 Q' hQ'=>BM hg (Q:=Q') V rtl n s0 row iw ih al ac w0 w1 h0' h1' K IN AC' vI vL vZ vS vC vT fl ft fr fb zo kids hK I ZZ CC ST PS S1 hvZ hvC hvT hvS vP h3 h4 hTl hzl hsl hf h1 c h2 lb l L h5 h6 done h7 h8 E h9 hQ'
 simp only [←hq]at hIB
 obtain⟨G,hG⟩:=nmE (fP s0 row);(try rw [←hG]at cG);(try rw [←hG]at hgA)
 replace hvL:=hzL
 have pE:aj E=true:=by rw [hE];exact ag _ _
 refine aY hg aD (by kernel_rfl) vL (fun t=>lnA t.1) qs hvL hzl2 (fun z(s:Int×List aV×LLA)=>[(4,.p 0),(6,.p 1),(7,.p 2),(8,.p 3),(9,.p 4),(11,.v vI),(12,.v vL),(13,.i (IN)),(14,.v vZ),(15,.v vS),(16,.v vC),(18,.i (AC')),(20,.v vT),(28,.p 5),(29,.o 6),(210,.v vL),(211,.i (g .ln vL)),(212,.i (z))]) (fun z(s:Int×List aV×LLA)=>[.bx 95 3 (mA V rtl),.bx 28 2 [.J w0,.J w1],.bx 28 2 [.J h0',.J h1'],.bx 64 4 [.J 0,.J 0,.J 0,.N],.bx 98 75 (plL n s0 ⟨w0,w1⟩ ⟨h0',h1'⟩ row iw ih al ac (.view K)),.bx 85 4 [.J fl,.J ft,.J fr,.J fb],.rw ⟨45,5,s.2.2⟩]) (fun z(s:Int×List aV×LLA)=>s.1=z∧s.2.2=vw aV.c (s.2.1++List.replicate (kids.length-s.2.1.length) ⟨0,0,0,0,0⟩)) (fun(s:Int×List aV×LLA) rest=>(s.2.1++wh q rtl I IN AC' ZZ S1 ST s.1 rest,ixs 0 s.2.1.length++(rest.map (·.1)).flatten)) ((D1,ixs 0 kids.length)) (0,[],E) (by rw [hD1];exact Prod.ext rfl hfq) ⟨rfl,hE⟩ (Wk.weak (wkG [some _,some _,some _,some _,some _,some _,some 6] ⟨rfl,rfl,rfl,rfl,rfl,rfl,rfl,rfl,rfl,rfl,rfl,rfl,rfl,rfl,rfl,rfl,rfl,rfl,trivial⟩ ⟨wqE rfl rfl,wqE rfl rfl,wqE rfl rfl,wqE rfl rfl,wqE rfl rfl,wqE rfl rfl,wqE rfl pE,trivial⟩ (by decide) aI)) (fun z s B hz h0 hi he=> ?_) (fun z s x rest B z0 z1 z2 hx hy h0 hi hc e1 hB=> ?_)
 ·obtain⟨k,D,E1⟩:=s
  obtain⟨i1,i2⟩:=hi
  obtain⟨h01,h02⟩:=Prod.mk.inj h0
  dsimp only at i1 i2
  obtain rfl:D=D1:=by simpa [wh]using h01
  have hDk:D.length=kids.length:=by
   have:=congrArg List.length h02
   simpa [bW]using this
  have hQ:=hQ z E1 (by rw [i2,hDk,Nat.sub_self,List.replicate_zero,List.append_nil])
  cbv;rw [he];cbv
  exact hQ
 ·obtain⟨k,done,E1⟩:=s
  obtain⟨l,c⟩:=x
  obtain⟨i1,i2⟩:=hi
  obtain⟨h01,h02⟩:=Prod.mk.inj h0
  dsimp only at i1 i2 hy h01 h02
  subst i1
  obtain⟨L,hL⟩:=nmE (vw ao l)
  have hy2:vL[k.toNat]? =some [.view L]:=by rw [hL];exact hy
  have hsp:=ny h02
  rw [bW]at hsp
  have hls:=lD (l:=l) (ls:=rest.map (fun t:List Int×Int=>t.1)) hsp.2.2
  have hll:l.length≤1048576:=Nat.le_trans hls.1 (Nat.le_trans (Nat.sub_le ..) hkl)
  have hlm:=hlb l (zqd (hzg hx).1)
  have pE1:aj E1=true:=by rw [i2];exact ag _ _
  have hle:done.length+l.length≤kids.length:=by have:=hls.1;omega
  have cLI:=gM I l hI2 hll
  have cPk:=jR S1 l (by omega) hll (fun i hi=>by have:=hlm i hi;omega)
  have cBs:=nK (pck S1 l) (Nat.le_trans (tJ S1 l) hll)
  have hll2:(l.map (elZ ZZ)).length≤1048576:=by rw [zql];exact hll
  have cPA:=nD (lit I l) (l.map (elZ ZZ)) G IN s0.justify (Nat.le_trans qw hll) hll2
  obtain⟨PS,hPS⟩:=nmE (EO q I IN ZZ l)
  have hPS2:alg (lit I l) (l.map (elZ ZZ)) G IN s0.justify=PS:=by rw [hPS];unfold EO;rw [hgA,hju]
  rw [hPS2]at cPA
  have hPl:PS.length≤1048576:=by
   rw [←hPS2]
   exact Nat.le_trans (Eh _ _ _ _ _) hll2
  obtain⟨lb,hlbd⟩:=nmE (bas (pck S1 l))
  rw [←hlbd]at cBs
  obtain⟨LI,hLI⟩:=nmE (vw ah.c (lit I l));(try rw [←hLI]at cLI);(try rw [←hLI]at cPA)
  obtain⟨PK,hPK⟩:=nmE (vw av.c (pck S1 l));(try rw [←hPK]at cPk);(try rw [←hPK]at cBs)
  rw [←hvI,←hL]at cLI
  rw [←hvS,←hL]at cPk
  obtain⟨W,hW⟩:=nmE (vw ao (l.map (elZ ZZ)))
  have hWl:W.length=(l.map (elZ ZZ)).length:=by rw [hW,af]
  have iW:bR W=true:=by rw [hW];exact aG _ _
  have kW:∀y∈W,y.length=1:=by rw [hW];exact bC (c:=ao) (k:=1) fun _=>rfl
  have dW:∀y∈W,y.all dat=true:=by rw [hW];exact az
  rw [←hW]at cPA
  obtain⟨vP,hvP⟩:=nmE (vw ao PS)
  have hvPl:vP.length=PS.length:=by rw [hvP,af]
  have ivP:bR vP=true:=by rw [hvP];exact aG _ _
  have kvP:∀y∈vP,y.length=1:=by rw [hvP];exact bC (c:=ao) (k:=1) fun _=>rfl
  have dvP:∀y∈vP,y.all dat=true:=by rw [hvP];exact az
  rw [←hvP]at cPA
  have hlz:∀i∈l,0≤i∧i<(ZZ.length:Int):=fun i hi=>by have:=hlm i hi;omega
  have hIB:=hIB k c lb z0 (hzg hx).2 PS vP hvP hPl l L hL hll done (by simpa using hls.2.1) hle E1 i2
  have h3:∀D,D=done++qY q rtl IN AC' ZZ S1 (elZ ST k) c lb PS 0 l→(D++wh q rtl I IN AC' ZZ S1 ST (k+1) rest,ixs 0 D.length++(rest.map (·.1)).flatten)=(D1,ixs 0 kids.length):=fun D hD=>Prod.ext (by
   rw [←h01,hD,hlbd,hPS,zqC];rfl) (by
   show ixs 0 D.length++(rest.map (·.1)).flatten=ixs 0 kids.length
   rw [←h02,hD,zqe,lK,jx,zqC]
   congr 1
   rw [zqA,List.flatten_cons]
   congr 1
   exact hls.2.1.symm)
  clear hsp hls hle h02 hfq hzM hzg hzL hq hqs hlm hlb hPS2 hPS hlbd hvI hvS hll2
  cbv
  rw [hc]
  cbv
  refine goX hg _ z0 hy2 rfl ?_
  cbv
  refine kP hg (lO (aK f186) 3) (by kernel_rfl) [(4,.p 0),(6,.p 1),(7,.p 2),(8,.p 3),(9,.p 4),(11,.v vI),(12,.v vL),(13,.i (IN)),(14,.v vZ),(15,.v vS),(16,.v vC),(18,.i (AC')),(20,.v vT),(28,.p 5),(29,.o 6),(210,.v vL),(211,.i (g .ln vL)),(212,.i (k)),(30,.i (k)),(31,.v L),(32,.o 7),(217,.v L),(218,.i (g .ln L)),(219,.i (0))] [.bx 95 3 (mA V rtl),.bx 28 2 [.J w0,.J w1],.bx 28 2 [.J h0',.J h1'],.bx 64 4 [.J 0,.J 0,.J 0,.N],.bx 98 75 (plL n s0 ⟨w0,w1⟩ ⟨h0',h1'⟩ row iw ih al ac (.view K)),.bx 85 4 [.J fl,.J ft,.J fr,.J fb],.rw ⟨45,5,E1⟩,.rw ⟨3,1,[]⟩] (Wk.weak (wkG [some _,some _,some _,some _,some _,some _,some _,none] ⟨rfl,rfl,rfl,rfl,rfl,rfl,rfl,rfl,rfl,rfl,rfl,rfl,rfl,rfl,rfl,rfl,rfl,rfl,rfl,rfl,rfl,rfl,rfl,rfl,trivial⟩ ⟨wqE rfl rfl,wqE rfl rfl,wqE rfl rfl,wqE rfl rfl,wqE rfl rfl,wqE rfl rfl,wqE rfl pE1,⟨_,rfl,rfl⟩,trivial⟩ (by decide) aI)) ?_
  refine BO hg V rtl n s0 row iw ih al ac w0 w1 h0' h1' K IN AC' vI vL vZ vS vC vT fl ft fr fb k E1 pE1 ZZ hvZ l L hL hll hlz fun z2 E2 hE2=> ?_
  obtain rfl:W=E2:=by rw [hE2,hW]
  cbv
  (repeat'((first|refine aa hg cG ?_|refine aa hg cLI ?_|refine ad hg cG ?_|refine ad hg cLI ?_|refine ad hg cPk ?_|refine aa hg cPk ?_|refine ad hg cBs ?_|refine bB hg cPA (aq (ay rfl) (aq (bi (ab:=⟨_,_,W⟩) rfl kW dW) (aq (ay rfl) (aq (ay rfl) (aq (ay rfl) (aF)))))) ivP ?_|refine bN hg cPA (aq (ay rfl) (aq (bi (ab:=⟨_,_,W⟩) rfl kW dW) (aq (ay rfl) (aq (ay rfl) (aq (ay rfl) (aF)))))) ivP ?_);cbv))
  refine kP hg (lO (aK f186) 4) (by kernel_rfl) [(4,.p 0),(6,.p 1),(7,.p 2),(8,.p 3),(9,.p 4),(11,.v vI),(12,.v vL),(13,.i (IN)),(14,.v vZ),(15,.v vS),(16,.v vC),(18,.i (AC')),(20,.v vT),(28,.p 5),(29,.o 6),(210,.v vL),(211,.i (g .ln vL)),(212,.i (k)),(30,.i (k)),(31,.v L),(35,.v vP),(36,.i (lb)),(249,.v L),(250,.i (g .ln L)),(251,.i (0))] [.bx 95 3 (mA V rtl),.bx 28 2 [.J w0,.J w1],.bx 28 2 [.J h0',.J h1'],.bx 64 4 [.J 0,.J 0,.J 0,.N],.bx 98 75 (plL n s0 ⟨w0,w1⟩ ⟨h0',h1'⟩ row iw ih al ac (.view K)),.bx 85 4 [.J fl,.J ft,.J fr,.J fb],.rw ⟨45,5,E1⟩] (bH (sl1 8 vP) (jb rfl kvP dvP) (Wk.weak (wkG [some _,some _,some _,some _,some _,some _,some 6] ⟨rfl,rfl,rfl,rfl,rfl,rfl,rfl,rfl,rfl,rfl,rfl,rfl,rfl,rfl,rfl,rfl,rfl,rfl,rfl,rfl,rfl,rfl,rfl,rfl,rfl,trivial⟩ ⟨wqE rfl rfl,wqE rfl rfl,wqE rfl rfl,wqE rfl rfl,wqE rfl rfl,wqE rfl rfl,⟨_,_,rfl,rfl,rfl,rfl,.inl (bG pE1)⟩,trivial⟩ (by decide) aI))) ?_
  refine hIB _ fun z3 E3 D hD hE3=> ?_
  have pE3:aj E3=true:=by rw [hE3];exact ag _ _
  cbv
  (repeat'(rw [e1];cbv))
  skip
  exact hB ((k+1,D,E3)) _ _ ⟨h3 D hD,⟨rfl,hE3⟩⟩ (Wk.weak (wkG [some _,some _,some _,some _,some _,some _,some 6] ⟨rfl,rfl,rfl,rfl,rfl,rfl,rfl,rfl,rfl,rfl,rfl,rfl,rfl,rfl,rfl,rfl,rfl,rfl,trivial⟩ ⟨wqE rfl rfl,wqE rfl rfl,wqE rfl rfl,wqE rfl rfl,wqE rfl rfl,wqE rfl rfl,wqE rfl pE3,trivial⟩ (by decide) aI))
theorem nY(cs:List Int)(gap inner ct:Int)(hl:cs.length≤64):cY prog 316 [.c (.view (vw ao cs)),ai gap,ai inner,ai ct] fun res rows=>res= .o 0∧rows=[⟨3,1,vw ao (pll cs gap inner ct)⟩]:=by
 have cT:=fK cs gap (by omega)
 have cA:=kC cs gap inner (by omega)
 have cJ:=nW ct
 have cS:=bQ (wrap64 (inner-crt cs gap))
 have cL:=mZ (sg (wrap64 (inner-crt cs gap))) (cs.length:Int) (uP ct)
 have cB:=fun(h:(cs.length:Int)≤12)=>jM (sg (wrap64 (inner-crt cs gap))) (cs.length:Int) (uP ct) (by omega) h
 have hspc:=fun i(h0:0≤i)(h1:i<(cs.length:Int))=>CJ (sg (wrap64 (inner-crt cs gap))) (cs.length:Int) (uP ct) h0 h1
 have hok:acr cs gap inner=true→(cs.length:Int)≤12:=fun h=>by simp only [acr,zqs,zqp]at h;exact h.2.1
 obtain⟨R,hR⟩:=nmE (pll cs gap inner ct)
 rw [←hR]
 unfold pll at hR
 obtain⟨BW,hBW⟩:=nmE (btw (sg (wrap64 (inner-crt cs gap))) (cs.length:Int) (uP ct))
 rw [←hBW]at hR hspc
 obtain⟨SC,hSC⟩:=nmE (spc (sg (wrap64 (inner-crt cs gap))) (cs.length:Int) (uP ct))
 rw [←hSC]at cB hspc
 obtain⟨T,hT⟩:=nmE (crt cs gap);(try rw [←hT]at cT);(try rw [←hT]at cS);(try rw [←hT]at cL);(try rw [←hT]at cB);(try rw [←hT]at hR)
 obtain⟨LD,hLD⟩:=nmE (led (sg (wrap64 (inner-T))) (cs.length:Int) (uP ct));(try rw [←hLD]at cL);(try rw [←hLD]at hR)
 obtain⟨fr,hfr⟩:=nmE (sg (wrap64 (inner-T)));(try rw [←hfr]at cS);(try rw [←hfr]at cL);(try rw [←hfr]at cB)
 obtain⟨D,hD⟩:=nmE (wrap64 (inner-T));(try rw [←hD]at cS)
 obtain⟨js,hjs⟩:=nmE (uP ct);(try rw [←hjs]at cJ);(try rw [←hjs]at cL);(try rw [←hjs]at cB)
 obtain⟨A,hA⟩:=nmE (acr cs gap inner);(try rw [←hA]at cA);(try rw [←hA]at hR);(try rw [←hA]at hok)
 obtain⟨V,hV⟩:=nmE (vw ao cs)
 have hVl:V.length=cs.length:=by rw [hV,af]
 have iV:bR V=true:=by rw [hV];exact aG _ _
 have kV:∀y∈V,y.length=1:=by rw [hV];exact bC (c:=ao) (k:=1) fun _=>rfl
 have dV:∀y∈V,y.all dat=true:=by rw [hV];exact az
 have hVx:bg V=(cs.length:Int):=by rw [hV,aN]
 rw [←hV]at cT cA
 rw [←hV]
 have hln:0≤(cs.length:Int):=by omega
 obtain⟨n,hn⟩:=nmE ((cs.length:Int));(try rw [←hn]at hVx);(try rw [←hn]at cL);(try rw [←hn]at cB);(try rw [←hn]at hok);(try rw [←hn]at hln);(try rw [←hn]at hspc)
 have hYS:∀i:Int,0≤i→i<n→(vw ao SC)[i.toNat]? =some [.J (if i+1<n then BW i else 0)]:=fun i i0 i1=>bh (hspc i i0 i1)
 obtain⟨Y,hY⟩:=nmE (vw ao SC);(try rw [←hY]at cB);(try rw [←hY]at hYS)
 clear hspc hSC hBW
 refine ae (aK f316) aD func316 fun g F hg hF=> ?_
 have t4:g .ln V=n:=by rw [bD hg,hVx]
 have e0:g .w .sub .i64 inner T=D:=by rw [dd hg,hD]
 cases hA2:A
 ·rw [hA2]at cA hR
  cbv
  (repeat'((first|refine ad hg cA ?_|refine aa hg cA ?_);cbv))
  obtain rfl:R=[]:=hR
  exact bP hF rfl rfl
 rw [hA2]at cA hR
 replace hR:R=plG BW gap 0 LD cs:=hR
 replace hok:=hok hA2
 replace cB:=cB hok
 cbv
 (repeat'((first|rw [e0]|rw [t4]|refine ad hg cA ?_|refine aa hg cA ?_|refine ad hg cJ ?_|refine aa hg cJ ?_|refine ad hg cT ?_|refine aa hg cT ?_|refine ad hg cS ?_|refine aa hg cS ?_|refine ad hg cL ?_|refine aa hg cL ?_|refine ad hg cB ?_|refine aa hg cB ?_);cbv))
 refine aY hg aD (by kernel_rfl) V (fun x=>lc (ao x)) cs hV (by omega) (fun z(s:Int×List Int×LLA)=>[(0,.v V),(1,.i (gap)),(9,.o 0),(11,.i (s.1)),(12,.v Y),(13,.i (z))]) (fun z(s:Int×List Int×LLA)=>[.rw ⟨3,1,s.2.2⟩]) (fun z(s:Int×List Int×LLA)=>s.2.2=vw ao s.2.1∧(s.2.1.length:Int)=z) (fun(s:Int×List Int×LLA) rest=>(s.2.1++plG BW gap (s.2.1.length:Int) s.1 rest,(s.2.1.length:Int)+rest.length)) ((R,n)) (LD,[],[]) (by rw [hR,hn];simp) ⟨rfl,rfl⟩ (Wk.weak (wkG [some 0] ⟨rfl,rfl,rfl,rfl,rfl,rfl,trivial⟩ ⟨wqE rfl rfl,trivial⟩ (by decide) aI)) (fun z s B hz h0 hi he=> ?_) (fun z s x rest B z0 z1 z2 hx hy h0 hi hc e1 hB=> ?_)
 ·obtain⟨a,out,E⟩:=s
  obtain⟨i1,i2⟩:=hi
  dsimp only at i1 i2 h0
  have pE:aj E=true:=by rw [i1];exact ag _ _
  obtain rfl:out=R:=by simpa [plG]using congrArg Prod.fst h0
  rw [←i1]at hF
  cbv;rw [he];cbv
  exact bP hF rfl pE
 ·obtain⟨a,out,E⟩:=s
  obtain⟨i1,i2⟩:=hi
  dsimp only at i1 i2 h0
  have h01:out++plG BW gap (out.length:Int) a (x::rest)=R:=congrArg Prod.fst h0
  have h02:(out.length:Int)+((rest.length+1:Nat):Int)=n:=congrArg Prod.snd h0
  clear h0
  have hEl:E.length≤1048576:=by rw [i1,af];omega
  have zn:z<n:=by rw [hVx]at z1;exact z1
  have hYz:=hYS z z0 zn
  obtain⟨bw,hbw⟩:∃b,b=if z+1<n then BW z else 0:=⟨_,rfl⟩
  rw [←hbw]at hYz
  have nl:((out++[a]).length:Int)=z+1:=by simp;omega
  have h03:(out++[a])++plG BW gap ((out++[a]).length:Int) (wrap64 (wrap64 (wrap64 (a+x)+gap)+bw)) rest=R:=by
   rw [←h01,i2]
   cases rest with
   |nil=>simp [plG]
   |cons y rest=>
    simp only [zqx]at h02
    rw [hbw,if_pos (by omega),nl]
    simp only [plG,zqC,List.singleton_append]
    rw [show wrap64 (wrap64 (wrap64 (a+x)+gap)+BW z)=wrap64 (a+wrap64 (wrap64 (x+gap)+BW z)) by simp only [mI,si];rw [show a+x+gap+BW z=a+(x+gap+BW z) by omega]]
  have h04:((out++[a]).length:Int)+rest.length=n:=by rw [nl];omega
  have e2:g .w .add .i64 a x=wrap64 (a+x):=aM hg _ _
  have e3:g .w .add .i64 (wrap64 (a+x)) gap=wrap64 (wrap64 (a+x)+gap):=aM hg _ _
  have e4:g .w .add .i64 (wrap64 (wrap64 (a+x)+gap)) bw=wrap64 (wrap64 (wrap64 (a+x)+gap)+bw):=aM hg _ _
  have aE:E++[[.J a]]=vw ao (out++[a]):=by rw [i1,bA];rfl
  obtain⟨E2,hE2⟩:∃E2,E2=E++[[.J a]]:=⟨_,rfl⟩
  rw [←hE2]at aE
  have pE2:aj E2=true:=by rw [aE];exact ag _ _
  clear h01 hbw
  generalize wrap64 (wrap64 (wrap64 (a+x)+gap)+bw)=Q1 at *
  generalize wrap64 (wrap64 (a+x)+gap)=Q2 at *
  generalize wrap64 (a+x)=Q3 at *
  cbv
  rw [hc]
  cbv
  (repeat'((first|rw [e1]|rw [e2]|rw [e3]|rw [e4]|refine goX hg _ (by omega) hy rfl ?_|refine goX hg _ (by omega) hYz rfl ?_|refine dl hg rfl (by decide) hEl ?_;cbv;rw [gG hg,←hE2]);cbv))
  exact hB ((Q1,out++[a],E2)) _ _ ⟨Prod.ext h03 h04,⟨aE,nl⟩⟩ (Wk.weak (wkG [some 2] ⟨rfl,rfl,rfl,rfl,rfl,rfl,trivial⟩ ⟨wqE rfl pE2,trivial⟩ (by decide) aI))
theorem nX(cs:List Int)(gap inner ct:Int)(hl:cs.length≤64):PC0 316 [.c (.view (vw ao cs)),ai gap,ai inner,ai ct] (.t (.c (.view (vw ao (pll cs gap inner ct))))):=wg (nY cs gap inner ct hl) fun _=>rfl
theorem wz(sp:Int→Int)(gap:Int):∀(cs:List Int)(i a:Int),(plG sp gap i a cs).length=cs.length
 | [],_,_=>rfl
 |c::r,i,a=>by simp only [plG,zqx,wz sp gap r]
theorem DM(cs:List Int)(gap inner ct:Int):(pll cs gap inner ct).length≤cs.length:=by
 unfold pll
 split
 ·exact Nat.zero_le _
 ·rw [wz];exact Nat.le_refl _
theorem CR{ns:List ak}{n:Int}{x:ak}(h:ns[(n-1).toNat]? =some x):nod ns n=x:=by
 unfold nod;rw [h];rfl
theorem nM{ns:List ak}{n:Int}{x:ak}(h:ns[(n-1).toNat]? =some x):flK ns n=ia (io ns) (x.kids.filter (lQ ns)):=by
 unfold flK ue;rw [h]
theorem vE(ns:List ak)(hl:ns.length≤1048576)(n:Int)(x:ak)(h1:isN ns n=true)(hx:ns[(n-1).toNat]? =some x)(hkl:x.kids.length<20)(hk:∀k∈x.kids,isN ns k=true)(hrl:x.table.rules.length≤1048576)(rtl:Bool)(b:Bv)(hbx:∀kid∈flK ns n,xc (vwA ak.ac ns) rtl b kid):Di (vwA ak.ac ns) rtl (EY b ns rtl) n:=by
 intro w0 w1 h0' h1'
 have b2:=bF h1
 have cP:=nv ns n x hl b2.1 (by have:=b2.2.1;omega) hx hkl hk rtl w0 w1 h0' h1'
 have hKK:flK ns n=ia (io ns) (x.kids.filter (lQ ns)):=nM hx
 have hkF:∀k∈flK ns n,isN ns k=true:=fun k h=>hk k (by rw [hKK]at h;exact(List.mem_filter.1 ((vc _ _ _).1 h)).1)
 have hkFl:(flK ns n).length<20:=by rw [hKK,kD];exact Nat.lt_of_le_of_lt (List.length_filter_le _ _) hkl
 rw [←hKK]at cP
 obtain⟨p,hp⟩:=nmE (plO ns n ⟨w0,w1⟩ ⟨h0',h1'⟩)
 have hcP:PC0 72 [.agg (mA (vwA ak.ac ns) rtl),ai n,agP ⟨w0,w1⟩,agP ⟨h0',h1'⟩] (.t (.agg (plL n p.s p.w p.h p.row p.wide p.high p.al p.ac (.view (vw ao p.kids))))):=by
  rw [hp]
  unfold plO
  rw [iz hx]
  exact cP
 clear cP
 have hks:kst ns n=x.style:=iz hx
 have hnd:nod ns n=x:=CR hx
 have hpw:p.w=⟨w0,w1⟩∧p.h=⟨h0',h1'⟩∧p.s=x.style∧p.wide=inW x.style ⟨w0,w1⟩∧p.kids=flK ns n:=by rw [hp];exact⟨rfl,rfl,iz hx,by show inW (kst ns n) _=_;rw [hks],rfl⟩
 obtain⟨e1,e2,e3,e4,e5⟩:=hpw
 unfold Cy EY
 rw [hnd,hks,←hp,←e1,←e2,←e3,←e5]
 have hwi:inW p.s p.w=p.wide:=by rw [e3,e1,e4]
 rw [hwi]
 rw [←e5]at hkF hkFl hbx
 have cy:=di ns n x b2.1 (by have:=b2.2.1;omega) hx (vwA ak.ac ns) _ _ rfl rfl rfl
 obtain⟨s0,row,w,h,iw,ih,al,ac,kids⟩:=p
 dsimp only at *
 subst e1 e2
 have cl:=vt n s0 ⟨w0,w1⟩ ⟨h0',h1'⟩ row iw ih al ac (vw ao kids)
 have ci:=gK ns hl rtl b n ⟨s0,row,⟨w0,w1⟩,⟨h0',h1'⟩,iw,ih,al,ac,kids⟩ (by dsimp only;omega) hkF hbx
 have cs:=fun zs hzs=>o4 ns hl rtl b n ⟨s0,row,⟨w0,w1⟩,⟨h0',h1'⟩,iw,ih,al,ac,kids⟩ zs (by dsimp only;omega) hzs hkF hbx
 obtain⟨V,hV⟩:=nmE (vwA ak.ac ns)
 rw [←hV]at cy hcP ci⊢
 simp only [←hV]at cs
 obtain⟨Kx,hKx⟩:=nmE (vw ao x.kids)
 obtain⟨Rx,hRx⟩:=nmE (vw aJ.c x.table.rules)
 rw [←hKx,←hRx]at cy
 obtain⟨im,iN⟩:=iw
 have cR:=jB im iN
 have cW:=qD x.table.rules (gW ⟨im,iN⟩) hrl
 rw [←hRx]at cW
 have hacE:∀q:jK,jK.ac q=[.J q.wide,.J q.high,.J q.base,.view (vw aV.c q.frames)]:=fun q=>rfl
 obtain⟨x0,x1,x2,x3,x4⟩:=x
 dsimp only at *
 by_cases hme:x3=true
 ·rw [if_pos hme]
  subst hme
  obtain⟨RO,hRO⟩:=nmE (gW ⟨im,iN⟩);(try rw [←hRO]at cR);(try rw [←hRO]at cW);(try rw [←hRO]at⊢)
  obtain⟨⟨q0,q1⟩,hq⟩:∃q,q=wnt x4.rules RO:=⟨_,rfl⟩
  rw [←hq]at cW⊢
  have cl:=cl q0 q1
  obtain⟨LF,hLF⟩:=nmE (yJ s0 ⟨w0,w1⟩ ⟨h0',h1'⟩ (q0,q1));(try rw [←hLF]at cl);(try rw [←hLF]at⊢)
  have pFR:aj (vw aV.c LF.frames)=true:=ag _ _
  obtain⟨FR,hFR⟩:=nmE (vw aV.c LF.frames);(try rw [←hFR]at cl);(try rw [←hFR]at pFR);(try rw [←hFR]at⊢)
  obtain⟨K,hK⟩:=nmE (vw ao kids)
  have hKl:K.length=kids.length:=by rw [hK,af]
  have iK:bR K=true:=by rw [hK];exact aG _ _
  have kK:∀y∈K,y.length=1:=by rw [hK];exact bC (c:=ao) (k:=1) fun _=>rfl
  have dK:∀y∈K,y.all dat=true:=by rw [hK];exact az
  rw [←hK]at hcP cl
  clear ci cs hp hbx hkF
  refine ae (aK f186) aD func186 fun g F hg hF=> ?_
  cbv
  (repeat'((first|refine ad hg hcP ?_|refine aa hg hcP ?_|refine ad hg cy ?_|refine aa hg cy ?_|refine ad hg cR ?_|refine aa hg cR ?_|refine ad hg cW ?_|refine aa hg cW ?_|refine uI hg cl rfl pFR ?_|refine ye hg cl (lM rfl) pFR ?_);cbv))
  exact uy hF rfl pFR
 ·rw [if_neg hme]
  replace hme:x3=false:=by simpa using hme
  subst hme
  by_cases hkn:kids=[]
  ·rw [if_pos hkn]
   have cl:=cl 0 0
   obtain⟨LF,hLF⟩:=nmE (yJ s0 ⟨w0,w1⟩ ⟨h0',h1'⟩ (0,0));(try rw [←hLF]at cl);(try rw [←hLF]at⊢)
   have pFR:aj (vw aV.c LF.frames)=true:=ag _ _
   obtain⟨FR,hFR⟩:=nmE (vw aV.c LF.frames);(try rw [←hFR]at cl);(try rw [←hFR]at pFR);(try rw [←hFR]at⊢)
   clear ci cs hp hbx hkF
   subst hkn
   refine ae (aK f186) aD func186 fun g F hg hF=> ?_
   have t0:g .ln ([]:LLA)=0:=by rw [bD hg];rfl
   have t1:g .q .eql (0:Int) 0=true:=by rw [bv hg];rfl
   cbv
   (repeat'((first|rw [t0]|rw [t1]|refine ad hg hcP ?_|refine aa hg hcP ?_|refine ad hg cy ?_|refine aa hg cy ?_|refine uI hg cl rfl pFR ?_|refine ye hg cl (lM rfl) pFR ?_);cbv))
   exact uy hF rfl pFR
  ·rw [if_neg hkn]
   clear cW cR cl hRx hKx
   obtain⟨q,hq⟩:∃q:Pl,q=⟨s0,row,⟨w0,w1⟩,⟨h0',h1'⟩,⟨im,iN⟩,ih,al,ac,kids⟩:=⟨_,rfl⟩
   rw [←hq]at ci cs⊢
   have hqk:q.kids=kids:=by rw [hq]
   unfold F9
   rw [hqk]
   have ci:=wg ci (fun _=>rfl)
   have hIl:=lI b q rtl ns kids
   obtain⟨I,hI⟩:=nmE (uh b q rtl ns kids)
   rw [←hI]at ci hIl⊢
   have hI2:I.length≤1048576:=by rw [hIl];exact Nat.le_of_lt (Nat.lt_trans hkFl (by decide))
   have cN:=nq n s0 ⟨w0,w1⟩ ⟨h0',h1'⟩ row ⟨im,iN⟩ ih al ac (vw ao kids) I hI2
   have hzl:=mK q I
   have cs:=cs (pb q I) (by rw [hzl,hIl])
   obtain⟨S0,hS0⟩:=nmE (CK b q rtl ns (kids.zip (pb q I)))
   have hS0l:S0.length=kids.length:=by rw [hS0,Br,zqB,hzl,hIl];exact Nat.min_self _
   rw [←hS0]at cs⊢
   change PC0 _ _ (.tup [.c (.view (vwA lnA (lns I (fP s0 row) (gW al) (!decide (s0.wrap=1))))),ai (tak al (lng I (fP s0 row) (gW al) (!decide (s0.wrap=1)))),.c (.view (vw ao (lsz I (fP s0 row) (gW al) (!decide (s0.wrap=1)) (tak al (lng I (fP s0 row) (gW al) (!decide (s0.wrap=1)))))))])at cN
   have hq1:my q I=lns I (fP s0 row) (gW al) (!decide (s0.wrap=1)):=by rw [hq];rfl
   have hq2:Bb q I=tak al (lng I (fP s0 row) (gW al) (!decide (s0.wrap=1))):=by rw [hq];rfl
   have hq3:pb q I=lsz I (fP s0 row) (gW al) (!decide (s0.wrap=1)) (tak al (lng I (fP s0 row) (gW al) (!decide (s0.wrap=1)))):=by rw [hq];rfl
   rw [←hq3,←hq2,←hq1]at cN
   have hfl:(my q I).flatten=ixs 0 kids.length:=by rw [hq1,lC,hIl]
   have hln:(my q I).length≤64:=by rw [hq1];exact Nat.le_trans (mw ..) (by omega)
   have hlb:∀l∈my q I,l.length≤1048576∧∀i∈l,0≤i∧i<(S0.length:Int):=fun l hm=>by
    rw [hq1]at hm
    exact⟨Nat.le_trans (ju hm) hI2,fun i hi=>by have:=tP hm hi;omega⟩
   have cC:=od n s0 ⟨w0,w1⟩ ⟨h0',h1'⟩ row ⟨im,iN⟩ ih al ac (vw ao kids) (my q I) S0 (by omega) hln hlb
   have hq4:wS q (my q I) S0=Ci s0 row ac (my q I) S0:=by rw [hq];rfl
   rw [←hq4]at cC
   have hcl:(wS q (my q I) S0).length=(my q I).length:=uG q _ _ hln
   unfold Ga
   dsimp only
   obtain⟨LL,hLL⟩:=nmE (my q I)
   obtain⟨ZZ,hZZ⟩:=nmE (pb q I)
   obtain⟨IN,hIN⟩:=nmE (Bb q I)
   rw [←hLL]at hfl hln hlb cC hcl cN⊢
   rw [←hZZ]at hzl cs cN⊢
   rw [←hIN]at cN⊢
   obtain⟨CC,hCC⟩:=nmE (wS q LL S0)
   rw [←hCC]at hcl cC⊢
   clear hq1 hq2 hq3 hq4
   have cG:=gF s0 (!row)
   have hq5:sM q=fP s0 (!row):=by rw [hq];rfl
   have cT:=fN CC (sM q) (by rw [hcl];omega)
   obtain⟨am,an⟩:=ac
   have cK:=eI am an (crt CC (sM q))
   have hq6:yl q CC=tak ⟨am,an⟩ (crt CC (sM q)):=by rw [hq];rfl
   rw [←hq6]at cK
   have cL:=og CC (sM q) (yl q CC) (ctP q) (by omega)
   have hq7:ctP q=if s0.wrap=1 then 2 else s0.content:=by rw [hq];rfl
   rw [←hq5]at cG
   have hq8:El q CC=pll CC (sM q) (yl q CC) (ctP q):=rfl
   rw [←hq8]at cL
   obtain⟨GC,hGC⟩:=nmE (sM q)
   obtain⟨AC',hAC⟩:=nmE (yl q CC)
   obtain⟨ST,hST⟩:=nmE (El q CC)
   rw [←hGC]at cG cT cK cL
   rw [←hAC]at cK cL⊢
   rw [←hST]at cL⊢
   have hSTl:ST.length≤1048576:=by rw [hST,hq8];exact Nat.le_trans (DM ..) (by omega)
   clear hq5 hq6 hq8
   obtain⟨TT,hTT⟩:=nmE (crt CC GC)
   rw [←hTT]at cT cK
   have cB:=ef am an
   obtain⟨KB,hKB⟩:=nmE (knS ⟨am,an⟩)
   rw [←hKB]at cB
   obtain⟨K,hK⟩:=nmE (vw ao kids)
   have hKl:K.length=kids.length:=by rw [hK,af]
   have iK:bR K=true:=by rw [hK];exact aG _ _
   have kK:∀y∈K,y.length=1:=by rw [hK];exact bC (c:=ao) (k:=1) fun _=>rfl
   have dK:∀y∈K,y.all dat=true:=by rw [hK];exact az
   rw [←hK]at hcP ci cN cs cC
   obtain⟨vI,hvI⟩:=nmE (vw ah.c I);(try rw [←hvI]at ci);(try rw [←hvI]at cN)
   obtain⟨vZ,hvZ⟩:=nmE (vw ao ZZ)
   have hvZl:vZ.length=ZZ.length:=by rw [hvZ,af]
   have ivZ:bR vZ=true:=by rw [hvZ];exact aG _ _
   have kvZ:∀y∈vZ,y.length=1:=by rw [hvZ];exact bC (c:=ao) (k:=1) fun _=>rfl
   have dvZ:∀y∈vZ,y.all dat=true:=by rw [hvZ];exact az
   rw [←hvZ]at cN cs
   obtain⟨vS,hvS⟩:=nmE (vw av.c S0)
   have hvSl:vS.length=S0.length:=by rw [hvS,af]
   have ivS:bR vS=true:=by rw [hvS];exact aG _ _
   have kvS:∀y∈vS,y.length=7:=by rw [hvS];exact bC (c:=av.c) (k:=7) fun _=>rfl
   have dvS:∀y∈vS,y.all dat=true:=by rw [hvS];exact az
   rw [←hvS]at cs cC
   obtain⟨vC,hvC⟩:=nmE (vw ao CC)
   have hvCl:vC.length=CC.length:=by rw [hvC,af]
   have ivC:bR vC=true:=by rw [hvC];exact aG _ _
   have kvC:∀y∈vC,y.length=1:=by rw [hvC];exact bC (c:=ao) (k:=1) fun _=>rfl
   have dvC:∀y∈vC,y.all dat=true:=by rw [hvC];exact az
   rw [←hvC]at cC cT cL
   obtain⟨vL,hvL⟩:=nmE (vwA lnA LL);(try rw [←hvL]at cN);(try rw [←hvL]at cC)
   obtain⟨vT,hvT⟩:=nmE (vw ao ST)
   have hvTl:vT.length=ST.length:=by rw [hvT,af]
   have ivT:bR vT=true:=by rw [hvT];exact aG _ _
   have kvT:∀y∈vT,y.length=1:=by rw [hvT];exact bC (c:=ao) (k:=1) fun _=>rfl
   have dvT:∀y∈vT,y.all dat=true:=by rw [hvT];exact az
   rw [←hvT]at cL
   have hk20:kids.length≤1048576:=Nat.le_of_lt (Nat.lt_trans hkFl (by decide))
   have hZk:ZZ.length=kids.length:=by rw [hzl,hIl]
   have hLL2:LL.length≤1048576:=Nat.le_trans hln (by decide)
   have hO1:=fun(g:Gd)(hg:g= @G0 bp0 prog 0 f186.ntmps)(Q':Exit→List (Nat×AV)→EH→Prop) hQ'=>Ah hg (Q:=Q') ns hl V hV rtl n s0 row ⟨im,iN⟩ ih al ⟨am,an⟩ w0 w1 h0' h1' kids K hK hk20 hkF IN AC' KB hKB vI vL vZ vC vT ZZ CC hvZ hvC S0 hZk hS0l LL hvL hLL2 hcl hfl hQ'
   rw [←hq,←hvS]at hO1
   obtain⟨S1,hS1⟩:=nmE (AA q ns S0 ZZ (LL.zip CC))
   have hS1l:S1.length=kids.length:=by rw [hS1,xV,fd hcl,hfl,bW]
   rw [←hS1]at hO1⊢
   have cFr:=eY s0
   obtain⟨fe,hfe⟩:=nmE (nL s0)
   rw [←hfe]at cFr
   have hqs0:q.s=s0:=by rw [hq]
   have hqw:q.w=⟨w0,w1⟩:=by rw [hq]
   have hqh:q.h=⟨h0',h1'⟩:=by rw [hq]
   have hqr:q.row=row:=by rw [hq]
   obtain⟨fl,ft,fr,fb⟩:=fe
   have cWi:=fD fl ft fr fb
   have cHi:=fF fl ft fr fb
   obtain⟨vS1,hvS1⟩:=nmE (vw av.c S1)
   have hvS1l:vS1.length=S1.length:=by rw [hvS1,af]
   have ivS1:bR vS1=true:=by rw [hvS1];exact aG _ _
   have kvS1:∀y∈vS1,y.length=7:=by rw [hvS1];exact bC (c:=av.c) (k:=7) fun _=>rfl
   have dvS1:∀y∈vS1,y.all dat=true:=by rw [hvS1];exact az
   have hO2:=fun(g:Gd)(hg:g= @G0 bp0 prog 0 f186.ntmps)(Q':Exit→List (Nat×AV)→EH→Prop) E hE hQ'=>Ag hg (Q:=Q') V rtl n s0 row ⟨im,iN⟩ ih al ⟨am,an⟩ w0 w1 h0' h1' K IN AC' vI vL vZ vS1 vC vT fl ft fr fb kids hK hk20 I hvI hIl ZZ CC ST S1 hvZ hvC hvT hvS1 hSTl hZk hS1l hfe.symm LL hvL hLL2 hcl hfl E hE hQ'
   rw [←hq]at hO2
   obtain⟨FF,hFF⟩:=nmE (wh q rtl I IN AC' ZZ S1 ST 0 (LL.zip CC))
   have hFl:FF.length=kids.length:=by rw [hFF,uw,fd hcl,hfl,bW]
   rw [←hFF]at hO2⊢
   have hkp:0<kids.length:=List.length_pos_iff.2 hkn
   obtain⟨f0,FT,hF0⟩:∃f t,FF=f::t:=by
    cases FF with
    |nil=>simp at hFl;omega
    |cons a b=>exact⟨_,_,rfl⟩
   obtain⟨sd0,hsd0⟩:∃y,S1[(0:Int).toNat]? =some y:=⟨_,zqc (by show 0<S1.length;omega)⟩
   have hsz0:sdZ S1 0=sd0:=vk (Int.le_refl 0) hsd0
   obtain⟨vF,hvF⟩:=nmE (vw aV.c FF)
   have hvFl:vF.length=FF.length:=by rw [hvF,af]
   have ivF:bR vF=true:=by rw [hvF];exact aG _ _
   have kvF:∀y∈vF,y.length=5:=by rw [hvF];exact bC (c:=aV.c) (k:=5) fun _=>rfl
   have dvF:∀y∈vF,y.all dat=true:=by rw [hvF];exact az
   have pF:aj vF=true:=by rw [hvF];exact ag _ _
   have hF0v:vF[(0:Int).toNat]? =some (lc (aV.c f0)):=by rw [hvF,hF0];rfl
   have hF00:(0:Int)<bg vF:=by rw [hvF,aN];omega
   have hS0v:vS1[(0:Int).toNat]? =some (lc (av.c sd0)):=by rw [hvS1];exact bh hsd0
   obtain⟨A1,hA1⟩:=nmE (adE fl fr)
   obtain⟨A2,hA2⟩:=nmE (adE ft fb)
   change PC0 _ _ (.i (adE fl fr))at cWi
   change PC0 _ _ (.i (adE ft fb))at cHi
   rw [←hA1]at cWi
   rw [←hA2]at cHi
   obtain⟨XW,hXW⟩:=nmE ((if row then IN else AC'))
   obtain⟨XH,hXH⟩:=nmE ((if row then AC' else IN))
   obtain⟨W1,hW1⟩:=nmE (wrap64 (XW+A1))
   obtain⟨H1,hH1⟩:=nmE (wrap64 (XH+A2))
   obtain⟨BB,hBB⟩:=nmE (wrap64 (f0.y+sd0.base))
   have cT1:=eI w0 w1 W1
   have cT2:=eI h0' h1' H1
   have cCl:=bf BB
   obtain⟨R1,hR1⟩:=nmE (tak ⟨w0,w1⟩ W1);(try rw [←hR1]at cT1)
   obtain⟨R2,hR2⟩:=nmE (tak ⟨h0',h1'⟩ H1);(try rw [←hR2]at cT2)
   obtain⟨R3,hR3⟩:=nmE (cl BB);(try rw [←hR3]at cCl)
   have hbo:(Dh q IN AC' FF S1).wide=R1∧(Dh q IN AC' FF S1).high=R2∧(Dh q IN AC' FF S1).base=R3∧(Dh q IN AC' FF S1).frames=FF:=by
    rw [hR1,hR2,hR3,hW1,hH1,hBB,hXW,hXH,hA1,hA2]
    unfold Dh
    rw [hqs0,hqw,hqh,hqr,←hfe,hsz0,hF0]
    exact⟨rfl,rfl,rfl,rfl⟩
   rw [hbo.1,hbo.2.1,hbo.2.2.1,hbo.2.2.2,←hvF]
   have t1:∀g:Gd,g=G0 prog 0 f186.ntmps→g .w .add .i64 XW A1=W1:=fun g hg=>by rw [aM hg,hW1]
   have t2:∀g:Gd,g=G0 prog 0 f186.ntmps→g .w .add .i64 XH A2=H1:=fun g hg=>by rw [aM hg,hH1]
   have t3:∀g:Gd,g=G0 prog 0 f186.ntmps→g .w .add .i64 f0.y sd0.base=BB:=fun g hg=>by rw [aM hg,hBB]
   have tRp:∀g:Gd,g=G0 prog 0 f186.ntmps→g .rp (g .ln K) [.J 0,.J 0,.J 0,.J 0,.J 0]=vw aV.c (List.replicate kids.length ⟨0,0,0,0,0⟩):=fun g hg=>by
    rw [yM hg,bD hg,hK,aN,Int.toNat_natCast];exact pt aV.c kids.length ⟨0,0,0,0,0⟩
   have hKl:K.length≤1048576:=by rw [hK,af];exact hk20
   have pS:aj vS=true:=by rw [hvS];exact ag _ _
   have t0:∀g:Gd,g=G0 prog 0 f186.ntmps→g .q .eql s0.wrap 1=decide (s0.wrap=1):=fun g hg=>by rw [bv hg];exact zqn _ _
   have kn0:∀g:Gd,g=G0 prog 0 f186.ntmps→g .q .eql (g .ln K) 0=false:=fun g hg=>by
    rw [bv hg,bD hg,hK,aN]
    have:kids.length≠0:=fun h=>hkn (zqv h)
    exact beq_eq_false_iff_ne.2 (by omega)
   clear hbo hR1 hR2 hR3 hW1 hH1 hBB hA1 hA2 hfe hqs0 hqw hqh hqr hsz0 hF0 hFl hFF hS1 hsd0 hS1l hS0l hIl hZk hln hlb hfl hcl hTT hKB hGC hAC hST hIN hq hp hbx hkF
   refine ae (aK f186) aD func186 fun g F hg hF=> ?_
   have t0:=t0 g hg
   have kn0:=kn0 g hg
   have t1:=t1 g hg
   have t2:=t2 g hg
   have t3:=t3 g hg
   have tRp:=tRp g hg
   have hO1:=hO1 g hg
   have hO2:=hO2 g hg
   cbv
   (repeat'((first|rw [kn0]|refine ad hg hcP ?_|refine ad hg cy ?_|refine ad hg ci ?_|refine ad hg cN ?_|refine bB hg cs (bp rfl) ivS ?_|refine bB hg cC (bM rfl (aq (ay rfl) (aq (bi (ab:=⟨_,_,vS⟩) rfl kvS dvS) (aF)))) ivC ?_|refine bN hg cC (bM rfl (aq (ay rfl) (aq (bi (ab:=⟨_,_,vS⟩) rfl kvS dvS) (aF)))) ivC ?_|refine gR hg cT (aq (bi (ab:=⟨_,_,vC⟩) rfl kvC dvC) (aq (ay rfl) (aF))) rfl ?_|refine eN hg cT (aq (bi (ab:=⟨_,_,vC⟩) rfl kvC dvC) (aq (ay rfl) (aF))) rfl ?_|refine ad hg cG ?_|refine ad hg cK ?_|refine aa hg cK ?_);cbv))
   by_cases hw1:s0.wrap=1
   all_goals
    first|rw [if_pos hw1]at hq7|rw [if_neg hw1]at hq7
    rw [hq7]at cL
    first|rw [zqu hw1]at t0|rw [zqt hw1]at t0
    (repeat'((first|rw [t0]|refine bB hg cL (aq (bi (ab:=⟨_,_,vC⟩) rfl kvC dvC) (aq (ay rfl) (aq (ay rfl) (aq (ay rfl) (aF))))) ivT ?_|refine bN hg cL (aq (bi (ab:=⟨_,_,vC⟩) rfl kvC dvC) (aq (ay rfl) (aq (ay rfl) (aq (ay rfl) (aF))))) ivT ?_|refine ad hg cB ?_);cbv))
    refine kP hg (lO (aK f186) 0) (by kernel_rfl) [(4,.p 0),(6,.p 1),(7,.p 2),(8,.p 3),(9,.p 4),(11,.v vI),(12,.v vL),(13,.i (IN)),(14,.v vZ),(15,.o 5),(16,.v vC),(18,.i (AC')),(20,.v vT),(21,.i (KB)),(116,.v vL),(117,.i (g .ln vL)),(118,.i (0))] [.bx 95 3 (mA V rtl),.bx 28 2 [.J w0,.J w1],.bx 28 2 [.J h0',.J h1'],.bx 64 4 [.J 0,.J 0,.J 0,.N],.bx 98 75 (plL n s0 ⟨w0,w1⟩ ⟨h0',h1'⟩ row ⟨im,iN⟩ ih al ⟨am,an⟩ (.view K)),.rw ⟨126,7,vS⟩] (bH (sl2 7 8 vC vT) (DF rfl kvC dvC rfl kvT dvT) (Wk.weak (wkG [some _,some _,some _,some _,some _,some 6] ⟨rfl,rfl,rfl,rfl,rfl,rfl,rfl,rfl,rfl,rfl,rfl,rfl,rfl,rfl,rfl,rfl,rfl,trivial⟩ ⟨wqE rfl rfl,wqE rfl rfl,wqE rfl rfl,wqE rfl rfl,wqE rfl rfl,⟨_,_,rfl,rfl,rfl,rfl,.inl (bG pS)⟩,trivial⟩ (by decide) aI))) ?_
    refine hO1 _ fun z1 E1 hE1=> ?_
    obtain rfl:vS1=E1:=by rw [hE1,hvS1]
    cbv
    ((repeat'((first|refine ad hg cFr ?_|refine aa hg cFr ?_);cbv)))
    refine D0 hg (by decide) hKl ?_
    cbv
    generalize hE0:g .rp (g .ln K) _=E3
    have hE3:E3=vw aV.c (List.replicate kids.length ⟨0,0,0,0,0⟩):=by rw [←hE0];exact tRp
    clear hE0
    have pE3:aj E3=true:=by rw [hE3];exact ag _ _
    refine kP hg (lO (aK f186) 2) (by kernel_rfl) [(4,.p 0),(6,.p 1),(7,.p 2),(8,.p 3),(9,.p 4),(11,.v vI),(12,.v vL),(13,.i (IN)),(14,.v vZ),(15,.v vS1),(16,.v vC),(18,.i (AC')),(20,.v vT),(28,.p 5),(29,.o 6),(210,.v vL),(211,.i (g .ln vL)),(212,.i (0))] [.bx 95 3 (mA V rtl),.bx 28 2 [.J w0,.J w1],.bx 28 2 [.J h0',.J h1'],.bx 64 4 [.J 0,.J 0,.J 0,.N],.bx 98 75 (plL n s0 ⟨w0,w1⟩ ⟨h0',h1'⟩ row ⟨im,iN⟩ ih al ⟨am,an⟩ (.view K)),.bx 85 4 [.J fl,.J ft,.J fr,.J fb],.rw ⟨45,5,E3⟩] (bH (sl1 5 vS1) (jb rfl kvS1 dvS1) (Wk.weak (wkG [some _,some _,some _,some _,some _,some 6,some 7] ⟨rfl,rfl,rfl,rfl,rfl,rfl,rfl,rfl,rfl,rfl,rfl,rfl,rfl,rfl,rfl,rfl,rfl,rfl,trivial⟩ ⟨wqE rfl rfl,wqE rfl rfl,wqE rfl rfl,wqE rfl rfl,wqE rfl rfl,wqE rfl rfl,⟨_,_,rfl,rfl,rfl,rfl,.inl (bG pE3)⟩,trivial⟩ (by decide) aI))) ?_
    refine hO2 _ E3 hE3 fun z2 E2 hE2=> ?_
    obtain rfl:vF=E2:=by rw [hE2,hvF]
    cbv
    cases row
    all_goals
     (try simp only [Bool.false_eq_true,if_false]at hXW hXH)
     (try simp only [if_true]at hXW hXH)
     subst hXW hXH
     (try cbv)
     ((repeat'((first|rw [t1]|rw [t2]|rw [t3]|refine ad hg cWi ?_|refine aa hg cWi ?_|refine ad hg cHi ?_|refine aa hg cHi ?_|refine ad hg cT1 ?_|refine aa hg cT1 ?_|refine ad hg cT2 ?_|refine aa hg cT2 ?_|refine ad hg cCl ?_|refine aa hg cCl ?_|refine goX hg _ (Int.le_refl 0) hS0v rfl ?_|refine goY hg (Int.le_refl 0) hF00 fun j hj hjl=> ?_;subst hj|refine⟨_,hF0v,?_⟩);cbv)))
     exact uy hF rfl pF
theorem xY{ns:List ak}:∀(f:Nat)(k n:Int),0≤k→0<sT ns f (k+1) n→sT ns (f+1) k n=sT ns f (k+1) n-1
 |0,k,n,h0,h=>by
  by_cases hn:n=0
  ·subst hn;rw [lN,lN];omega
  ·rw [wR ns hn]at h;omega
 |f+1,k,n,h0,h=>by
  by_cases hn:n=0
  ·subst hn;rw [lN,lN];omega
  ·by_cases hi:isN ns n=true
   ·rw [jJ ns hn hi]at h
    rw [jJ ns hn hi,jJ ns hn hi]
    exact xY f (k+1) (upN ns n) (by omega) h
   ·rw [uE ns (f+1) (k+1) n hn (by simpa using hi)]at h;omega
theorem lu{ns:List ak}(h:eo ns=true){n:Int}(hn:isN ns n=true):1≤uF ns n∧uF ns n≤4:=by
 obtain⟨n1,n2,x,hx⟩:=bF hn
 simp only [eo,zqs]at h
 have:=(jD ns ns 0).1 h.2 _ x hx
 simp only [fo,zqs,rng,zqp]at this
 have h2:=this.2.1
 rw [show(0:Int)+(((n-1).toNat:Nat):Int)+1=n by omega]at h2
 exact h2
theorem Dr{ns:List ak}(h:eo ns=true){n:Int}{x:ak}(h1:1≤n)(hx:ns[(n-1).toNat]? =some x):∀k∈x.kids,upN ns k=n:=fun k hkm=>by
 simp only [eo,zqs]at h
 have:=(jD ns ns 0).1 h.2 _ x hx
 simp only [fo,zqs,zqf,gL,zqp]at this
 have:=(this.2.2.2.1 k hkm).2
 omega
theorem Aj{ns:List ak}(h:eo ns=true){n:Int}{x:ak}(h1:1≤n)(hx:ns[(n-1).toNat]? =some x):∀k∈x.kids,uF ns k=uF ns n+1:=fun k hkm=>by
 have hk:=i8 h h1 hx k hkm
 obtain⟨k1,k2,y,hy⟩:=bF hk
 have hu:=Dr h h1 hx k hkm
 have hd:=lu h hk
 obtain⟨L,hL⟩:∃L,ns.length=L+1:=⟨ns.length-1,by omega⟩
 unfold uF at hd⊢
 rw [hL]at hd⊢
 rw [jJ ns (by omega) hk,hu]at hd⊢
 have:=xY (ns:=ns) L 0 n (Int.le_refl 0) (by omega)
 rw [this];omega
theorem qK{ns:List ak}{n:Int}{x:ak}(hx:ns[(n-1).toNat]? =some x):∀k∈flK ns n,k∈x.kids:=fun k hk=>by
 rw [nM hx,vc]at hk
 exact(List.mem_filter.1 hk).1
theorem nw{ns:List ak}(hl:ns.length≤1048576)(hs:∀y∈ns,ak.small y)(ht:eo ns=true)(rtl:Bool):∀(f:Nat)(n:Int),isN ns n=true→5≤uF ns n+(f:Int)→Ek (vwA ak.ac ns) rtl (uQ ns rtl f) n
 |0,n,hn,hd=>by have:=lu ht hn;omega
 |f+1,n,hn,hd=>by
  obtain⟨n1,n2,x,hx⟩:=bF hn
  have hkl:=s5 ht n1 hx
  have hkd:=i8 ht n1 hx
  refine wI _ rtl _ n (vE ns hl n x hn hx (by omega) hkd ?_ rtl (uQ ns rtl f) fun kid hk=> ?_)
  ·have:=hs x (zqd hx)
   exact this.2.1
  ·have hm:=qK hx kid hk
   have:=Aj ht n1 hx kid hm
   exact qA _ rtl _ kid (nw hl hs ht rtl f kid (hkd kid hm) (by omega))
theorem nx{ns:List ak}(hl:ns.length≤1048576)(hs:∀y∈ns,ak.small y)(ht:eo ns=true)(rtl:Bool)(f:Nat)(n:Int)(hn:isN ns n=true)(hd:5≤uF ns n+(f:Int)):xc (vwA ak.ac ns) rtl (uQ ns rtl f) n:=
 qA _ rtl _ n (nw hl hs ht rtl f n hn hd)
end Go.Proofs.YtdnnffbbhijmkaaGreat
