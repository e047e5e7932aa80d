/- The places of items along: both programs. -/
import Derived.Test.YtdnnffbbhijmkaaGreatQbl
set_option linter.unusedVariables false
set_option linter.unusedSimpArgs false
set_option maxHeartbeats 16000000
namespace Go.Proofs.YtdnnffbbhijmkaaGreat
open Go.ChangeShapes Go.WideShapes Go.ChangeAt Go.RowKit Am Go.Proofs.Tryz
set_option maxRecDepth 100000
theorem ve{α:Type}{H:List α}{q:Nat}{y:α}(h:H[q]? =some y):H.set q y=H:=by
 refine List.ext_getElem? fun j=> ?_
 rw [List.getElem?_set]
 split
 ·rename_i hj;subst hj
  rw [if_pos (List.getElem?_eq_some_iff.1 h).1,h]
 ·rfl
theorem Az{p:Pl}{ns:List ak}{S:List av}{Z:List Int}{c i kd z:Int}{y:ak}{sd:av}(h0:0≤i)(hS:S[i.toNat]? =some sd)(hK:p.kids[i.toNat]? =some kd)(hZ:Z[i.toNat]? =some z)(hy:ns[(kd-1).toNat]? =some y):
  wP p ns S Z c i=if xW sd=true∧qM y.style (!p.row) (knS p.ac)= -1∧rC y.style (!p.row) z= -1 then Ay sd (oM y.style (!p.row) (knS p.ac) (wrap64 (c-wrap64 (sd.before+sd.behind))))else sd:=by
 have e1:elZ p.kids i=kd:=by have:=nP hK;rwa [Int.toNat_of_nonneg h0]at this
 have e2:elZ Z i=z:=by have:=nP hZ;rwa [Int.toNat_of_nonneg h0]at this
 unfold wP
 rw [vk h0 hS,e1,e2,iz hy]
theorem BQ{g:Gd}(hg:g= @G0 bp0 prog 0 f186.ntmps){Q:Exit→List (Nat×AV)→EH→Prop}(ns:List ak)(hl:ns.length≤1048576)(V:LLA)(hV:V=vwA ak.ac ns)(rtl:Bool)(n:Int)(s0:ar)(row:Bool)(iw ih al ac:aw)(w0 w1 h0' h1':Int)(kids:List Int)(K:LLA)(hK:K=vw ao kids)(hk:∀kid∈kids,isN ns kid=true)
  (IN AC' KB:Int) (hKB:KB=knS ac) (vI vL vZ vC vT:LLA) (ZZ CC:List Int) (hvZ:vZ=vw ao ZZ) (hvC:vC=vw ao CC) (S0:List av) (hzl:ZZ.length=kids.length) (hsl:S0.length=kids.length)
  (zo c:Int) (hz0:0≤zo) (hcc:CC[zo.toNat]? =some c) (l:List Int) (L:LLA) (hL:L=vw ao l) (hll:l.length≤1048576) (done:List av) (E0:LLA) (hE0:E0=vw av.c (done++S0.drop done.length)) (hld:l=ixs done.length l.length) (hle:done.length+l.length≤kids.length)
  (hQ:∀(z:Int)(E:LLA),E=vw av.c ((done++l.map (wP ⟨s0,row,⟨w0,w1⟩,⟨h0',h1'⟩,iw,ih,al,ac,kids⟩ ns S0 ZZ c))++S0.drop (done.length+l.length))→Q (.exit 2) [(126,.t (abl (false))),(4,.p 0),(6,.p 1),(7,.p 2),(8,.p 3),(9,.p 4),(11,.v vI),(12,.v vL),(13,.i (IN)),(14,.v vZ),(15,.o 5),(16,.v vC),(18,.i (AC')),(20,.v vT),(21,.i (KB)),(22,.i (zo)),(116,.v vL),(117,.i (g .ln vL)),(118,.i (zo)),(123,.v L),(124,.i (g .ln L)),(125,.i (z))] [.bx 95 3 (mA V rtl),.bx 28 2 [.J w0,.J w1],.bx 28 2 [.J h0',.J h1'],.bx 64 4 [.J 0,.J 0,.J 0,.N],.bx 98 75 (plL n s0 ⟨w0,w1⟩ ⟨h0',h1'⟩ row iw ih al ac (.view K)),.rw ⟨126,7,E⟩]):
  g .L (lO (aK f186) 1) Q [(4,.p 0),(6,.p 1),(7,.p 2),(8,.p 3),(9,.p 4),(11,.v vI),(12,.v vL),(13,.i (IN)),(14,.v vZ),(15,.o 5),(16,.v vC),(18,.i (AC')),(20,.v vT),(21,.i (KB)),(22,.i (zo)),(116,.v vL),(117,.i (g .ln vL)),(118,.i (zo)),(123,.v L),(124,.i (g .ln L)),(125,.i (0))] [.bx 95 3 (mA V rtl),.bx 28 2 [.J w0,.J w1],.bx 28 2 [.J h0',.J h1'],.bx 64 4 [.J 0,.J 0,.J 0,.N],.bx 98 75 (plL n s0 ⟨w0,w1⟩ ⟨h0',h1'⟩ row iw ih al ac (.view K)),.rw ⟨126,7,E0⟩]:=by
 obtain⟨fx,hfx⟩:=nmE (wP ⟨s0,row,⟨w0,w1⟩,⟨h0',h1'⟩,iw,ih,al,ac,kids⟩ ns S0 ZZ c)
 rw [←hfx]at hQ
 obtain⟨D1,hD1⟩:=nmE (done++l.map fx)
 rw [←hD1]at hQ
 have hDl:D1.length=done.length+l.length:=by rw [hD1,zqe,zql]
 have pE:aj E0=true:=by rw [hE0];exact ag _ _
 have hat:∀kid∈kids,∃y,ns[(kid-1).toNat]? =some y:=fun kid h=>(bF (hk kid h)).2.2
 have hnd:=fun kid(h:kid∈kids) y hy Ky Ry=>di ns kid y (bF (hk kid h)).1 (by have:=(bF (hk kid h)).2.1;omega) hy V Ky Ry hV
 have h00:(done++l.map fx,ixs 0 done.length++l)=(D1,ixs 0 D1.length):=Prod.ext hD1.symm (by show ixs 0 done.length++l=ixs 0 D1.length;rw [hDl,jx,Int.zero_add,←hld])
 have hCz:vC[zo.toNat]? =some [.J c]:=by rw [hvC];exact bh hcc
 clear hld
 refine aY hg aD (by kernel_rfl) L (fun x=>lc (ao x)) l hL hll (fun z(s:List av×LLA)=>[(4,.p 0),(6,.p 1),(7,.p 2),(8,.p 3),(9,.p 4),(11,.v vI),(12,.v vL),(13,.i (IN)),(14,.v vZ),(15,.o 5),(16,.v vC),(18,.i (AC')),(20,.v vT),(21,.i (KB)),(22,.i (zo)),(116,.v vL),(117,.i (g .ln vL)),(118,.i (zo)),(123,.v L),(124,.i (g .ln L)),(125,.i (z))]) (fun z(s:List av×LLA)=>[.bx 95 3 (mA V rtl),.bx 28 2 [.J w0,.J w1],.bx 28 2 [.J h0',.J h1'],.bx 64 4 [.J 0,.J 0,.J 0,.N],.bx 98 75 (plL n s0 ⟨w0,w1⟩ ⟨h0',h1'⟩ row iw ih al ac (.view K)),.rw ⟨126,7,s.2⟩]) (fun z(s:List av×LLA)=>s.2=vw av.c (s.1++S0.drop s.1.length)) (fun(s:List av×LLA) rest=>(s.1++rest.map fx,ixs 0 s.1.length++rest)) ((D1,ixs 0 D1.length)) (done,E0) h00 hE0 (Wk.weak (wkG [some _,some _,some _,some _,some _,some 5] ⟨rfl,rfl,rfl,rfl,rfl,rfl,rfl,rfl,rfl,rfl,rfl,rfl,rfl,rfl,rfl,rfl,rfl,rfl,rfl,rfl,rfl,trivial⟩ ⟨wqE rfl rfl,wqE rfl rfl,wqE rfl rfl,wqE rfl rfl,wqE rfl rfl,wqE rfl pE,trivial⟩ (by decide) aI)) (fun z s B hz h0 hi he=> ?_) (fun z s x rest B z0 z1 z2 hx hy h0 hi hc e1 hB=> ?_)
 ·obtain⟨D,E⟩:=s
  obtain⟨h01,h02⟩:=Prod.mk.inj h0
  obtain rfl:D=D1:=by simpa using h01
  dsimp only at hi
  have hQ:=hQ z E (by rw [hi,hDl])
  cbv;rw [he];cbv
  exact hQ
 ·obtain⟨D,E⟩:=s
  obtain⟨h01,h02⟩:=Prod.mk.inj h0
  dsimp only at hi h01 h02 hy
  have hxD:x=(D.length:Int):=by
   have e:=congrArg (fun l=>l[D.length]?) h02
   have hlt:D.length<D1.length:=by have:=congrArg List.length h01;simp at this;omega
   simp only [zqg (show(ixs 0 D.length).length≤D.length by rw [bW];exact Nat.le_refl _),bW,Nat.sub_self,zqw]at e
   rw [vH _ _ _ hlt]at e
   simpa using e
  have hDl2:D.length<D1.length:=by have:=congrArg List.length h01;simp at this;omega
  have hx0:0≤x:=by omega
  have hxt:x.toNat=D.length:=by omega
  have hSl:D.length<S0.length:=by omega
  obtain⟨sd,hsd⟩:∃sd,S0[x.toNat]? =some sd:=⟨_,zqc (by omega)⟩
  obtain⟨kd,hkd⟩:∃kd,kids[x.toNat]? =some kd:=⟨_,zqc (by omega)⟩
  obtain⟨zz,hzz⟩:∃zz,ZZ[x.toNat]? =some zz:=⟨_,zqc (by omega)⟩
  have hkm:kd∈kids:=zqd hkd
  obtain⟨y,hyk⟩:=hat kd hkm
  have hfv:=Az (p:=⟨s0,row,⟨w0,w1⟩,⟨h0',h1'⟩,iw,ih,al,ac,kids⟩) (c:=c) hx0 hsd hkd hzz hyk
  rw [←hfx]at hfv
  dsimp only at hfv
  rw [←hKB]at hfv
  have hKx:K[x.toNat]? =some [.J kd]:=by rw [hK];exact bh hkd
  have hZx:vZ[x.toNat]? =some [.J zz]:=by rw [hvZ];exact bh hzz
  have hEx:E[x.toNat]? =some (lc (av.c sd)):=by rw [hi];exact bh (by rw [hxt,uv rfl,←hxt];exact hsd)
  have hxE:x<bg E:=by rw [hi,aN];simp;omega
  have hset:∀v,E.set x.toNat (lc (av.c v))=vw av.c ((D++[v])++S0.drop (D++[v]).length):=fun v=>by
   rw [hi,hxt,mi,th rfl hSl];simp
  have h3:((D++[fx x])++rest.map fx,ixs 0 (D++[fx x]).length++rest)=(D1,ixs 0 D1.length):=Prod.ext (by rw [←h01];simp) (by
   show ixs 0 (D++[fx x]).length++rest=ixs 0 D1.length
   rw [←h02,zqe,zqm,nz,Int.zero_add,←hxD];simp)
  have cy:=hnd kd hkm y hyk _ _ rfl rfl
  obtain⟨Ky,hKy⟩:=nmE (vw ao y.kids)
  obtain⟨Ry,hRy⟩:=nmE (vw aJ.c y.table.rules)
  rw [←hKy,←hRy]at cy
  obtain⟨y0,y1,y2,y3,y4,y5,y6⟩:=sd
  have cI:=vM ⟨y0,y1,y2,y3,y4,y5,y6⟩
  obtain⟨fb,hfb⟩:=nmE (xW ⟨y0,y1,y2,y3,y4,y5,y6⟩)
  rw [←hfb]at cI hfv
  dsimp only at hfv
  have cF:=gp y.style (!row) KB
  have cR:=i6 y.style (!row) zz
  obtain⟨FX,hFX⟩:=nmE (qM y.style (!row) KB);(try rw [←hFX]at cF);(try rw [←hFX]at hfv)
  obtain⟨RT,hRT⟩:=nmE (rC y.style (!row) zz);(try rw [←hRT]at cR);(try rw [←hRT]at hfv)
  obtain⟨BB,hBB⟩:=nmE (wrap64 (y1+y2))
  rw [←hBB]at hfv
  obtain⟨CB,hCB⟩:=nmE (wrap64 (c-BB))
  rw [←hCB]at hfv
  have cN:=gu y.style (!row) KB CB
  obtain⟨f0,hf0⟩:=nmE (oM y.style (!row) KB CB);(try rw [←hf0]at cN);(try rw [←hf0]at hfv)
  simp only [Ay]at hfv
  obtain⟨f6,hf6⟩:=nmE (rF y6 f0)
  rw [←hf6]at hfv
  have t1:g .w .add .i64 y1 y2=BB:=by rw [aM hg,hBB]
  have t2:g .w .sub .i64 c BB=CB:=by rw [dd hg,hCB]
  have t3:g .mn y6 f0=f6:=by rw [F8 hg,hf6];rfl
  have t4:g .q .eql (FX) ((-1))=decide ((FX)=((-1))):=by rw [bv hg];exact zqn _ _
  have t5:g .q .eql (RT) ((-1))=decide ((RT)=((-1))):=by rw [bv hg];exact zqn _ _
  clear hxD hDl2 hxt hSl h02 hBB hCB hf6 hFX hRT hf0 hfb hzz hkd hsd hnd hat hvZ hK hV hvC hcc hKB hKy hRy
  cbv
  rw [hc]
  cbv
  refine goX hg _ z0 hy rfl ?_
  cbv
  refine goX hg _ hx0 hKx rfl ?_
  cbv
  (repeat'((first|refine ad hg cy ?_|refine aa hg cy ?_);cbv))
  refine goY hg hx0 hxE fun j hj hjl=> ?_
  cbv
  rw [←hj]at hset hEx
  refine⟨_,hEx,?_⟩
  cbv
  (repeat'((first|refine ad hg cI ?_|refine aa hg cI ?_);cbv))
  have hsame:fx x=⟨y0,y1,y2,y3,y4,y5,y6⟩→E=vw av.c ((D++[fx x])++S0.drop (D++[fx x]).length):=fun h=>by rw [h,←hset,ve hEx]
  have pE1:aj E=true:=by rw [hi];exact ag _ _
  cases fb
  case false=>
   simp only [Bool.false_eq_true,false_and,if_false]at hfv
   cbv
   (repeat'(rw [e1];cbv))
   exact hB ((D++[fx x],E)) _ _ ⟨h3,(hsame hfv)⟩ (Wk.weak (wkG [some _,some _,some _,some _,some _,some 5] ⟨rfl,rfl,rfl,rfl,rfl,rfl,rfl,rfl,rfl,rfl,rfl,rfl,rfl,rfl,rfl,rfl,rfl,rfl,rfl,rfl,rfl,trivial⟩ ⟨wqE rfl rfl,wqE rfl rfl,wqE rfl rfl,wqE rfl rfl,wqE rfl rfl,wqE rfl pE1,trivial⟩ (by decide) aI))
  by_cases q4:FX= -1
  case neg=>
   rw [if_neg (fun h=>q4 h.2.1)]at hfv
   (first|rw [zqu q4]at t4|rw [zqt q4]at t4|rw [zqu (Classical.not_not.2 q4)]at t4|rw [zqt (Classical.not_not.2 q4)]at t4)
   cbv
   (repeat'((first|rw [t4]|rw [e1]|refine ad hg cF ?_|refine aa hg cF ?_);cbv))
   exact hB ((D++[fx x],E)) _ _ ⟨h3,(hsame hfv)⟩ (Wk.weak (wkG [some _,some _,some _,some _,some _,some 5] ⟨rfl,rfl,rfl,rfl,rfl,rfl,rfl,rfl,rfl,rfl,rfl,rfl,rfl,rfl,rfl,rfl,rfl,rfl,rfl,rfl,rfl,trivial⟩ ⟨wqE rfl rfl,wqE rfl rfl,wqE rfl rfl,wqE rfl rfl,wqE rfl rfl,wqE rfl pE1,trivial⟩ (by decide) aI))
  by_cases q5:RT= -1
  case neg=>
   rw [if_neg (fun h=>q5 h.2.2)]at hfv
   (first|rw [zqu q4]at t4|rw [zqt q4]at t4|rw [zqu (Classical.not_not.2 q4)]at t4|rw [zqt (Classical.not_not.2 q4)]at t4)
   (first|rw [zqu q5]at t5|rw [zqt q5]at t5|rw [zqu (Classical.not_not.2 q5)]at t5|rw [zqt (Classical.not_not.2 q5)]at t5)
   cbv
   (repeat'((first|rw [t4]|rw [t5]|rw [e1]|refine ad hg cF ?_|refine aa hg cF ?_|refine ad hg cR ?_|refine aa hg cR ?_|refine goX hg _ hx0 hZx rfl ?_);cbv))
   exact hB ((D++[fx x],E)) _ _ ⟨h3,(hsame hfv)⟩ (Wk.weak (wkG [some _,some _,some _,some _,some _,some 5] ⟨rfl,rfl,rfl,rfl,rfl,rfl,rfl,rfl,rfl,rfl,rfl,rfl,rfl,rfl,rfl,rfl,rfl,rfl,rfl,rfl,rfl,trivial⟩ ⟨wqE rfl rfl,wqE rfl rfl,wqE rfl rfl,wqE rfl rfl,wqE rfl rfl,wqE rfl pE1,trivial⟩ (by decide) aI))
  rw [if_pos ⟨rfl,q4,q5⟩]at hfv
  have hEx2:E[j]? =some [.J y0,.J y1,.J y2,.B y3,.B y4,.J y5,.J y6]:=hEx
  have hA:(g .st E j [.J f0,.J y1,.J y2,.B y3,.B y4,.J y5,.J y6])[j]? =some [.J f0,.J y1,.J y2,.B y3,.B y4,.J y5,.J y6]:=by rw [mH hg];exact List.getElem?_set_self hjl
  (first|rw [zqu q4]at t4|rw [zqt q4]at t4|rw [zqu (Classical.not_not.2 q4)]at t4|rw [zqt (Classical.not_not.2 q4)]at t4)
  (first|rw [zqu q5]at t5|rw [zqt q5]at t5|rw [zqu (Classical.not_not.2 q5)]at t5|rw [zqt (Classical.not_not.2 q5)]at t5)
  cbv
  (repeat'((first|rw [t4]|rw [t5]|rw [t1]|rw [t2]|rw [t3]|rw [e1]|refine ad hg cF ?_|refine aa hg cF ?_|refine ad hg cR ?_|refine aa hg cR ?_|refine ad hg cN ?_|refine aa hg cN ?_|refine goX hg _ hx0 hZx rfl ?_|refine goX hg _ hz0 hCz rfl ?_|refine⟨_,hEx2,?_⟩|refine⟨_,hA,?_⟩);cbv))
  generalize hG1:g .st _ j _=E2
  have hE2:E2=g .st (g .st E j [.J f0,.J y1,.J y2,.B y3,.B y4,.J y5,.J y6]) j [.J f0,.J y1,.J y2,.B y3,.B y4,.J y5,.J f6]:=hG1.symm
  have aE:E2=vw av.c ((D++[fx x])++S0.drop (D++[fx x]).length):=by
   rw [hfv,←hset,hE2,mH hg,mH hg,List.set_set];rfl
  have pE2:aj E2=true:=by rw [aE];exact ag _ _
  exact hB ((D++[fx x],E2)) _ _ ⟨h3,aE⟩ (Wk.weak (wkG [some _,some _,some _,some _,some _,some 5] ⟨rfl,rfl,rfl,rfl,rfl,rfl,rfl,rfl,rfl,rfl,rfl,rfl,rfl,rfl,rfl,rfl,rfl,rfl,rfl,rfl,rfl,trivial⟩ ⟨wqE rfl rfl,wqE rfl rfl,wqE rfl rfl,wqE rfl rfl,wqE rfl rfl,wqE rfl pE2,trivial⟩ (by decide) aI))
theorem Ah{g:Gd}(hg:g= @G0 bp0 prog 0 f186.ntmps){Q:Exit→List (Nat×AV)→EH→Prop}(ns:List ak)(hl:ns.length≤1048576)(V:LLA)(hV:V=vwA ak.ac ns)(rtl:Bool)(n:Int)(s0:ar)(row:Bool)(iw ih al ac:aw)(w0 w1 h0' h1':Int)(kids:List Int)(K:LLA)(hK:K=vw ao kids)(hkl:kids.length≤1048576)(hk:∀kid∈kids,isN ns kid=true)
  (IN AC' KB:Int) (hKB:KB=knS ac) (vI vL vZ vC vT:LLA) (ZZ CC:List Int) (hvZ:vZ=vw ao ZZ) (hvC:vC=vw ao CC) (S0:List av) (hzl:ZZ.length=kids.length) (hsl:S0.length=kids.length)
  (LL:List (List Int)) (hvL:vL=vwA lnA LL) (hLl:LL.length≤1048576) (hcl:CC.length=LL.length) (hfl:LL.flatten=ixs 0 kids.length)
  (hQ:∀(z:Int)(E:LLA),E=vw av.c (AA ⟨s0,row,⟨w0,w1⟩,⟨h0',h1'⟩,iw,ih,al,ac,kids⟩ ns S0 ZZ (LL.zip CC))→Q (.exit 0) [(119,.t (abl (false))),(4,.p 0),(6,.p 1),(7,.p 2),(8,.p 3),(9,.p 4),(11,.v vI),(12,.v vL),(13,.i (IN)),(14,.v vZ),(15,.o 5),(16,.v vC),(18,.i (AC')),(20,.v vT),(21,.i (KB)),(116,.v vL),(117,.i (g .ln vL)),(118,.i (z))] [.bx 95 3 (mA V rtl),.bx 28 2 [.J w0,.J w1],.bx 28 2 [.J h0',.J h1'],.bx 64 4 [.J 0,.J 0,.J 0,.N],.bx 98 75 (plL n s0 ⟨w0,w1⟩ ⟨h0',h1'⟩ row iw ih al ac (.view K)),.rw ⟨126,7,E⟩]):
  g .L (lO (aK f186) 0) Q [(4,.p 0),(6,.p 1),(7,.p 2),(8,.p 3),(9,.p 4),(11,.v vI),(12,.v vL),(13,.i (IN)),(14,.v vZ),(15,.o 5),(16,.v vC),(18,.i (AC')),(20,.v vT),(21,.i (KB)),(116,.v vL),(117,.i (g .ln vL)),(118,.i (0))] [.bx 95 3 (mA V rtl),.bx 28 2 [.J w0,.J w1],.bx 28 2 [.J h0',.J h1'],.bx 64 4 [.J 0,.J 0,.J 0,.N],.bx 98 75 (plL n s0 ⟨w0,w1⟩ ⟨h0',h1'⟩ row iw ih al ac (.view K)),.rw ⟨126,7,vw av.c S0⟩]:=by
 obtain⟨vS,hvS⟩:=nmE (vw av.c S0)
 have pS:aj vS=true:=by rw [hvS];exact ag _ _
 rw [←hvS]
 have hzL:vL=(LL.zip CC).map (fun t=>lnA t.1):=by rw [hvL];exact o9 hcl
 have hzM:(LL.zip CC).map (·.1)=LL:=fd hcl
 have hzl2:(LL.zip CC).length≤1048576:=by rw [zqB];exact Nat.le_trans (Nat.min_le_left ..) hLl
 have hzg:=fun{i t} h=>wj (a:=LL) (b:=CC) (i:=i) (t:=t) h
 obtain⟨qs,hqs⟩:=nmE (LL.zip CC)
 rw [←hqs]at hzL hzM hzl2 hQ
 simp only [←hqs]at hzg
 have hfq:(qs.map (·.1)).flatten=ixs 0 kids.length:=by rw [hzM];exact hfl
 obtain⟨q,hq⟩:∃q:Pl,q=⟨s0,row,⟨w0,w1⟩,⟨h0',h1'⟩,iw,ih,al,ac,kids⟩:=⟨_,rfl⟩
 rw [←hq]at hQ
 obtain⟨S1,hS1⟩:=nmE (AA q ns S0 ZZ qs)
 rw [←hS1]at hQ
 have hin:=fun(zo c:Int)(h1:0≤zo)(h2:CC[zo.toNat]? =some c) l L h3 h4 done E0 h5 h6 h7 Q' hQ'=>BQ hg (Q:=Q') ns hl V hV rtl n s0 row iw ih al ac w0 w1 h0' h1' kids K hK hk IN AC' KB hKB vI vL vZ vC vT ZZ CC hvZ hvC S0 hzl hsl zo c h1 h2 l L h3 h4 done E0 h5 h6 h7 hQ'
 simp only [←hq]at hin
 replace hvL:=hzL
 refine aY hg aD (by kernel_rfl) vL (fun t=>lnA t.1) qs hvL hzl2 (fun z(s:List av×LLA)=>[(4,.p 0),(6,.p 1),(7,.p 2),(8,.p 3),(9,.p 4),(11,.v vI),(12,.v vL),(13,.i (IN)),(14,.v vZ),(15,.o 5),(16,.v vC),(18,.i (AC')),(20,.v vT),(21,.i (KB)),(116,.v vL),(117,.i (g .ln vL)),(118,.i (z))]) (fun z(s:List av×LLA)=>[.bx 95 3 (mA V rtl),.bx 28 2 [.J w0,.J w1],.bx 28 2 [.J h0',.J h1'],.bx 64 4 [.J 0,.J 0,.J 0,.N],.bx 98 75 (plL n s0 ⟨w0,w1⟩ ⟨h0',h1'⟩ row iw ih al ac (.view K)),.rw ⟨126,7,s.2⟩]) (fun z(s:List av×LLA)=>s.2=vw av.c (s.1++S0.drop s.1.length)) (fun(s:List av×LLA) rest=>(s.1++AA q ns S0 ZZ rest,ixs 0 s.1.length++(rest.map (·.1)).flatten)) ((S1,ixs 0 kids.length)) ([],vS) (by rw [hS1];exact Prod.ext rfl hfq) hvS (Wk.weak (wkG [some _,some _,some _,some _,some _,some 5] ⟨rfl,rfl,rfl,rfl,rfl,rfl,rfl,rfl,rfl,rfl,rfl,rfl,rfl,rfl,rfl,rfl,rfl,trivial⟩ ⟨wqE rfl rfl,wqE rfl rfl,wqE rfl rfl,wqE rfl rfl,wqE rfl rfl,wqE rfl pS,trivial⟩ (by decide) aI)) (fun z s B hz h0 hi he=> ?_) (fun z s x rest B z0 z1 z2 hx hy h0 hi hc e1 hB=> ?_)
 ·obtain⟨D,E⟩:=s
  obtain⟨h01,h02⟩:=Prod.mk.inj h0
  dsimp only at hi
  obtain rfl:D=S1:=by simpa [AA]using h01
  have hDk:D.length=kids.length:=by
   have:=congrArg List.length h02
   simpa [bW]using this
  have hQ:=hQ z E (by rw [hi,hDk,←hsl,List.drop_length,List.append_nil])
  cbv;rw [he];cbv
  exact hQ
 ·obtain⟨done,E⟩:=s
  obtain⟨l,c⟩:=x
  obtain⟨h01,h02⟩:=Prod.mk.inj h0
  dsimp only at hi hy h01 h02
  obtain⟨L,hL⟩:=nmE (vw ao l)
  have hy2:vL[z.toNat]? =some [.view L]:=by rw [hL];exact hy
  have hsp:=ny h02
  rw [bW]at hsp
  have hls:=lD (l:=l) (ls:=rest.map (fun t:List Int×Int=>t.1)) hsp.2.2
  have hll:l.length≤1048576:=Nat.le_trans hls.1 (Nat.le_trans (Nat.sub_le ..) hkl)
  have pE:aj E=true:=by rw [hi];exact ag _ _
  have hle:done.length+l.length≤kids.length:=by have:=hls.1;omega
  have hin:=hin z c z0 (hzg hx).2 l L hL hll done E hi (by simpa using hls.2.1) hle
  have h3:((done++l.map (wP q ns S0 ZZ c))++AA q ns S0 ZZ rest,ixs 0 (done++l.map (wP q ns S0 ZZ c)).length++(rest.map (·.1)).flatten)=(S1,ixs 0 kids.length):=Prod.ext (by rw [←h01];simp [AA]) (by
   show ixs 0 (done++l.map (wP q ns S0 ZZ c)).length++(rest.map (·.1)).flatten=ixs 0 kids.length
   rw [←h02,zqe,zql,jx,zqC]
   congr 1
   rw [zqA,List.flatten_cons]
   congr 1
   exact hls.2.1.symm)
  obtain⟨D2,hD2⟩:=nmE (done++l.map (wP q ns S0 ZZ c))
  have hD2l:D2.length=done.length+l.length:=by rw [hD2,zqe,zql]
  rw [←hD2]at h3 hin
  rw [←hD2l]at hin
  clear hsp hls hle hD2l h02 hfq hzM hzg hzL hq hqs
  cbv
  rw [hc]
  cbv
  refine goX hg _ z0 hy2 rfl ?_
  cbv
  refine kP hg (lO (aK f186) 1) (by kernel_rfl) [(4,.p 0),(6,.p 1),(7,.p 2),(8,.p 3),(9,.p 4),(11,.v vI),(12,.v vL),(13,.i (IN)),(14,.v vZ),(15,.o 5),(16,.v vC),(18,.i (AC')),(20,.v vT),(21,.i (KB)),(22,.i (z)),(116,.v vL),(117,.i (g .ln vL)),(118,.i (z)),(123,.v L),(124,.i (g .ln L)),(125,.i (0))] [.bx 95 3 (mA V rtl),.bx 28 2 [.J w0,.J w1],.bx 28 2 [.J h0',.J h1'],.bx 64 4 [.J 0,.J 0,.J 0,.N],.bx 98 75 (plL n s0 ⟨w0,w1⟩ ⟨h0',h1'⟩ row iw ih al ac (.view K)),.rw ⟨126,7,E⟩] (Wk.weak (wkG [some _,some _,some _,some _,some _,some 5] ⟨rfl,rfl,rfl,rfl,rfl,rfl,rfl,rfl,rfl,rfl,rfl,rfl,rfl,rfl,rfl,rfl,rfl,rfl,rfl,rfl,rfl,trivial⟩ ⟨wqE rfl rfl,wqE rfl rfl,wqE rfl rfl,wqE rfl rfl,wqE rfl rfl,wqE rfl pE,trivial⟩ (by decide) aI)) ?_
  refine hin _ fun z2 E2 hE2=> ?_
  have pE2:aj E2=true:=by rw [hE2];exact ag _ _
  cbv
  (repeat'(rw [e1];cbv))
  skip
  exact hB ((D2,E2)) _ _ ⟨h3,hE2⟩ (Wk.weak (wkG [some _,some _,some _,some _,some _,some 5] ⟨rfl,rfl,rfl,rfl,rfl,rfl,rfl,rfl,rfl,rfl,rfl,rfl,rfl,rfl,rfl,rfl,rfl,trivial⟩ ⟨wqE rfl rfl,wqE rfl rfl,wqE rfl rfl,wqE rfl rfl,wqE rfl rfl,wqE rfl pE2,trivial⟩ (by decide) aI))
theorem rB(xs:List ah)(hl:xs.length≤1048576):PC0 369 [.c (.view (vw ah.c xs))] (.i (auN xs)):=by
 obtain⟨V,hV⟩:=nmE (vw ah.c xs)
 have hVl:V.length=xs.length:=by rw [hV,af]
 have iV:bR V=true:=by rw [hV];exact aG _ _
 have kV:∀y∈V,y.length=9:=by rw [hV];exact bC (c:=ah.c) (k:=9) fun _=>rfl
 have dV:∀y∈V,y.all dat=true:=by rw [hV];exact az
 obtain⟨R,hR⟩:=nmE (auN xs)
 rw [←hV,←hR]
 refine ae (aK f369) aD func369 fun g F hg hF=> ?_
 cbv
 refine aY hg aD (by kernel_rfl) V (fun x=>lc (ah.c x)) xs hV hl (fun z(s:Int)=>[(0,.v V),(3,.i (s)),(4,.i (z))]) (fun z(s:Int)=>[]) (fun z(s:Int)=>0≤s∧s≤2*z) (fun(s:Int) rest=>s+auN rest) (R) (0:Int) (by rw [hR];exact Int.zero_add _) ⟨by decide,by decide⟩ (Wk.weak (wkG [] ⟨rfl,rfl,rfl,trivial⟩ trivial (by decide) aI)) (fun z s B hz h0 hi he=> ?_) (fun z s x rest B z0 z1 z2 hx hy h0 hi hc e1 hB=> ?_)
 ·cbv;rw [he];cbv
  exact ba hF (by rw [←h0];simp [auN])
 ·obtain⟨y0,y1,y2,y3,y4,y5,y6,y7,y8⟩:=x
  have es:∀t:Int,0≤t→t≤2*z+2→g .w .add .i64 t 1=t+1:=fun t k0 k1=>by rw [aM hg];exact wr1 (by omega) (by omega)
  obtain⟨s1,k1⟩:=nmE (s+1)
  obtain⟨s2,k2⟩:=nmE (s1+1)
  have hs1:=es s hi.1 (by omega)
  have hs2:=es s1 (by omega) (by omega)
  rw [←k1]at hs1
  rw [←k2]at hs2
  cases y7<;>cases y8
  all_goals
   cbv;rw [hc];cbv;refine goX hg _ z0 hy rfl ?_;cbv
   (repeat'((first|rw [hs1]|rw [hs2]|refine goX hg _ (by omega) hy rfl ?_);cbv))
   rw [e1]
   first
    |(exact hB (s) _ _ ⟨(by rw [←h0];simp [auN]),⟨by omega,by omega⟩⟩ (Wk.weak (wkG [] ⟨rfl,rfl,rfl,trivial⟩ trivial (by decide) aI)))
    |(exact hB (s1) _ _ ⟨(by rw [←h0];simp [auN];omega),⟨by omega,by omega⟩⟩ (Wk.weak (wkG [] ⟨rfl,rfl,rfl,trivial⟩ trivial (by decide) aI)))
    |(exact hB (s2) _ _ ⟨(by rw [←h0];simp [auN];omega),⟨by omega,by omega⟩⟩ (Wk.weak (wkG [] ⟨rfl,rfl,rfl,trivial⟩ trivial (by decide) aI)))
theorem r7(xs:List ah)(hl:xs.length≤1048576):PC0 359 [.c (.view (vw ah.c xs))] (.i (auN xs)):=by
 obtain⟨V,hV⟩:=nmE (vw ah.c xs)
 have hVl:V.length=xs.length:=by rw [hV,af]
 have iV:bR V=true:=by rw [hV];exact aG _ _
 have kV:∀y∈V,y.length=9:=by rw [hV];exact bC (c:=ah.c) (k:=9) fun _=>rfl
 have dV:∀y∈V,y.all dat=true:=by rw [hV];exact az
 obtain⟨R,hR⟩:=nmE (auN xs)
 rw [←hV,←hR]
 refine ae (aK f359) aD func359 fun g F hg hF=> ?_
 cbv
 refine aY hg aD (by kernel_rfl) V (fun x=>lc (ah.c x)) xs hV hl (fun z(s:Int)=>[(3,.i (s)),(6,.v V),(7,.i (g .ln V)),(8,.i (z))]) (fun z(s:Int)=>[]) (fun z(s:Int)=>0≤s∧s≤2*z) (fun(s:Int) rest=>s+auN rest) (R) (0:Int) (by rw [hR];exact Int.zero_add _) ⟨by decide,by decide⟩ (Wk.weak (wkG [] ⟨rfl,rfl,rfl,rfl,trivial⟩ trivial (by decide) aI)) (fun z s B hz h0 hi he=> ?_) (fun z s x rest B z0 z1 z2 hx hy h0 hi hc e1 hB=> ?_)
 ·cbv;rw [he];cbv
  exact ba hF (by rw [←h0];simp [auN])
 ·obtain⟨y0,y1,y2,y3,y4,y5,y6,y7,y8⟩:=x
  have es:∀t:Int,0≤t→t≤2*z+2→g .w .add .i64 t 1=t+1:=fun t k0 k1=>by rw [aM hg];exact wr1 (by omega) (by omega)
  obtain⟨s1,k1⟩:=nmE (s+1)
  obtain⟨s2,k2⟩:=nmE (s1+1)
  have hs1:=es s hi.1 (by omega)
  have hs2:=es s1 (by omega) (by omega)
  rw [←k1]at hs1
  rw [←k2]at hs2
  cases y7<;>cases y8
  all_goals
   cbv;rw [hc];cbv;refine goX hg _ z0 hy rfl ?_;cbv
   (repeat'((first|rw [hs1]|rw [hs2]|refine goX hg _ (by omega) hy rfl ?_);cbv))
   rw [e1]
   first
    |(exact hB (s) _ _ ⟨(by rw [←h0];simp [auN]),⟨by omega,by omega⟩⟩ (Wk.weak (wkG [] ⟨rfl,rfl,rfl,rfl,trivial⟩ trivial (by decide) aI)))
    |(exact hB (s1) _ _ ⟨(by rw [←h0];simp [auN];omega),⟨by omega,by omega⟩⟩ (Wk.weak (wkG [] ⟨rfl,rfl,rfl,rfl,trivial⟩ trivial (by decide) aI)))
    |(exact hB (s2) _ _ ⟨(by rw [←h0];simp [auN];omega),⟨by omega,by omega⟩⟩ (Wk.weak (wkG [] ⟨rfl,rfl,rfl,rfl,trivial⟩ trivial (by decide) aI)))
theorem u9(xs:List ah)(ys:List Int)(gap inner:Int)(hx:xs.length≤1048576)(hy:ys.length≤1048576):PC0 367 [.c (.view (vw ah.c xs)),.c (.view (vw ao ys)),ai gap,ai inner] (.t (abl (al5 xs ys gap inner))):=by
 have cI:=iQ xs hx
 have cg:=bI gap 0 1048576
 have ci:=bI inner 0 1048576
 change PC0 _ _ (.t (abl (rng gap 0 1048576)))at cg
 change PC0 _ _ (.t (abl (rng inner 0 1048576)))at ci
 obtain⟨R,hR⟩:=nmE (al5 xs ys gap inner)
 rw [←hR]
 unfold al5 at hR
 obtain⟨I,hI⟩:=nmE (dT xs);(try rw [←hI]at cI);(try rw [←hI]at hR)
 obtain⟨G,hG⟩:=nmE (rng gap 0 1048576);(try rw [←hG]at cg);(try rw [←hG]at hR)
 obtain⟨J,hJ⟩:=nmE (rng inner 0 1048576);(try rw [←hJ]at ci);(try rw [←hJ]at hR)
 obtain⟨V,hV⟩:=nmE (vw ah.c xs)
 have hVl:V.length=xs.length:=by rw [hV,af]
 have iV:bR V=true:=by rw [hV];exact aG _ _
 have kV:∀y∈V,y.length=9:=by rw [hV];exact bC (c:=ah.c) (k:=9) fun _=>rfl
 have dV:∀y∈V,y.all dat=true:=by rw [hV];exact az
 obtain⟨W,hW⟩:=nmE (vw ao ys)
 have hWl:W.length=ys.length:=by rw [hW,af]
 have iW:bR W=true:=by rw [hW];exact aG _ _
 have kW:∀y∈W,y.length=1:=by rw [hW];exact bC (c:=ao) (k:=1) fun _=>rfl
 have dW:∀y∈W,y.all dat=true:=by rw [hW];exact az
 rw [←hV]at cI
 rw [←hV,←hW]
 obtain⟨q,hq⟩:=nmE (decide (ys.length=xs.length));(try rw [←hq]at hR)
 obtain⟨T,hT⟩:=nmE ((I&&(q&&(G&&J))))
 rw [←hT]at hR
 refine ae (aK f367) aD func367 fun g F hg hF=> ?_
 have tl:g .q .eql (g .ln W) (g .ln V)=q:=by
  rw [bv hg,bD hg,bD hg,aB,aB,hVl,hWl,hq]
  by_cases h:ys.length=xs.length
  ·simp [h]
  ·simp [h];omega
 cbv
 refine aY hg aD (by kernel_rfl) W (fun x=>lc (ao x)) ys hW hy (fun z(s:Unit)=>[(0,.v V),(1,.v W),(2,.i (gap)),(3,.i (inner)),(9,.i (z))]) (fun z(s:Unit)=>[]) (fun z(s:Unit)=>True) (fun(s:Unit) rest=>rest.all (fun s=>rng s 0 1048576)&&T) (R) () hR.symm trivial (Wk.weak (wkG [] ⟨rfl,rfl,rfl,rfl,rfl,trivial⟩ trivial (by decide) aI)) (fun z s B hz h0 hi he=> ?_) (fun z s x rest B z0 z1 z2 hx hy h0 hi hc e1 hB=> ?_)
 rotate_left
 ·cbv;rw [hc];cbv;refine goX hg _ z0 hy rfl ?_;cbv
  (first|refine br hg (bI x 0 1048576) rfl (fun R0 hR0=> ?_)|refine aZ hg (bI x 0 1048576) rfl (fun R0 hR0=> ?_));cbv
  cases R0<;>cbv
  ·exact bj hF (by rw [←h0,zqD,show rng x 0 1048576=false from hR0.symm];rfl)
  ·rw [e1]
   exact hB (()) _ _ ⟨by rw [←h0,zqD,show rng x 0 1048576=true from hR0.symm];rfl,trivial⟩ (Wk.weak (wkG [] ⟨rfl,rfl,rfl,rfl,rfl,trivial⟩ trivial (by decide) aI))
 cbv;rw [he];cbv
 have h0:T=R:=h0
 clear hI hG hJ hq hR
 cases I<;>cases q<;>cases G<;>cases J
 all_goals((repeat'((first|rw [tl]|refine ad hg cI ?_|refine aa hg cI ?_|refine ad hg cg ?_|refine aa hg cg ?_|refine ad hg ci ?_|refine aa hg ci ?_);cbv));exact bj hF (by rw [←h0,hT];rfl))
theorem yj(ex:List Int)(C:AC)(hd:dat C=true)(cE:∀i:Int,PC0 271 [.c C,ai i] (.i (elZ ex i)))(k:Int)(hk0:0≤k)(hk1:k≤1048576)(b:Bool):
  Con prog 360 (toH [.bx 3 1 [.J k],.bx 49 1 [C]]) [abl b,.c (.ptr 0 0 0),.c (.ptr 1 0 0)] fun res h'=>∃eh,toH eh=h'∧res= .i (auT ex k b)∧eh=[.bx 3 1 [.J (auK k b)],.bx 49 1 [C]]:=by
 replace cE:=cE k
 obtain⟨R,hR⟩:=nmE (auT ex k b)
 obtain⟨K,hK⟩:=nmE (auK k b)
 rw [←hR,←hK]
 unfold auT at hR
 unfold auK at hK
 obtain⟨e,he⟩:=nmE (elZ ex k);(try rw [←he]at cE);(try rw [←he]at hR)
 refine du [] [] (c:=aK f360) aD func360 (by kernel_rfl) (by kernel_rfl) (bl (by rfl)) (by kernel_rfl) fun g eff hd F heff hhd hg hF=> ?_
 have e1:g .w .add .i64 k 1=k+1:=by rw [aM hg];exact wr1 (by omega) (by omega)
 have e2:g .w .sub .i64 (k+1) 1=k:=by rw [dd hg,show k+1-1=k by omega];exact wr1 (by omega) (by omega)
 generalize k+1=k1 at *
 have pC:dz C=true:=by cases C<;>first|rfl|cases hd
 cases b
 ·cbv
  obtain rfl:R=0:=hR
  obtain rfl:K=k:=hK
  exact GS hF (.i 0) [.bx 3 1 [.J K],.bx 49 1 [C]] _ (wkM [some 0,some 1] ⟨rfl,trivial⟩ ⟨.inr (wqE rfl rfl),.inr ⟨_,_,rfl,rfl,rfl,rfl,.inl ⟨rfl,by simp [aj,pC]⟩⟩,trivial⟩ (by decide) ⟨.inr rfl,.inr rfl,trivial⟩ ⟨.inr ⟨_,rfl⟩,.inr ⟨_,rfl⟩,trivial⟩) ⟨_,rfl,rfl,rfl⟩
 ·cbv
  rw [e1,e2]
  refine fH hg cE (by cases C<;>first|rfl|cases hd) rfl ?_
  cbv
  obtain rfl:R=e:=hR
  obtain rfl:K=k1:=hK
  exact GS hF (.i R) [.bx 3 1 [.J K],.bx 49 1 [C]] _ (wkM [some 0,some 1] ⟨rfl,trivial⟩ ⟨.inr (wqE rfl rfl),.inr ⟨_,_,rfl,rfl,rfl,rfl,.inl ⟨rfl,by simp [aj,pC]⟩⟩,trivial⟩ (by decide) ⟨.inr rfl,.inr rfl,trivial⟩ ⟨.inr ⟨_,rfl⟩,.inr ⟨_,rfl⟩,trivial⟩) ⟨_,rfl,rfl,rfl⟩
theorem Df{n0 N:Nat}{g:Gd}(hg:g=G0 prog n0 N){H:EH}{r0 r1:Nat}{C:AC}(pC:dz C=true){k k2 v:Int}{b:Bool}{K:AV→EH→Prop}
  (hc:Con prog 360 (toH [.bx 3 1 [.J k],.bx 49 1 [C]]) [abl b,.c (.ptr 0 0 0),.c (.ptr 1 0 0)] fun res h'=>∃eh,toH eh=h'∧res= .i v∧eh=[.bx 3 1 [.J k2],.bx 49 1 [C]])
  (h1:nth H r1=some (.bx 3 1 [.J k])) (h0:nth H r0=some (.bx 49 1 [C])) (hne:Nat.beq r1 r0=false) (hK:K (.i v) (H.set r1 (.bx 3 1 [.J k2]))):
  g .C 360 H [abl b,.c (.ptr r1 0 0),.c (.ptr r0 0 0)] K:=by
 have hne':r1≠r0:=fun e=>by rw [e,show Nat.beq r0 r0=true from Nat.beq_refl r0]at hne;cases hne
 have hlt:∀{r:Nat}{e:EE},nth H r=some e→r<H.length:=fun{r e} h=>by
  rw [fB]at h;exact(List.getElem?_eq_some_iff.1 h).1
 refine Cm hg (h:=[.bx 3 1 [.J k],.bx 49 1 [C]]) [r1,r0] hc (by simp [hne']) (fun r hr=> ?_) ?_ ⟨rfl,rfl,rfl,trivial⟩ fun res eh hp=> ?_
 ·simp only [List.mem_cons,List.not_mem_nil,or_false]at hr
  rcases hr with rfl|rfl
  ·exact hlt h1
  ·exact hlt h0
 ·exact⟨⟨_,⟨_,_,_⟩,rfl,by rw [h1];rfl,rfl,rfl,.inl ⟨rfl,rfl⟩⟩,⟨_,⟨_,_,_⟩,rfl,by rw [h0];rfl,rfl,rfl,.inl ⟨rfl,by simp [pC]⟩⟩,trivial⟩
 ·obtain⟨rfl,rfl⟩:=hp
  have e:dg (plc [r1,r0] H.length) [r1,r0] H [.bx 3 1 [.J k2],.bx 49 1 [C]]=H.set r1 (.bx 3 1 [.J k2]):=by
   simp only [dg,EE.mv,zqA,List.map_nil,nm (c:= .J k2) rfl,nm pC,List.append_nil]
   apply List.ext_getElem?
   intro i
   by_cases hi:i=r0
   ·subst hi
    have hl:=hlt h0
    rw [fB]at h0
    rw [List.getElem?_set_self (by simpa using hl),List.getElem?_set_ne hne',h0]
   ·rw [List.getElem?_set_ne (Ne.symm hi)]
  rw [e]
  exact hK
end Go.Proofs.YtdnnffbbhijmkaaGreat
