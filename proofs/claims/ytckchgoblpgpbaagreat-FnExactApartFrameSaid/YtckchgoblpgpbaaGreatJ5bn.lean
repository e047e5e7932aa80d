/- The places of items along: both programs. -/
import Derived.Test.YtckchgoblpgpbaaGreatJ5bm
set_option linter.unusedVariables false
set_option linter.unusedSimpArgs false
set_option maxHeartbeats 16000000
namespace Go.Proofs.YtckchgoblpgpbaaGreat
open Go.ChangeShapes Go.WideShapes Go.ChangeAt Go.RowKit Am Go.Proofs.Tryz
set_option maxRecDepth 100000
theorem vo{α:Type}{H:List α}{q:Nat}{y:α}(h:H[q]? =some y):H.set q y=H:=by
 refine List.ext_getElem? fun j=> ?_
 rw [List.getElem?_set]
 split
 ·rename_i hj;subst hj
  rw [if_pos (List.getElem?_eq_some_iff.1 h).1,h]
 ·rfl
theorem AZ{p:Pl}{ns:List af}{S:List ar}{Z:List Int}{c i kd z:Int}{y:af}{sd:ar}(h0:0<=i)(hS:S[i.toNat]? =some sd)(hK:p.kids[i.toNat]? =some kd)(hZ:Z[i.toNat]? =some z)(hy:ns[(kd-1).toNat]? =some y):
  xh p ns S Z c i=if yv sd=true/\ph y.style (!p.row) (knS p.ac)= -1/\qn y.style (!p.row) z= -1 then AY sd (ly y.style (!p.row) (knS p.ac) (wrap64 (c-wrap64 (sd.before+sd.behind))))else sd:=by
 have e1:elZ p.kids i=kd:=by have:=nP hK;rwa [Int.toNat_of_nonneg h0]at this
 have e2:elZ Z i=z:=by have:=nP hZ;rwa [Int.toNat_of_nonneg h0]at this
 unfold xh
 rw [vt h0 hS,e1,e2,gU hy]
variable {Q:Exit->List (Nat×AV)->EH->Prop}{g:Gd}
theorem Ci(hg:g= @G0 bp0 prog 0 f125.ntmps)(ns:List af)(hl:ns.length<=1048576)(V:LLA)(hV:V=vwA af.ac ns)(rtl:Bool)(n:Int)(s0:aj)(row:Bool)(iw ih al ac:aI)(w0 w1 h0' h1':Int)(kids:List Int)(K:LLA)(hK:K=vw ak kids)(hk:∀hd∈kids,isN ns hd=true)
  (IN AC' KB:Int) (hKB:KB=knS ac) (vI vL vZ vC vT:LLA) (ZZ CC:List Int) (hvZ:vZ=vw ak ZZ) (hvC:vC=vw ak CC) (S0:List ar) (hzl:ZZ.length=kids.length) (hsl:S0.length=kids.length)
  (zo c:Int) (hz0:0<=zo) (hcc:CC[zo.toNat]? =some c) (l:List Int) (L:LLA) (hL:L=vw ak l) (hll:l.length<=1048576) (done:List ar) (E0:LLA) (hE0:E0=vw ar.c (done++S0.drop done.length)) (hld:l=ixs done.length l.length) (hle:done.length+l.length<=kids.length)
  (hQ:∀(z:Int)(E:LLA),E=vw ar.c ((done++l.map (xh ⟨s0,row,⟨w0,w1⟩,⟨h0',h1'⟩,iw,ih,al,ac,kids⟩ ns S0 ZZ c))++S0.drop (done.length+l.length))->Q (.exit 2) [(126,.t (abl (false))),(4,.p 0),(6,.p 1),(7,.p 2),(8,.p 3),(9,.p 4),(11,.v vI),(12,.v vL),(13,.i (IN)),(14,.v vZ),(15,.o 5),(16,.v vC),(18,.i (AC')),(20,.v vT),(21,.i (KB)),(22,.i (zo)),(116,.v vL),(117,.i (g .ln vL)),(118,.i (zo)),(123,.v L),(124,.i (g .ln L)),(125,.i (z))] [.bx 76 3 (mo V rtl),.bx 122 2 [.J w0,.J w1],.bx 122 2 [.J h0',.J h1'],.bx 127 4 [.J 0,.J 0,.J 0,.N],.bx 196 75 (plL n s0 ⟨w0,w1⟩ ⟨h0',h1'⟩ row iw ih al ac (.view K)),.rw ⟨210,7,E⟩]):
  g .L (lV (aJ f125) 1) Q [(4,.p 0),(6,.p 1),(7,.p 2),(8,.p 3),(9,.p 4),(11,.v vI),(12,.v vL),(13,.i (IN)),(14,.v vZ),(15,.o 5),(16,.v vC),(18,.i (AC')),(20,.v vT),(21,.i (KB)),(22,.i (zo)),(116,.v vL),(117,.i (g .ln vL)),(118,.i (zo)),(123,.v L),(124,.i (g .ln L)),(125,.i (0))] [.bx 76 3 (mo V rtl),.bx 122 2 [.J w0,.J w1],.bx 122 2 [.J h0',.J h1'],.bx 127 4 [.J 0,.J 0,.J 0,.N],.bx 196 75 (plL n s0 ⟨w0,w1⟩ ⟨h0',h1'⟩ row iw ih al ac (.view K)),.rw ⟨210,7,E0⟩]:=by
 obtain⟨fx,hS⟩:=nmE (xh ⟨s0,row,⟨w0,w1⟩,⟨h0',h1'⟩,iw,ih,al,ac,kids⟩ ns S0 ZZ c)
 rw [<-hS]at hQ
 obtain⟨D1,ht⟩:=nmE (done++l.map fx)
 rw [<-ht]at hQ
 have hI:D1.length=done.length+l.length:=by rw [ht,zqe,zql]
 have pE:=pmV hE0
 have hP:∀hd∈kids,∃y,ns[(hd-1).toNat]? =some y:=fun hd h=>(bq (hk hd h)).2.2
 have hU:=fun hd(h:hd∈kids) y hy Ky Ry=>bP ns hd y (bq (hk hd h)).1 (by have:=(bq (hk hd h)).2.1;omega) hy V Ky Ry hV
 have hY:(done++l.map fx,ixs 0 done.length++l)=(D1,ixs 0 D1.length):=Prod.ext ht.symm (by show ixs 0 done.length++l=ixs 0 D1.length;rw [hI,jK,Int.zero_add,<-hld])
 have hZ:vC[zo.toNat]? =some [.J c]:=by rw [hvC];exact bf hcc
 clear hld
 refine aY hg ay (by kernel_rfl) L (fun x=>lc (ak x)) l hL hll (fun z(s:List ar×LLA)=>[(4,.p 0),(6,.p 1),(7,.p 2),(8,.p 3),(9,.p 4),(11,.v vI),(12,.v vL),(13,.i (IN)),(14,.v vZ),(15,.o 5),(16,.v vC),(18,.i (AC')),(20,.v vT),(21,.i (KB)),(22,.i (zo)),(116,.v vL),(117,.i (g .ln vL)),(118,.i (zo)),(123,.v L),(124,.i (g .ln L)),(125,.i (z))]) (fun z(s:List ar×LLA)=>[.bx 76 3 (mo V rtl),.bx 122 2 [.J w0,.J w1],.bx 122 2 [.J h0',.J h1'],.bx 127 4 [.J 0,.J 0,.J 0,.N],.bx 196 75 (plL n s0 ⟨w0,w1⟩ ⟨h0',h1'⟩ row iw ih al ac (.view K)),.rw ⟨210,7,s.2⟩]) (fun z(s:List ar×LLA)=>s.2=vw ar.c (s.1++S0.drop s.1.length)) (fun(s:List ar×LLA) rest=>(s.1++rest.map fx,ixs 0 s.1.length++rest)) ((D1,ixs 0 D1.length)) (done,E0) hY hE0 (Wk.weak (wkG [some _,some _,some _,some _,some _,some 5] ⟨rfl,rfl,rfl,rfl,rfl,rfl,rfl,rfl,rfl,rfl,rfl,rfl,rfl,rfl,rfl,rfl,rfl,rfl,rfl,rfl,rfl,trivial⟩ ⟨wqE rfl rfl,wqE rfl rfl,wqE rfl rfl,wqE rfl rfl,wqE rfl rfl,wqE rfl pE,trivial⟩ (by decide) aD)) (fun z s B hz h0 hi he=> ?_) (fun z s x rest B z0 z1 z2 hx hy h0 hi hc e1 hB=> ?_)
 ·obtain⟨D,E⟩:=s
  obtain⟨hh,hm⟩:=Prod.mk.inj h0
  obtain rfl:D=D1:=by simpa using hh
  dsimp only at hi
  have hQ:=hQ z E (by rw [hi,hI])
  cbv;rw [he];cbv
  exact hQ
 ·obtain⟨D,E⟩:=s
  obtain⟨hh,hm⟩:=Prod.mk.inj h0
  dsimp only at hi hh hm hy
  have hW:x=(D.length:Int):=by
   have e:=congrArg (fun l=>l[D.length]?) hm
   have h5:D.length<D1.length:=by have:=congrArg List.length hh;simp at this;omega
   simp only [zqg (show(ixs 0 D.length).length<=D.length by rw [bX];exact Nat.le_refl _),bX,Nat.sub_self,zqw]at e
   rw [vV _ _ _ h5]at e
   simpa using e
  have hu:D.length<D1.length:=by have:=congrArg List.length hh;simp at this;omega
  have hn:0<=x:=by omega
  have hq:x.toNat=D.length:=by omega
  have hN:D.length<S0.length:=by omega
  obtain⟨sd,hF⟩:∃sd,S0[x.toNat]? =some sd:=⟨_,zqc (by omega)⟩
  obtain⟨kd,hp⟩:∃kd,kids[x.toNat]? =some kd:=⟨_,zqc (by omega)⟩
  obtain⟨zz,hG⟩:∃zz,ZZ[x.toNat]? =some zz:=⟨_,zqc (by omega)⟩
  have hT:kd∈kids:=zqd hp
  obtain⟨y,hX⟩:=hP kd hT
  have ha:=AZ (p:=⟨s0,row,⟨w0,w1⟩,⟨h0',h1'⟩,iw,ih,al,ac,kids⟩) (c:=c) hn hF hp hG hX
  rw [<-hS]at ha
  dsimp only at ha
  rw [<-hKB]at ha
  have h2:K[x.toNat]? =some [.J kd]:=by rw [hK];exact bf hp
  have hO:vZ[x.toNat]? =some [.J zz]:=by rw [hvZ];exact bf hG
  have ho:E[x.toNat]? =some (lc (ar.c sd)):=by rw [hi];exact bf (by rw [hq,uG rfl,<-hq];exact hF)
  have h6:x<aX E:=by rw [hi,aQ];simp;omega
  have hf:∀v,E.set x.toNat (lc (ar.c v))=vw ar.c ((D++[v])++S0.drop (D++[v]).length):=fun v=>by
   rw [hi,hq,mB,tB rfl hN];simp
  have h3:((D++[fx x])++rest.map fx,ixs 0 (D++[fx x]).length++rest)=(D1,ixs 0 D1.length):=Prod.ext (by rw [<-hh];simp) (by
   show ixs 0 (D++[fx x]).length++rest=ixs 0 D1.length
   rw [<-hm,zqe,zqm,nB,Int.zero_add,<-hW];simp)
  have cy:=hU kd hT y hX _ _ rfl rfl
  obtain⟨Ky,hJ⟩:=nmE (vw ak y.kids)
  obtain⟨Ry,hM⟩:=nmE (vw aO.c y.table.rules)
  rw [<-hJ,<-hM]at cy
  obtain⟨y0,y1,y2,y3,y4,y5,y6⟩:=sd
  have cI:=v7 ⟨y0,y1,y2,y3,y4,y5,y6⟩
  obtain⟨fb,hR⟩:=nmE (yv ⟨y0,y1,y2,y3,y4,y5,y6⟩)
  rw [<-hR]at cI ha
  dsimp only at ha
  have cF:=eV y.style (!row) KB
  have cR:=gC y.style (!row) zz
  obtain⟨FX,hw⟩:=nmE (ph y.style (!row) KB);(try rw [<-hw]at cF);(try rw [<-hw]at ha)
  obtain⟨RT,hC⟩:=nmE (qn y.style (!row) zz);(try rw [<-hC]at cR);(try rw [<-hC]at ha)
  obtain⟨BB,hr⟩:=nmE (wrap64 (y1+y2))
  rw [<-hr]at ha
  obtain⟨CB,hs⟩:=nmE (wrap64 (c-BB))
  rw [<-hs]at ha
  have cN:=dx y.style (!row) KB CB
  obtain⟨f0,hD⟩:=nmE (ly y.style (!row) KB CB);(try rw [<-hD]at cN);(try rw [<-hD]at ha)
  simp only [AY]at ha
  obtain⟨f6,hE⟩:=nmE (rP y6 f0)
  rw [<-hE]at ha
  have t1:g .w .add .i64 y1 y2=BB:=by rw [aN hg,hr]
  have t2:g .w .sub .i64 c BB=CB:=by rw [bZ hg,hs]
  have t3:g .mn y6 f0=f6:=by rw [GH hg,hE];rfl
  have t4:g .q .eql (FX) ((-1))=decide ((FX)=((-1))):=by rw [bj hg];exact zqn _ _
  have t5:g .q .eql (RT) ((-1))=decide ((RT)=((-1))):=by rw [bj hg];exact zqn _ _
  clear hW hu hq hN hm hr hs hE hw hC hD hR hG hp hF hU hP hvZ hK hV hvC hcc hKB hJ hM
  cbv
  rw [hc]
  cbv
  refine goX hg _ z0 hy rfl ?_
  cbv
  refine goX hg _ hn h2 rfl ?_
  cbv
  (repeat'(refine aa hg cy ?_;cbv))
  refine goY hg hn h6 fun j hj h4=> ?_
  cbv
  rw [<-hj]at hf ho
  refine⟨_,ho,?_⟩
  cbv
  (repeat'(refine aa hg cI ?_;cbv))
  have hb:fx x=⟨y0,y1,y2,y3,y4,y5,y6⟩->E=vw ar.c ((D++[fx x])++S0.drop (D++[fx x]).length):=fun h=>by rw [h,<-hf,vo ho]
  have hH:=pmV hi
  cases fb
  case false=>
   simp only [Bool.false_eq_true,false_and,if_false]at ha
   cbv
   (repeat'(rw [e1];cbv))
   exact hB ((D++[fx x],E)) _ _ ⟨h3,(hb ha)⟩ (Wk.weak (wkG [some _,some _,some _,some _,some _,some 5] ⟨rfl,rfl,rfl,rfl,rfl,rfl,rfl,rfl,rfl,rfl,rfl,rfl,rfl,rfl,rfl,rfl,rfl,rfl,rfl,rfl,rfl,trivial⟩ ⟨wqE rfl rfl,wqE rfl rfl,wqE rfl rfl,wqE rfl rfl,wqE rfl rfl,wqE rfl hH,trivial⟩ (by decide) aD))
  by_cases q4:FX= -1
  case neg=>
   rw [if_neg (fun h=>q4 h.2.1)]at ha
   (first|rw [zqu q4]at t4|rw [zqt q4]at t4|rw [zqu (Classical.not_not.2 q4)]at t4|rw [zqt (Classical.not_not.2 q4)]at t4)
   cbv
   (repeat'((first|rw [t4]|rw [e1]|refine aa hg cF ?_);cbv))
   exact hB ((D++[fx x],E)) _ _ ⟨h3,(hb ha)⟩ (Wk.weak (wkG [some _,some _,some _,some _,some _,some 5] ⟨rfl,rfl,rfl,rfl,rfl,rfl,rfl,rfl,rfl,rfl,rfl,rfl,rfl,rfl,rfl,rfl,rfl,rfl,rfl,rfl,rfl,trivial⟩ ⟨wqE rfl rfl,wqE rfl rfl,wqE rfl rfl,wqE rfl rfl,wqE rfl rfl,wqE rfl hH,trivial⟩ (by decide) aD))
  by_cases q5:RT= -1
  case neg=>
   rw [if_neg (fun h=>q5 h.2.2)]at ha
   (first|rw [zqu q4]at t4|rw [zqt q4]at t4|rw [zqu (Classical.not_not.2 q4)]at t4|rw [zqt (Classical.not_not.2 q4)]at t4)
   (first|rw [zqu q5]at t5|rw [zqt q5]at t5|rw [zqu (Classical.not_not.2 q5)]at t5|rw [zqt (Classical.not_not.2 q5)]at t5)
   cbv
   (repeat'((first|rw [t4]|rw [t5]|rw [e1]|refine aa hg cF ?_|refine aa hg cR ?_|refine goX hg _ hn hO rfl ?_);cbv))
   exact hB ((D++[fx x],E)) _ _ ⟨h3,(hb ha)⟩ (Wk.weak (wkG [some _,some _,some _,some _,some _,some 5] ⟨rfl,rfl,rfl,rfl,rfl,rfl,rfl,rfl,rfl,rfl,rfl,rfl,rfl,rfl,rfl,rfl,rfl,rfl,rfl,rfl,rfl,trivial⟩ ⟨wqE rfl rfl,wqE rfl rfl,wqE rfl rfl,wqE rfl rfl,wqE rfl rfl,wqE rfl hH,trivial⟩ (by decide) aD))
  rw [if_pos ⟨rfl,q4,q5⟩]at ha
  have hv:E[j]? =some [.J y0,.J y1,.J y2,.B y3,.B y4,.J y5,.J y6]:=ho
  have hA:(g .st E j [.J f0,.J y1,.J y2,.B y3,.B y4,.J y5,.J y6])[j]? =some [.J f0,.J y1,.J y2,.B y3,.B y4,.J y5,.J y6]:=by rw [mP hg];exact List.getElem?_set_self h4
  (first|rw [zqu q4]at t4|rw [zqt q4]at t4|rw [zqu (Classical.not_not.2 q4)]at t4|rw [zqt (Classical.not_not.2 q4)]at t4)
  (first|rw [zqu q5]at t5|rw [zqt q5]at t5|rw [zqu (Classical.not_not.2 q5)]at t5|rw [zqt (Classical.not_not.2 q5)]at t5)
  cbv
  (repeat'((first|rw [t4]|rw [t5]|rw [t1]|rw [t2]|rw [t3]|rw [e1]|refine aa hg cF ?_|refine aa hg cR ?_|refine aa hg cN ?_|refine goX hg _ hn hO rfl ?_|refine goX hg _ hz0 hZ rfl ?_|refine⟨_,hv,?_⟩|refine⟨_,hA,?_⟩);cbv))
  generalize hG1:g .st _ j _=E2
  have h1:E2=g .st (g .st E j [.J f0,.J y1,.J y2,.B y3,.B y4,.J y5,.J y6]) j [.J f0,.J y1,.J y2,.B y3,.B y4,.J y5,.J f6]:=hG1.symm
  have aE:E2=vw ar.c ((D++[fx x])++S0.drop (D++[fx x]).length):=by
   rw [ha,<-hf,h1,mP hg,mP hg,List.set_set];rfl
  have h7:=pmV aE
  exact hB ((D++[fx x],E2)) _ _ ⟨h3,aE⟩ (Wk.weak (wkG [some _,some _,some _,some _,some _,some 5] ⟨rfl,rfl,rfl,rfl,rfl,rfl,rfl,rfl,rfl,rfl,rfl,rfl,rfl,rfl,rfl,rfl,rfl,rfl,rfl,rfl,rfl,trivial⟩ ⟨wqE rfl rfl,wqE rfl rfl,wqE rfl rfl,wqE rfl rfl,wqE rfl rfl,wqE rfl h7,trivial⟩ (by decide) aD))
theorem AI(hg:g= @G0 bp0 prog 0 f125.ntmps)(ns:List af)(hl:ns.length<=1048576)(V:LLA)(hV:V=vwA af.ac ns)(rtl:Bool)(n:Int)(s0:aj)(row:Bool)(iw ih al ac:aI)(w0 w1 h0' h1':Int)(kids:List Int)(K:LLA)(hK:K=vw ak kids)(hkl:kids.length<=1048576)(hk:∀kid∈kids,isN ns kid=true)
  (IN AC' KB:Int) (hKB:KB=knS ac) (vI vL vZ vC vT:LLA) (ZZ CC:List Int) (hvZ:vZ=vw ak ZZ) (hvC:vC=vw ak CC) (S0:List ar) (hzl:ZZ.length=kids.length) (hsl:S0.length=kids.length)
  (LL:List (List Int)) (ho:vL=vwA lnA LL) (hLl:LL.length<=1048576) (hcl:CC.length=LL.length) (hfl:LL.flatten=ixs 0 kids.length)
  (hQ:∀(z:Int)(E:LLA),E=vw ar.c (Ba ⟨s0,row,⟨w0,w1⟩,⟨h0',h1'⟩,iw,ih,al,ac,kids⟩ ns S0 ZZ (LL.zip CC))->Q (.exit 0) [(119,.t (abl (false))),(4,.p 0),(6,.p 1),(7,.p 2),(8,.p 3),(9,.p 4),(11,.v vI),(12,.v vL),(13,.i (IN)),(14,.v vZ),(15,.o 5),(16,.v vC),(18,.i (AC')),(20,.v vT),(21,.i (KB)),(116,.v vL),(117,.i (g .ln vL)),(118,.i (z))] [.bx 76 3 (mo V rtl),.bx 122 2 [.J w0,.J w1],.bx 122 2 [.J h0',.J h1'],.bx 127 4 [.J 0,.J 0,.J 0,.N],.bx 196 75 (plL n s0 ⟨w0,w1⟩ ⟨h0',h1'⟩ row iw ih al ac (.view K)),.rw ⟨210,7,E⟩]):
  g .L (lV (aJ f125) 0) Q [(4,.p 0),(6,.p 1),(7,.p 2),(8,.p 3),(9,.p 4),(11,.v vI),(12,.v vL),(13,.i (IN)),(14,.v vZ),(15,.o 5),(16,.v vC),(18,.i (AC')),(20,.v vT),(21,.i (KB)),(116,.v vL),(117,.i (g .ln vL)),(118,.i (0))] [.bx 76 3 (mo V rtl),.bx 122 2 [.J w0,.J w1],.bx 122 2 [.J h0',.J h1'],.bx 127 4 [.J 0,.J 0,.J 0,.N],.bx 196 75 (plL n s0 ⟨w0,w1⟩ ⟨h0',h1'⟩ row iw ih al ac (.view K)),.rw ⟨210,7,vw ar.c S0⟩]:=by
 obtain⟨vS,hp⟩:=nmE (vw ar.c S0)
 have pS:=pmV hp
 rw [<-hp]
 have hr:vL=(LL.zip CC).map (fun t=>lnA t.1):=by rw [ho];exact pi hcl
 have hs:(LL.zip CC).map (·.1)=LL:=fu hcl
 have hh:(LL.zip CC).length<=1048576:=by rw [zqB];exact Nat.le_trans (Nat.min_le_left ..) hLl
 have ht:=fun{i t} h=>wA (a:=LL) (b:=CC) (i:=i) (t:=t) h
 obtain⟨qs,hm⟩:=nmE (LL.zip CC)
 rw [<-hm]at hr hs hh hQ
 simp only [<-hm]at ht
 have hA:(qs.map (·.1)).flatten=ixs 0 kids.length:=by rw [hs];exact hfl
 obtain⟨q,hq⟩:∃q:Pl,q=⟨s0,row,⟨w0,w1⟩,⟨h0',h1'⟩,iw,ih,al,ac,kids⟩:=⟨_,rfl⟩
 rw [<-hq]at hQ
 obtain⟨S1,hw⟩:=nmE (Ba q ns S0 ZZ qs)
 rw [<-hw]at hQ
 have hb:=fun(zo c:Int)(h1:0<=zo)(h2:CC[zo.toNat]? =some c) l L h3 h4 done E0 h5 h6 h7 Q' hQ'=>Ci hg (Q:=Q') ns hl V hV rtl n s0 row iw ih al ac w0 w1 h0' h1' kids K hK hk IN AC' KB hKB vI vL vZ vC vT ZZ CC hvZ hvC S0 hzl hsl zo c h1 h2 l L h3 h4 done E0 h5 h6 h7 hQ'
 simp only [<-hq]at hb
 replace ho:=hr
 refine aY hg ay (by kernel_rfl) vL (fun t=>lnA t.1) qs ho hh (fun z(s:List ar×LLA)=>[(4,.p 0),(6,.p 1),(7,.p 2),(8,.p 3),(9,.p 4),(11,.v vI),(12,.v vL),(13,.i (IN)),(14,.v vZ),(15,.o 5),(16,.v vC),(18,.i (AC')),(20,.v vT),(21,.i (KB)),(116,.v vL),(117,.i (g .ln vL)),(118,.i (z))]) (fun z(s:List ar×LLA)=>[.bx 76 3 (mo V rtl),.bx 122 2 [.J w0,.J w1],.bx 122 2 [.J h0',.J h1'],.bx 127 4 [.J 0,.J 0,.J 0,.N],.bx 196 75 (plL n s0 ⟨w0,w1⟩ ⟨h0',h1'⟩ row iw ih al ac (.view K)),.rw ⟨210,7,s.2⟩]) (fun z(s:List ar×LLA)=>s.2=vw ar.c (s.1++S0.drop s.1.length)) (fun(s:List ar×LLA) rest=>(s.1++Ba q ns S0 ZZ rest,ixs 0 s.1.length++(rest.map (·.1)).flatten)) ((S1,ixs 0 kids.length)) ([],vS) (by rw [hw];exact Prod.ext rfl hA) hp (Wk.weak (wkG [some _,some _,some _,some _,some _,some 5] ⟨rfl,rfl,rfl,rfl,rfl,rfl,rfl,rfl,rfl,rfl,rfl,rfl,rfl,rfl,rfl,rfl,rfl,trivial⟩ ⟨wqE rfl rfl,wqE rfl rfl,wqE rfl rfl,wqE rfl rfl,wqE rfl rfl,wqE rfl pS,trivial⟩ (by decide) aD)) (fun z s B hz h0 hi he=> ?_) (fun z s x rest B z0 z1 z2 hx hy h0 hi hc e1 hB=> ?_)
 ·obtain⟨D,E⟩:=s
  obtain⟨hj,ha⟩:=Prod.mk.inj h0
  dsimp only at hi
  obtain rfl:D=S1:=by simpa [Ba]using hj
  have hD:D.length=kids.length:=by
   have:=congrArg List.length ha
   simpa [bX]using this
  have hQ:=hQ z E (by rw [hi,hD,<-hsl,List.drop_length,List.append_nil])
  cbv;rw [he];cbv
  exact hQ
 ·obtain⟨done,E⟩:=s
  obtain⟨l,c⟩:=x
  obtain⟨hj,ha⟩:=Prod.mk.inj h0
  dsimp only at hi hy hj ha
  obtain⟨L,hL⟩:=nmE (vw ak l)
  have hF:vL[z.toNat]? =some [.view L]:=by rw [hL];exact hy
  have hn:=nA ha
  rw [bX]at hn
  have hf:=lM (l:=l) (ls:=rest.map (fun t:List Int×Int=>t.1)) hn.2.2
  have hE:l.length<=1048576:=Nat.le_trans hf.1 (Nat.le_trans (Nat.sub_le ..) hkl)
  have pE:=pmV hi
  have hC:done.length+l.length<=kids.length:=by have:=hf.1;omega
  have hb:=hb z c z0 (ht hx).2 l L hL hE done E hi (by simpa using hf.2.1) hC
  have h3:((done++l.map (xh q ns S0 ZZ c))++Ba q ns S0 ZZ rest,ixs 0 (done++l.map (xh q ns S0 ZZ c)).length++(rest.map (·.1)).flatten)=(S1,ixs 0 kids.length):=Prod.ext (by rw [<-hj];simp [Ba]) (by
   show ixs 0 (done++l.map (xh q ns S0 ZZ c)).length++(rest.map (·.1)).flatten=ixs 0 kids.length
   rw [<-ha,zqe,zql,jK,zqC]
   congr 1
   rw [zqA,List.flatten_cons]
   congr 1
   exact hf.2.1.symm)
  obtain⟨D2,hu⟩:=nmE (done++l.map (xh q ns S0 ZZ c))
  have hd:D2.length=done.length+l.length:=by rw [hu,zqe,zql]
  rw [<-hu]at h3 hb
  rw [<-hd]at hb
  clear hn hf hC hd ha hA hs ht hr hq hm
  cbv
  rw [hc]
  cbv
  refine goX hg _ z0 hF rfl ?_
  cbv
  refine li hg (lV (aJ f125) 1) (by kernel_rfl) [(4,.p 0),(6,.p 1),(7,.p 2),(8,.p 3),(9,.p 4),(11,.v vI),(12,.v vL),(13,.i (IN)),(14,.v vZ),(15,.o 5),(16,.v vC),(18,.i (AC')),(20,.v vT),(21,.i (KB)),(22,.i (z)),(116,.v vL),(117,.i (g .ln vL)),(118,.i (z)),(123,.v L),(124,.i (g .ln L)),(125,.i (0))] [.bx 76 3 (mo V rtl),.bx 122 2 [.J w0,.J w1],.bx 122 2 [.J h0',.J h1'],.bx 127 4 [.J 0,.J 0,.J 0,.N],.bx 196 75 (plL n s0 ⟨w0,w1⟩ ⟨h0',h1'⟩ row iw ih al ac (.view K)),.rw ⟨210,7,E⟩] (Wk.weak (wkG [some _,some _,some _,some _,some _,some 5] ⟨rfl,rfl,rfl,rfl,rfl,rfl,rfl,rfl,rfl,rfl,rfl,rfl,rfl,rfl,rfl,rfl,rfl,rfl,rfl,rfl,rfl,trivial⟩ ⟨wqE rfl rfl,wqE rfl rfl,wqE rfl rfl,wqE rfl rfl,wqE rfl rfl,wqE rfl pE,trivial⟩ (by decide) aD)) ?_
  refine hb _ fun z2 E2 hv=> ?_
  have hG:=pmV hv
  cbv
  (repeat'(rw [e1];cbv))
  skip
  exact hB ((D2,E2)) _ _ ⟨h3,hv⟩ (Wk.weak (wkG [some _,some _,some _,some _,some _,some 5] ⟨rfl,rfl,rfl,rfl,rfl,rfl,rfl,rfl,rfl,rfl,rfl,rfl,rfl,rfl,rfl,rfl,rfl,trivial⟩ ⟨wqE rfl rfl,wqE rfl rfl,wqE rfl rfl,wqE rfl rfl,wqE rfl rfl,wqE rfl hG,trivial⟩ (by decide) aD))
theorem rL(xs:List ag)(hl:xs.length<=1048576):PC0 304 [.c (.view (vw ag.c xs))] (.i (auN xs)):=by
 obtain⟨V,hV⟩:=nmE (vw ag.c xs)
 have hd:=lmV hV
 have iV:=imV hV
 have kV:=kmV (k:=9) hV fun _=>rfl
 have dV:=dmV hV
 obtain⟨R,hR⟩:=nmE (auN xs)
 rw [<-hV,<-hR]
 refine ae (aJ f304) ay func304 fun g F hg hF=> ?_
 cbv
 refine aY hg ay (by kernel_rfl) V (fun x=>lc (ag.c x)) xs hV hl (fun z(s:Int)=>[(0,.v V),(3,.i (s)),(4,.i (z))]) (fun z(s:Int)=>[]) (fun z(s:Int)=>0<=s/\s<=2*z) (fun(s:Int) rest=>s+auN rest) (R) (0:Int) (by rw [hR];exact Int.zero_add _) ⟨by decide,by decide⟩ (Wk.weak (wkG [] zr3 trivial (by decide) aD)) (fun z s B hz h0 hi he=> ?_) (fun z s x rest B z0 z1 z2 hx hy h0 hi hc e1 hB=> ?_)
 ·cbv;rw [he];cbv
  exact aV hF (by rw [<-h0];simp [auN])
 ·obtain⟨y0,y1,y2,y3,y4,y5,y6,y7,y8⟩:=x
  have es:∀t:Int,0<=t->t<=2*z+2->g .w .add .i64 t 1=t+1:=fun t k0 k1=>by rw [aN hg];exact wr1 (by omega) (by omega)
  obtain⟨s1,k1⟩:=nmE (s+1)
  obtain⟨s2,k2⟩:=nmE (s1+1)
  have ha:=es s hi.1 (by omega)
  have hb:=es s1 (by omega) (by omega)
  rw [<-k1]at ha
  rw [<-k2]at hb
  cases y7<;>cases y8
  all_goals
   cbv;rw [hc];cbv;refine goX hg _ z0 hy rfl ?_;cbv
   (repeat'((first|rw [ha]|rw [hb]|refine goX hg _ (by omega) hy rfl ?_);cbv))
   rw [e1]
   first
    |(exact hB (s) _ _ ⟨(by rw [<-h0];simp [auN]),⟨by omega,by omega⟩⟩ (Wk.weak (wkG [] zr3 trivial (by decide) aD)))
    |(exact hB (s1) _ _ ⟨(by rw [<-h0];simp [auN];omega),⟨by omega,by omega⟩⟩ (Wk.weak (wkG [] zr3 trivial (by decide) aD)))
    |(exact hB (s2) _ _ ⟨(by rw [<-h0];simp [auN];omega),⟨by omega,by omega⟩⟩ (Wk.weak (wkG [] zr3 trivial (by decide) aD)))
theorem sr(xs:List ag)(hl:xs.length<=1048576):PC0 290 [.c (.view (vw ag.c xs))] (.i (auN xs)):=by
 obtain⟨V,hV⟩:=nmE (vw ag.c xs)
 have hd:=lmV hV
 have iV:=imV hV
 have kV:=kmV (k:=9) hV fun _=>rfl
 have dV:=dmV hV
 obtain⟨R,hR⟩:=nmE (auN xs)
 rw [<-hV,<-hR]
 refine ae (aJ f290) ay func290 fun g F hg hF=> ?_
 cbv
 refine aY hg ay (by kernel_rfl) V (fun x=>lc (ag.c x)) xs hV hl (fun z(s:Int)=>[(3,.i (s)),(6,.v V),(7,.i (g .ln V)),(8,.i (z))]) (fun z(s:Int)=>[]) (fun z(s:Int)=>0<=s/\s<=2*z) (fun(s:Int) rest=>s+auN rest) (R) (0:Int) (by rw [hR];exact Int.zero_add _) ⟨by decide,by decide⟩ (Wk.weak (wkG [] zr4 trivial (by decide) aD)) (fun z s B hz h0 hi he=> ?_) (fun z s x rest B z0 z1 z2 hx hy h0 hi hc e1 hB=> ?_)
 ·cbv;rw [he];cbv
  exact aV hF (by rw [<-h0];simp [auN])
 ·obtain⟨y0,y1,y2,y3,y4,y5,y6,y7,y8⟩:=x
  have es:∀t:Int,0<=t->t<=2*z+2->g .w .add .i64 t 1=t+1:=fun t k0 k1=>by rw [aN hg];exact wr1 (by omega) (by omega)
  obtain⟨s1,k1⟩:=nmE (s+1)
  obtain⟨s2,k2⟩:=nmE (s1+1)
  have ha:=es s hi.1 (by omega)
  have hb:=es s1 (by omega) (by omega)
  rw [<-k1]at ha
  rw [<-k2]at hb
  cases y7<;>cases y8
  all_goals
   cbv;rw [hc];cbv;refine goX hg _ z0 hy rfl ?_;cbv
   (repeat'((first|rw [ha]|rw [hb]);cbv))
   rw [e1]
   first
    |(exact hB (s) _ _ ⟨(by rw [<-h0];simp [auN]),⟨by omega,by omega⟩⟩ (Wk.weak (wkG [] zr4 trivial (by decide) aD)))
    |(exact hB (s1) _ _ ⟨(by rw [<-h0];simp [auN];omega),⟨by omega,by omega⟩⟩ (Wk.weak (wkG [] zr4 trivial (by decide) aD)))
    |(exact hB (s2) _ _ ⟨(by rw [<-h0];simp [auN];omega),⟨by omega,by omega⟩⟩ (Wk.weak (wkG [] zr4 trivial (by decide) aD)))
theorem vh(xs:List ag)(ys:List Int)(gap inner:Int)(hx:xs.length<=1048576)(hy:ys.length<=1048576):PC0 302 [.c (.view (vw ag.c xs)),.c (.view (vw ak ys)),ai gap,ai inner] (.t (abl (al5 xs ys gap inner))):=by
 have cI:=i6 xs hx
 have cg:=bI gap 0 1048576
 have ci:=bI inner 0 1048576
 change PC0 _ _ (.t (abl (rng gap 0 1048576)))at cg
 change PC0 _ _ (.t (abl (rng inner 0 1048576)))at ci
 obtain⟨R,hR⟩:=nmE (al5 xs ys gap inner)
 rw [<-hR]
 unfold al5 at hR
 obtain⟨I,hI⟩:=nmE (ep xs);(try rw [<-hI]at cI);(try rw [<-hI]at hR)
 obtain⟨G,hG⟩:=nmE (rng gap 0 1048576);(try rw [<-hG]at cg);(try rw [<-hG]at hR)
 obtain⟨J,hJ⟩:=nmE (rng inner 0 1048576);(try rw [<-hJ]at ci);(try rw [<-hJ]at hR)
 obtain⟨V,hV⟩:=nmE (vw ag.c xs)
 have hb:=lmV hV
 have iV:=imV hV
 have kV:=kmV (k:=9) hV fun _=>rfl
 have dV:=dmV hV
 obtain⟨W,hW⟩:=nmE (vw ak ys)
 have hd:=lmV hW
 have iW:=imV hW
 have kW:=kmV (k:=1) hW fun _=>rfl
 have dW:=dmV hW
 rw [<-hV]at cI
 rw [<-hV,<-hW]
 obtain⟨q,hq⟩:=nmE (decide (ys.length=xs.length));(try rw [<-hq]at hR)
 obtain⟨T,hT⟩:=nmE ((I&&(q&&(G&&J))))
 rw [<-hT]at hR
 refine ae (aJ f302) ay func302 fun g F hg hF=> ?_
 have tl:g .q .eql (g .ln W) (g .ln V)=q:=by
  rw [bj hg,bF hg,bF hg,az,az,hb,hd,hq]
  by_cases h:ys.length=xs.length
  ·simp [h]
  ·simp [h];omega
 cbv
 refine aY hg ay (by kernel_rfl) W (fun x=>lc (ak x)) ys hW hy (fun z(s:Unit)=>[(0,.v V),(1,.v W),(2,.i (gap)),(3,.i (inner)),(9,.i (z))]) (fun z(s:Unit)=>[]) (fun z(s:Unit)=>True) (fun(s:Unit) rest=>rest.all (fun s=>rng s 0 1048576)&&T) (R) () hR.symm trivial (Wk.weak (wkG [] zr5 trivial (by decide) aD)) (fun z s B hz h0 hi he=> ?_) (fun z s x rest B z0 z1 z2 hx hy h0 hi hc e1 hB=> ?_)
 rotate_left
 ·cbv;rw [hc];cbv;refine goX hg _ z0 hy rfl ?_;cbv
  (first|refine bz hg (bI x 0 1048576) rfl (fun R0 ha=> ?_)|refine bd hg (bI x 0 1048576) rfl (fun R0 ha=> ?_));cbv
  cases R0<;>cbv
  ·exact bk hF (by rw [<-h0,zqD,show rng x 0 1048576=false from ha.symm];rfl)
  ·rw [e1]
   exact hB (()) _ _ ⟨by rw [<-h0,zqD,show rng x 0 1048576=true from ha.symm];rfl,trivial⟩ (Wk.weak (wkG [] zr5 trivial (by decide) aD))
 cbv;rw [he];cbv
 have h0:T=R:=h0
 clear hI hG hJ hq hR
 cases I<;>cases q<;>cases G<;>cases J
 all_goals((repeat'((first|rw [tl]|refine ad hg cI ?_|refine ad hg cg ?_|refine ad hg ci ?_);cbv));exact bk hF (by rw [<-h0,hT];rfl))
theorem yG(ex:List Int)(C:AC)(hd:dat C=true)(cE:∀i:Int,PC0 188 [.c C,ai i] (.i (elZ ex i)))(k:Int)(hk0:0<=k)(hk1:k<=1048576)(b:Bool):
  Con prog 291 (toH [.bx 3 1 [.J k],.bx 24 1 [C]]) [abl b,.c (.ptr 0 0 0),.c (.ptr 1 0 0)] fun res h'=>∃eh,toH eh=h'/\res= .i (auT ex k b)/\eh=[.bx 3 1 [.J (auK k b)],.bx 24 1 [C]]:=by
 replace cE:=cE k
 obtain⟨R,hR⟩:=nmE (auT ex k b)
 obtain⟨K,hK⟩:=nmE (auK k b)
 rw [<-hR,<-hK]
 unfold auT at hR
 unfold auK at hK
 obtain⟨e,he⟩:=nmE (elZ ex k);(try rw [<-he]at cE);(try rw [<-he]at hR)
 refine dl [] [] (c:=aJ f291) ay func291 (by kernel_rfl) (by kernel_rfl) (bl (by rfl)) (by kernel_rfl) fun g hb hd F ha hc hg hF=> ?_
 have e1:g .w .add .i64 k 1=k+1:=by rw [aN hg];exact wr1 (by omega) (by omega)
 have e2:g .w .sub .i64 (k+1) 1=k:=by rw [bZ hg,show k+1-1=k by omega];exact wr1 (by omega) (by omega)
 generalize k+1=k1 at *
 have pC:dP C=true:=by cases C<;>first|rfl|cases hd
 cases b
 ·cbv
  obtain rfl:R=0:=hR
  obtain rfl:K=k:=hK
  exact Hr hF (.i 0) [.bx 3 1 [.J K],.bx 24 1 [C]] _ (wkM [some 0,some 1] zr1 ⟨.inr (wqE rfl rfl),.inr ⟨_,_,rfl,rfl,rfl,rfl,.inl ⟨rfl,by simp [aC,pC]⟩⟩,trivial⟩ (by decide) ⟨.inr rfl,.inr rfl,trivial⟩ ⟨.inr ⟨_,rfl⟩,.inr ⟨_,rfl⟩,trivial⟩) ⟨_,rfl,rfl,rfl⟩
 ·cbv
  rw [e1,e2]
  refine fQ hg cE (by cases C<;>first|rfl|cases hd) rfl ?_
  cbv
  obtain rfl:R=e:=hR
  obtain rfl:K=k1:=hK
  exact Hr hF (.i R) [.bx 3 1 [.J K],.bx 24 1 [C]] _ (wkM [some 0,some 1] zr1 ⟨.inr (wqE rfl rfl),.inr ⟨_,_,rfl,rfl,rfl,rfl,.inl ⟨rfl,by simp [aC,pC]⟩⟩,trivial⟩ (by decide) ⟨.inr rfl,.inr rfl,trivial⟩ ⟨.inr ⟨_,rfl⟩,.inr ⟨_,rfl⟩,trivial⟩) ⟨_,rfl,rfl,rfl⟩
theorem DD{n0 N:Nat}(hg:g=G0 prog n0 N){H:EH}{r0 r1:Nat}{C:AC}(pC:dP C=true){k k2 v:Int}{b:Bool}{K:AV->EH->Prop}
  (hc:Con prog 291 (toH [.bx 3 1 [.J k],.bx 24 1 [C]]) [abl b,.c (.ptr 0 0 0),.c (.ptr 1 0 0)] fun res h'=>∃eh,toH eh=h'/\res= .i v/\eh=[.bx 3 1 [.J k2],.bx 24 1 [C]])
  (h1:nth H r1=some (.bx 3 1 [.J k])) (h0:nth H r0=some (.bx 24 1 [C])) (hne:Nat.beq r1 r0=false) (hK:K (.i v) (H.set r1 (.bx 3 1 [.J k2]))):
  g .C 291 H [abl b,.c (.ptr r1 0 0),.c (.ptr r0 0 0)] K:=by
 have ha:r1≠r0:=fun e=>by rw [e,show Nat.beq r0 r0=true from Nat.beq_refl r0]at hne;cases hne
 have hb:∀{r:Nat}{e:EE},nth H r=some e->r<H.length:=fun{r e} h=>by
  rw [fF]at h;exact(List.getElem?_eq_some_iff.1 h).1
 refine CO hg (h:=[.bx 3 1 [.J k],.bx 24 1 [C]]) [r1,r0] hc (by simp [ha]) (fun r hr=> ?_) ?_ zr3 fun res eh hp=> ?_
 ·simp only [List.mem_cons,List.not_mem_nil,or_false]at hr
  rcases hr with rfl|rfl
  ·exact hb h1
  ·exact hb h0
 ·exact⟨⟨_,⟨_,_,_⟩,rfl,by rw [h1];rfl,rfl,rfl,.inl ⟨rfl,rfl⟩⟩,⟨_,⟨_,_,_⟩,rfl,by rw [h0];rfl,rfl,rfl,.inl ⟨rfl,by simp [pC]⟩⟩,trivial⟩
 ·obtain⟨rfl,rfl⟩:=hp
  have e:di (plc [r1,r0] H.length) [r1,r0] H [.bx 3 1 [.J k2],.bx 24 1 [C]]=H.set r1 (.bx 3 1 [.J k2]):=by
   simp only [di,EE.mv,zqA,List.map_nil,nu (c:= .J k2) rfl,nu pC,List.append_nil]
   apply List.ext_getElem?
   intro i
   by_cases hi:i=r0
   ·subst hi
    have hl:=hb h0
    rw [fF]at h0
    rw [List.getElem?_set_self (by simpa using hl),List.getElem?_set_ne ha,h0]
   ·rw [List.getElem?_set_ne (Ne.symm hi)]
  rw [e]
  exact hK
end Go.Proofs.YtckchgoblpgpbaaGreat
