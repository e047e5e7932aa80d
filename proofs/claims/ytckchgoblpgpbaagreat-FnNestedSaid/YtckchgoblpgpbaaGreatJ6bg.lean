/- The places of items along: both programs. -/
import Derived.Test.YtckchgoblpgpbaaGreatJ6bf
set_option linter.unusedVariables false
set_option linter.unusedSimpArgs false
set_option maxHeartbeats 16000000
namespace Go.Proofs.YtckchgoblpgpbaaGreat
open Go.ChangeShapes Go.WideShapes Go.ChangeAt Go.RowKit Am Go.Proofs.Tryz
set_option maxRecDepth 100000
theorem vQ{α:Type}{H:List α}{q:Nat}{y:α}(h:H[q]? =some y):H.set q y=H:=by
 refine List.ext_getElem? fun j=> ?_
 rw [List.getElem?_set]
 split
 ·rename_i hj;subst hj
  rw [if_pos (List.getElem?_eq_some_iff.1 h).1,h]
 ·rfl
theorem Ba{p:Pl}{ns:List af}{S:List av}{Z:List Int}{c i kd z:Int}{y:af}{sd:av}(h0:0<=i)(hS:S[i.toNat]? =some sd)(hK:p.kids[i.toNat]? =some kd)(hZ:Z[i.toNat]? =some z)(hy:ns[(kd-1).toNat]? =some y):
  yv p ns S Z c i=if zy sd=true/\rz y.style (!p.row) (knS p.ac)= -1/\s9 y.style (!p.row) z= -1 then AZ sd (kF y.style (!p.row) (knS p.ac) (wrap64 (c-wrap64 (sd.before+sd.behind))))else sd:=by
 have e1:elZ p.kids i=kd:=by have:=tU hK;rwa [Int.toNat_of_nonneg h0]at this
 have e2:elZ Z i=z:=by have:=tU hZ;rwa [Int.toNat_of_nonneg h0]at this
 unfold yv
 rw [vV h0 hS,e1,e2,gR hy]
variable {Q:Exit->List (Nat×AV)->EH->Prop}{g:Gd}
theorem yh(hg:g= @G0 bp0 prog 0 f125.ntmps)(ns:List af)(hl:ns.length<=1048576)(V:LLA)(hV:V=vwA af.ac ns)(rtl:Bool)(n:Int)(s0:ah)(row:Bool)(iw ih al ac:aG)(w0 w1 h0' h1':Int)(kids:List Int)(K:LLA)(hK:K=vw ak kids)(hk:∀kid∈kids,isN ns kid=true)
  (IN AC' KB:Int) (hKB:KB=knS ac) (vI vL vZ vC vT:LLA) (ZZ CC:List Int) (hvZ:vZ=vw ak ZZ) (hvC:vC=vw ak CC) (S0:List av) (hzl:ZZ.length=kids.length) (hsl:S0.length=kids.length)
  (zo c:Int) (hz0:0<=zo) (hcc:CC[zo.toNat]? =some c) (l:List Int) (L:LLA) (hL:L=vw ak l) (hll:l.length<=1048576) (done:List av) (E0:LLA) (hE0:E0=vw av.c (done++S0.drop done.length)) (hld:l=ixs done.length l.length) (hle:done.length+l.length<=kids.length)
  (hQ:∀(z:Int)(E:LLA),E=vw av.c ((done++l.map (yv ⟨s0,row,⟨w0,w1⟩,⟨h0',h1'⟩,iw,ih,al,ac,kids⟩ ns S0 ZZ c))++S0.drop (done.length+l.length))->Q (.exit 2) [(126,.t (abl (false))),(4,.p 0),(6,.p 1),(7,.p 2),(8,.p 3),(9,.p 4),(11,.v vI),(12,.v vL),(13,.i (IN)),(14,.v vZ),(15,.o 5),(16,.v vC),(18,.i (AC')),(20,.v vT),(21,.i (KB)),(22,.i (zo)),(116,.v vL),(117,.i (g .ln vL)),(118,.i (zo)),(123,.v L),(124,.i (g .ln L)),(125,.i (z))] [.bx 76 3 (gz V rtl),.bx 122 2 [.J w0,.J w1],.bx 122 2 [.J h0',.J h1'],.bx 127 4 [.J 0,.J 0,.J 0,.N],.bx 196 75 (plL n s0 ⟨w0,w1⟩ ⟨h0',h1'⟩ row iw ih al ac (.view K)),.rw ⟨210,7,E⟩]):
  g .L (n5 (aM f125) 1) Q [(4,.p 0),(6,.p 1),(7,.p 2),(8,.p 3),(9,.p 4),(11,.v vI),(12,.v vL),(13,.i (IN)),(14,.v vZ),(15,.o 5),(16,.v vC),(18,.i (AC')),(20,.v vT),(21,.i (KB)),(22,.i (zo)),(116,.v vL),(117,.i (g .ln vL)),(118,.i (zo)),(123,.v L),(124,.i (g .ln L)),(125,.i (0))] [.bx 76 3 (gz V rtl),.bx 122 2 [.J w0,.J w1],.bx 122 2 [.J h0',.J h1'],.bx 127 4 [.J 0,.J 0,.J 0,.N],.bx 196 75 (plL n s0 ⟨w0,w1⟩ ⟨h0',h1'⟩ row iw ih al ac (.view K)),.rw ⟨210,7,E0⟩]:=by
 obtain⟨fx,hR⟩:=nmE (yv ⟨s0,row,⟨w0,w1⟩,⟨h0',h1'⟩,iw,ih,al,ac,kids⟩ ns S0 ZZ c)
 rw [<-hR]at hQ
 obtain⟨D1,hs⟩:=nmE (done++l.map fx)
 rw [<-hs]at hQ
 have hH:D1.length=done.length+l.length:=by rw [hs,zqe,zql]
 have pE:=pmV hE0
 have hO:∀kid∈kids,∃y,ns[(kid-1).toNat]? =some y:=fun kid h=>(aI (hk kid h)).2.2
 have hT:=fun kid(h:kid∈kids) y hy Ky Ry=>aR ns kid y (aI (hk kid h)).1 (by have:=(aI (hk kid h)).2.1;omega) hy V Ky Ry hV
 have hX:(done++l.map fx,ixs 0 done.length++l)=(D1,ixs 0 D1.length):=Prod.ext hs.symm (by show ixs 0 done.length++l=ixs 0 D1.length;rw [hH,jJ,Int.zero_add,<-hld])
 have hY:vC[zo.toNat]? =some [.J c]:=by rw [hvC];exact bv hcc
 clear hld
 refine aU hg aB (by kernel_rfl) L (fun x=>lc (ak x)) l hL hll (fun z(s:List av×LLA)=>[(4,.p 0),(6,.p 1),(7,.p 2),(8,.p 3),(9,.p 4),(11,.v vI),(12,.v vL),(13,.i (IN)),(14,.v vZ),(15,.o 5),(16,.v vC),(18,.i (AC')),(20,.v vT),(21,.i (KB)),(22,.i (zo)),(116,.v vL),(117,.i (g .ln vL)),(118,.i (zo)),(123,.v L),(124,.i (g .ln L)),(125,.i (z))]) (fun z(s:List av×LLA)=>[.bx 76 3 (gz V rtl),.bx 122 2 [.J w0,.J w1],.bx 122 2 [.J h0',.J h1'],.bx 127 4 [.J 0,.J 0,.J 0,.N],.bx 196 75 (plL n s0 ⟨w0,w1⟩ ⟨h0',h1'⟩ row iw ih al ac (.view K)),.rw ⟨210,7,s.2⟩]) (fun z(s:List av×LLA)=>s.2=vw av.c (s.1++S0.drop s.1.length)) (fun(s:List av×LLA) rest=>(s.1++rest.map fx,ixs 0 s.1.length++rest)) ((D1,ixs 0 D1.length)) (done,E0) hX hE0 (Wk.weak (wkG [some _,some _,some _,some _,some _,some 5] ⟨rfl,rfl,rfl,rfl,rfl,rfl,rfl,rfl,rfl,rfl,rfl,rfl,rfl,rfl,rfl,rfl,rfl,rfl,rfl,rfl,rfl,trivial⟩ ⟨wqE rfl rfl,wqE rfl rfl,wqE rfl rfl,wqE rfl rfl,wqE rfl rfl,wqE rfl pE,trivial⟩ (by decide) aw)) (fun z s B hz h0 hi he=> ?_) (fun z s x rest B z0 z1 z2 hx hy h0 hi hc e1 hB=> ?_)
 ·obtain⟨D,E⟩:=s
  obtain⟨hf,hh⟩:=Prod.mk.inj h0
  obtain rfl:D=D1:=by simpa using hf
  dsimp only at hi
  have hQ:=hQ z E (by rw [hi,hH])
  cbv;rw [he];cbv
  exact hQ
 ·obtain⟨D,E⟩:=s
  obtain⟨hf,hh⟩:=Prod.mk.inj h0
  dsimp only at hi hf hh hy
  have hU:x=(D.length:Int):=by
   have e:=congrArg (fun l=>l[D.length]?) hh
   have h4:D.length<D1.length:=by have:=congrArg List.length hf;simp at this;omega
   simp only [zqg (show(ixs 0 D.length).length<=D.length by rw [dA];exact Nat.le_refl _),dA,Nat.sub_self,zqw]at e
   rw [wK _ _ _ h4]at e
   simpa using e
  have ht:D.length<D1.length:=by have:=congrArg List.length hf;simp at this;omega
  have hm:0<=x:=by omega
  have hp:x.toNat=D.length:=by omega
  have hM:D.length<S0.length:=by omega
  obtain⟨sd,hE⟩:∃sd,S0[x.toNat]? =some sd:=⟨_,zqc (by omega)⟩
  obtain⟨kd,ho⟩:∃kd,kids[x.toNat]? =some kd:=⟨_,zqc (by omega)⟩
  obtain⟨zz,hF⟩:∃zz,ZZ[x.toNat]? =some zz:=⟨_,zqc (by omega)⟩
  have hS:kd∈kids:=zqd ho
  obtain⟨y,hW⟩:=hO kd hS
  have ha:=Ba (p:=⟨s0,row,⟨w0,w1⟩,⟨h0',h1'⟩,iw,ih,al,ac,kids⟩) (c:=c) hm hE ho hF hW
  rw [<-hR]at ha
  dsimp only at ha
  rw [<-hKB]at ha
  have h1:K[x.toNat]? =some [.J kd]:=by rw [hK];exact bv ho
  have hN:vZ[x.toNat]? =some [.J zz]:=by rw [hvZ];exact bv hF
  have hn:E[x.toNat]? =some (lc (av.c sd)):=by rw [hi];exact bv (by rw [hp,wO rfl,<-hp];exact hE)
  have h5:x<aC E:=by rw [hi,bg];simp;omega
  have hd:∀v,E.set x.toNat (lc (av.c v))=vw av.c ((D++[v])++S0.drop (D++[v]).length):=fun v=>by
   rw [hi,hp,rO,vR rfl hM];simp
  have h3:((D++[fx x])++rest.map fx,ixs 0 (D++[fx x]).length++rest)=(D1,ixs 0 D1.length):=Prod.ext (by rw [<-hf];simp) (by
   show ixs 0 (D++[fx x]).length++rest=ixs 0 D1.length
   rw [<-hh,zqe,zqm,tx,Int.zero_add,<-hU];simp)
  have cy:=hT kd hS y hW _ _ rfl rfl
  obtain⟨Ky,hI⟩:=nmE (vw ak y.kids)
  obtain⟨Ry,hJ⟩:=nmE (vw aK.c y.table.rules)
  rw [<-hI,<-hJ]at cy
  obtain⟨y0,y1,y2,y3,y4,y5,y6⟩:=sd
  have cI:=rr ⟨y0,y1,y2,y3,y4,y5,y6⟩
  obtain⟨fb,hP⟩:=nmE (zy ⟨y0,y1,y2,y3,y4,y5,y6⟩)
  rw [<-hP]at cI ha
  dsimp only at ha
  have cF:=bL y.style (!row) KB
  have cR:=ff y.style (!row) zz
  obtain⟨FX,hv⟩:=nmE (rz y.style (!row) KB);(try rw [<-hv]at cF);(try rw [<-hv]at ha)
  obtain⟨RT,hw⟩:=nmE (s9 y.style (!row) zz);(try rw [<-hw]at cR);(try rw [<-hw]at ha)
  obtain⟨BB,hq⟩:=nmE (wrap64 (y1+y2))
  rw [<-hq]at ha
  obtain⟨CB,hr⟩:=nmE (wrap64 (c-BB))
  rw [<-hr]at ha
  have cN:=bq y.style (!row) KB CB
  obtain⟨f0,hC⟩:=nmE (kF y.style (!row) KB CB);(try rw [<-hC]at cN);(try rw [<-hC]at ha)
  simp only [AZ]at ha
  obtain⟨f6,hD⟩:=nmE (wG y6 f0)
  rw [<-hD]at ha
  have t1:g .w .add .i64 y1 y2=BB:=by rw [aJ hg,hq]
  have t2:g .w .sub .i64 c BB=CB:=by rw [dP hg,hr]
  have t3:g .mn y6 f0=f6:=by rw [Dl hg,hD];rfl
  have t4:g .q .eql (FX) ((-1))=decide ((FX)=((-1))):=by rw [bA hg];exact zqn _ _
  have t5:g .q .eql (RT) ((-1))=decide ((RT)=((-1))):=by rw [bA hg];exact zqn _ _
  clear hU ht hp hM hh hq hr hD hv hw hC hP hF ho hE hT hO hvZ hK hV hvC hcc hKB hI hJ
  cbv
  rw [hc]
  cbv
  refine goX hg _ z0 hy rfl ?_
  cbv
  refine goX hg _ hm h1 rfl ?_
  cbv
  (repeat'(refine aa hg cy ?_;cbv))
  refine goY hg hm h5 fun j hj h2=> ?_
  cbv
  rw [<-hj]at hd hn
  refine⟨_,hn,?_⟩
  cbv
  (repeat'(refine aa hg cI ?_;cbv))
  have hb:fx x=⟨y0,y1,y2,y3,y4,y5,y6⟩->E=vw av.c ((D++[fx x])++S0.drop (D++[fx x]).length):=fun h=>by rw [h,<-hd,vQ hn]
  have hG:=pmV hi
  cases fb
  case false=>
   simp only [Bool.false_eq_true,false_and,if_false]at ha
   cbv
   (repeat'(rw [e1];cbv))
   exact hB ((D++[fx x],E)) _ _ ⟨h3,(hb ha)⟩ (Wk.weak (wkG [some _,some _,some _,some _,some _,some 5] ⟨rfl,rfl,rfl,rfl,rfl,rfl,rfl,rfl,rfl,rfl,rfl,rfl,rfl,rfl,rfl,rfl,rfl,rfl,rfl,rfl,rfl,trivial⟩ ⟨wqE rfl rfl,wqE rfl rfl,wqE rfl rfl,wqE rfl rfl,wqE rfl rfl,wqE rfl hG,trivial⟩ (by decide) aw))
  by_cases q4:FX= -1
  case neg=>
   rw [if_neg (fun h=>q4 h.2.1)]at ha
   (first|rw [zqu q4]at t4|rw [zqt q4]at t4|rw [zqu (Classical.not_not.2 q4)]at t4|rw [zqt (Classical.not_not.2 q4)]at t4)
   cbv
   (repeat'((first|rw [t4]|rw [e1]|refine aa hg cF ?_);cbv))
   exact hB ((D++[fx x],E)) _ _ ⟨h3,(hb ha)⟩ (Wk.weak (wkG [some _,some _,some _,some _,some _,some 5] ⟨rfl,rfl,rfl,rfl,rfl,rfl,rfl,rfl,rfl,rfl,rfl,rfl,rfl,rfl,rfl,rfl,rfl,rfl,rfl,rfl,rfl,trivial⟩ ⟨wqE rfl rfl,wqE rfl rfl,wqE rfl rfl,wqE rfl rfl,wqE rfl rfl,wqE rfl hG,trivial⟩ (by decide) aw))
  by_cases q5:RT= -1
  case neg=>
   rw [if_neg (fun h=>q5 h.2.2)]at ha
   (first|rw [zqu q4]at t4|rw [zqt q4]at t4|rw [zqu (Classical.not_not.2 q4)]at t4|rw [zqt (Classical.not_not.2 q4)]at t4)
   (first|rw [zqu q5]at t5|rw [zqt q5]at t5|rw [zqu (Classical.not_not.2 q5)]at t5|rw [zqt (Classical.not_not.2 q5)]at t5)
   cbv
   (repeat'((first|rw [t4]|rw [t5]|rw [e1]|refine aa hg cF ?_|refine aa hg cR ?_|refine goX hg _ hm hN rfl ?_);cbv))
   exact hB ((D++[fx x],E)) _ _ ⟨h3,(hb ha)⟩ (Wk.weak (wkG [some _,some _,some _,some _,some _,some 5] ⟨rfl,rfl,rfl,rfl,rfl,rfl,rfl,rfl,rfl,rfl,rfl,rfl,rfl,rfl,rfl,rfl,rfl,rfl,rfl,rfl,rfl,trivial⟩ ⟨wqE rfl rfl,wqE rfl rfl,wqE rfl rfl,wqE rfl rfl,wqE rfl rfl,wqE rfl hG,trivial⟩ (by decide) aw))
  rw [if_pos ⟨rfl,q4,q5⟩]at ha
  have hu:E[j]? =some [.J y0,.J y1,.J y2,.B y3,.B y4,.J y5,.J y6]:=hn
  have hA:(g .st E j [.J f0,.J y1,.J y2,.B y3,.B y4,.J y5,.J y6])[j]? =some [.J f0,.J y1,.J y2,.B y3,.B y4,.J y5,.J y6]:=by rw [qI hg];exact List.getElem?_set_self h2
  (first|rw [zqu q4]at t4|rw [zqt q4]at t4|rw [zqu (Classical.not_not.2 q4)]at t4|rw [zqt (Classical.not_not.2 q4)]at t4)
  (first|rw [zqu q5]at t5|rw [zqt q5]at t5|rw [zqu (Classical.not_not.2 q5)]at t5|rw [zqt (Classical.not_not.2 q5)]at t5)
  cbv
  (repeat'((first|rw [t4]|rw [t5]|rw [t1]|rw [t2]|rw [t3]|rw [e1]|refine aa hg cF ?_|refine aa hg cR ?_|refine aa hg cN ?_|refine goX hg _ hm hN rfl ?_|refine goX hg _ hz0 hY rfl ?_|refine⟨_,hu,?_⟩|refine⟨_,hA,?_⟩);cbv))
  generalize hG1:g .st _ j _=E2
  have hZ:E2=g .st (g .st E j [.J f0,.J y1,.J y2,.B y3,.B y4,.J y5,.J y6]) j [.J f0,.J y1,.J y2,.B y3,.B y4,.J y5,.J f6]:=hG1.symm
  have aE:E2=vw av.c ((D++[fx x])++S0.drop (D++[fx x]).length):=by
   rw [ha,<-hd,hZ,qI hg,qI hg,List.set_set];rfl
  have h6:=pmV aE
  exact hB ((D++[fx x],E2)) _ _ ⟨h3,aE⟩ (Wk.weak (wkG [some _,some _,some _,some _,some _,some 5] ⟨rfl,rfl,rfl,rfl,rfl,rfl,rfl,rfl,rfl,rfl,rfl,rfl,rfl,rfl,rfl,rfl,rfl,rfl,rfl,rfl,rfl,trivial⟩ ⟨wqE rfl rfl,wqE rfl rfl,wqE rfl rfl,wqE rfl rfl,wqE rfl rfl,wqE rfl h6,trivial⟩ (by decide) aw))
theorem wJ(hg:g= @G0 bp0 prog 0 f125.ntmps)(ns:List af)(hl:ns.length<=1048576)(V:LLA)(hV:V=vwA af.ac ns)(rtl:Bool)(n:Int)(s0:ah)(row:Bool)(iw ih al ac:aG)(w0 w1 h0' h1':Int)(kids:List Int)(K:LLA)(hK:K=vw ak kids)(hkl:kids.length<=1048576)(hk:∀kid∈kids,isN ns kid=true)
  (IN AC' KB:Int) (hKB:KB=knS ac) (vI vL vZ vC vT:LLA) (ZZ CC:List Int) (hvZ:vZ=vw ak ZZ) (hvC:vC=vw ak CC) (S0:List av) (hzl:ZZ.length=kids.length) (hsl:S0.length=kids.length)
  (LL:List (List Int)) (ho:vL=vwA lnA LL) (hLl:LL.length<=1048576) (hcl:CC.length=LL.length) (hfl:LL.flatten=ixs 0 kids.length)
  (hQ:∀(z:Int)(E:LLA),E=vw av.c (xq ⟨s0,row,⟨w0,w1⟩,⟨h0',h1'⟩,iw,ih,al,ac,kids⟩ ns S0 ZZ (LL.zip CC))->Q (.exit 0) [(119,.t (abl (false))),(4,.p 0),(6,.p 1),(7,.p 2),(8,.p 3),(9,.p 4),(11,.v vI),(12,.v vL),(13,.i (IN)),(14,.v vZ),(15,.o 5),(16,.v vC),(18,.i (AC')),(20,.v vT),(21,.i (KB)),(116,.v vL),(117,.i (g .ln vL)),(118,.i (z))] [.bx 76 3 (gz V rtl),.bx 122 2 [.J w0,.J w1],.bx 122 2 [.J h0',.J h1'],.bx 127 4 [.J 0,.J 0,.J 0,.N],.bx 196 75 (plL n s0 ⟨w0,w1⟩ ⟨h0',h1'⟩ row iw ih al ac (.view K)),.rw ⟨210,7,E⟩]):
  g .L (n5 (aM f125) 0) Q [(4,.p 0),(6,.p 1),(7,.p 2),(8,.p 3),(9,.p 4),(11,.v vI),(12,.v vL),(13,.i (IN)),(14,.v vZ),(15,.o 5),(16,.v vC),(18,.i (AC')),(20,.v vT),(21,.i (KB)),(116,.v vL),(117,.i (g .ln vL)),(118,.i (0))] [.bx 76 3 (gz V rtl),.bx 122 2 [.J w0,.J w1],.bx 122 2 [.J h0',.J h1'],.bx 127 4 [.J 0,.J 0,.J 0,.N],.bx 196 75 (plL n s0 ⟨w0,w1⟩ ⟨h0',h1'⟩ row iw ih al ac (.view K)),.rw ⟨210,7,vw av.c S0⟩]:=by
 obtain⟨vS,hp⟩:=nmE (vw av.c S0)
 have pS:=pmV hp
 rw [<-hp]
 have hr:vL=(LL.zip CC).map (fun t=>lnA t.1):=by rw [ho];exact pd hcl
 have hs:(LL.zip CC).map (·.1)=LL:=eA hcl
 have hh:(LL.zip CC).length<=1048576:=by rw [zqB];exact Nat.le_trans (Nat.min_le_left ..) hLl
 have ht:=fun{i t} h=>vf (a:=LL) (b:=CC) (i:=i) (t:=t) h
 obtain⟨qs,hm⟩:=nmE (LL.zip CC)
 rw [<-hm]at hr hs hh hQ
 simp only [<-hm]at ht
 have hA:(qs.map (·.1)).flatten=ixs 0 kids.length:=by rw [hs];exact hfl
 obtain⟨q,hq⟩:∃q:Pl,q=⟨s0,row,⟨w0,w1⟩,⟨h0',h1'⟩,iw,ih,al,ac,kids⟩:=⟨_,rfl⟩
 rw [<-hq]at hQ
 obtain⟨S1,hw⟩:=nmE (xq q ns S0 ZZ qs)
 rw [<-hw]at hQ
 have hb:=fun(zo c:Int)(h1:0<=zo)(h2:CC[zo.toNat]? =some c) l L h3 h4 done E0 h5 h6 h7 Q' hQ'=>yh hg (Q:=Q') ns hl V hV rtl n s0 row iw ih al ac w0 w1 h0' h1' kids K hK hk IN AC' KB hKB vI vL vZ vC vT ZZ CC hvZ hvC S0 hzl hsl zo c h1 h2 l L h3 h4 done E0 h5 h6 h7 hQ'
 simp only [<-hq]at hb
 replace ho:=hr
 refine aU hg aB (by kernel_rfl) vL (fun t=>lnA t.1) qs ho hh (fun z(s:List av×LLA)=>[(4,.p 0),(6,.p 1),(7,.p 2),(8,.p 3),(9,.p 4),(11,.v vI),(12,.v vL),(13,.i (IN)),(14,.v vZ),(15,.o 5),(16,.v vC),(18,.i (AC')),(20,.v vT),(21,.i (KB)),(116,.v vL),(117,.i (g .ln vL)),(118,.i (z))]) (fun z(s:List av×LLA)=>[.bx 76 3 (gz V rtl),.bx 122 2 [.J w0,.J w1],.bx 122 2 [.J h0',.J h1'],.bx 127 4 [.J 0,.J 0,.J 0,.N],.bx 196 75 (plL n s0 ⟨w0,w1⟩ ⟨h0',h1'⟩ row iw ih al ac (.view K)),.rw ⟨210,7,s.2⟩]) (fun z(s:List av×LLA)=>s.2=vw av.c (s.1++S0.drop s.1.length)) (fun(s:List av×LLA) rest=>(s.1++xq q ns S0 ZZ rest,ixs 0 s.1.length++(rest.map (·.1)).flatten)) ((S1,ixs 0 kids.length)) ([],vS) (by rw [hw];exact Prod.ext rfl hA) hp (Wk.weak (wkG [some _,some _,some _,some _,some _,some 5] ⟨rfl,rfl,rfl,rfl,rfl,rfl,rfl,rfl,rfl,rfl,rfl,rfl,rfl,rfl,rfl,rfl,rfl,trivial⟩ ⟨wqE rfl rfl,wqE rfl rfl,wqE rfl rfl,wqE rfl rfl,wqE rfl rfl,wqE rfl pS,trivial⟩ (by decide) aw)) (fun z s B hz h0 hi he=> ?_) (fun z s x rest B z0 z1 z2 hx hy h0 hi hc e1 hB=> ?_)
 ·obtain⟨D,E⟩:=s
  obtain⟨hj,ha⟩:=Prod.mk.inj h0
  dsimp only at hi
  obtain rfl:D=S1:=by simpa [xq]using hj
  have hD:D.length=kids.length:=by
   have:=congrArg List.length ha
   simpa [dA]using this
  have hQ:=hQ z E (by rw [hi,hD,<-hsl,List.drop_length,List.append_nil])
  cbv;rw [he];cbv
  exact hQ
 ·obtain⟨done,E⟩:=s
  obtain⟨l,c⟩:=x
  obtain⟨hj,ha⟩:=Prod.mk.inj h0
  dsimp only at hi hy hj ha
  obtain⟨L,hL⟩:=nmE (vw ak l)
  have hF:vL[z.toNat]? =some [.view L]:=by rw [hL];exact hy
  have hn:=na ha
  rw [dA]at hn
  have hf:=oP (l:=l) (ls:=rest.map (fun t:List Int×Int=>t.1)) hn.2.2
  have hE:l.length<=1048576:=Nat.le_trans hf.1 (Nat.le_trans (Nat.sub_le ..) hkl)
  have pE:=pmV hi
  have hC:done.length+l.length<=kids.length:=by have:=hf.1;omega
  have hb:=hb z c z0 (ht hx).2 l L hL hE done E hi (by simpa using hf.2.1) hC
  have h3:((done++l.map (yv q ns S0 ZZ c))++xq q ns S0 ZZ rest,ixs 0 (done++l.map (yv q ns S0 ZZ c)).length++(rest.map (·.1)).flatten)=(S1,ixs 0 kids.length):=Prod.ext (by rw [<-hj];simp [xq]) (by
   show ixs 0 (done++l.map (yv q ns S0 ZZ c)).length++(rest.map (·.1)).flatten=ixs 0 kids.length
   rw [<-ha,zqe,zql,jJ,zqC]
   congr 1
   rw [zqA,List.flatten_cons]
   congr 1
   exact hf.2.1.symm)
  obtain⟨D2,hu⟩:=nmE (done++l.map (yv q ns S0 ZZ c))
  have hd:D2.length=done.length+l.length:=by rw [hu,zqe,zql]
  rw [<-hu]at h3 hb
  rw [<-hd]at hb
  clear hn hf hC hd ha hA hs ht hr hq hm
  cbv
  rw [hc]
  cbv
  refine goX hg _ z0 hF rfl ?_
  cbv
  refine mU hg (n5 (aM f125) 1) (by kernel_rfl) [(4,.p 0),(6,.p 1),(7,.p 2),(8,.p 3),(9,.p 4),(11,.v vI),(12,.v vL),(13,.i (IN)),(14,.v vZ),(15,.o 5),(16,.v vC),(18,.i (AC')),(20,.v vT),(21,.i (KB)),(22,.i (z)),(116,.v vL),(117,.i (g .ln vL)),(118,.i (z)),(123,.v L),(124,.i (g .ln L)),(125,.i (0))] [.bx 76 3 (gz V rtl),.bx 122 2 [.J w0,.J w1],.bx 122 2 [.J h0',.J h1'],.bx 127 4 [.J 0,.J 0,.J 0,.N],.bx 196 75 (plL n s0 ⟨w0,w1⟩ ⟨h0',h1'⟩ row iw ih al ac (.view K)),.rw ⟨210,7,E⟩] (Wk.weak (wkG [some _,some _,some _,some _,some _,some 5] ⟨rfl,rfl,rfl,rfl,rfl,rfl,rfl,rfl,rfl,rfl,rfl,rfl,rfl,rfl,rfl,rfl,rfl,rfl,rfl,rfl,rfl,trivial⟩ ⟨wqE rfl rfl,wqE rfl rfl,wqE rfl rfl,wqE rfl rfl,wqE rfl rfl,wqE rfl pE,trivial⟩ (by decide) aw)) ?_
  refine hb _ fun z2 E2 hv=> ?_
  have hG:=pmV hv
  cbv
  (repeat'(rw [e1];cbv))
  skip
  exact hB ((D2,E2)) _ _ ⟨h3,hv⟩ (Wk.weak (wkG [some _,some _,some _,some _,some _,some 5] ⟨rfl,rfl,rfl,rfl,rfl,rfl,rfl,rfl,rfl,rfl,rfl,rfl,rfl,rfl,rfl,rfl,rfl,trivial⟩ ⟨wqE rfl rfl,wqE rfl rfl,wqE rfl rfl,wqE rfl rfl,wqE rfl rfl,wqE rfl hG,trivial⟩ (by decide) aw))
theorem ot(xs:List aj)(hl:xs.length<=1048576):PC0 290 [.c (.view (vw aj.c xs))] (.i (auN xs)):=by
 obtain⟨V,hV⟩:=nmE (vw aj.c xs)
 have hd:=lmV hV
 have iV:=imV hV
 have kV:=kmV (k:=9) hV fun _=>rfl
 have dV:=dmV hV
 obtain⟨R,hR⟩:=nmE (auN xs)
 rw [<-hV,<-hR]
 refine ae (aM f290) aB func290 fun g F hg hF=> ?_
 cbv
 refine aU hg aB (by kernel_rfl) V (fun x=>lc (aj.c x)) xs hV hl (fun z(s:Int)=>[(3,.i (s)),(6,.v V),(7,.i (g .ln V)),(8,.i (z))]) (fun z(s:Int)=>[]) (fun z(s:Int)=>0<=s/\s<=2*z) (fun(s:Int) rest=>s+auN rest) (R) (0:Int) (by rw [hR];exact Int.zero_add _) ⟨by decide,by decide⟩ (Wk.weak (wkG [] zr4 trivial (by decide) aw)) (fun z s B hz h0 hi he=> ?_) (fun z s x rest B z0 z1 z2 hx hy h0 hi hc e1 hB=> ?_)
 ·cbv;rw [he];cbv
  exact bj hF (by rw [<-h0];simp [auN])
 ·obtain⟨y0,y1,y2,y3,y4,y5,y6,y7,y8⟩:=x
  have es:∀t:Int,0<=t->t<=2*z+2->g .w .add .i64 t 1=t+1:=fun t k0 k1=>by rw [aJ hg];exact wr1 (by omega) (by omega)
  obtain⟨s1,k1⟩:=nmE (s+1)
  obtain⟨s2,k2⟩:=nmE (s1+1)
  have ha:=es s hi.1 (by omega)
  have hb:=es s1 (by omega) (by omega)
  rw [<-k1]at ha
  rw [<-k2]at hb
  cases y7<;>cases y8
  all_goals
   cbv;rw [hc];cbv;refine goX hg _ z0 hy rfl ?_;cbv
   (repeat'((first|rw [ha]|rw [hb]);cbv))
   rw [e1]
   first
    |(exact hB (s) _ _ ⟨(by rw [<-h0];simp [auN]),⟨by omega,by omega⟩⟩ (Wk.weak (wkG [] zr4 trivial (by decide) aw)))
    |(exact hB (s1) _ _ ⟨(by rw [<-h0];simp [auN];omega),⟨by omega,by omega⟩⟩ (Wk.weak (wkG [] zr4 trivial (by decide) aw)))
    |(exact hB (s2) _ _ ⟨(by rw [<-h0];simp [auN];omega),⟨by omega,by omega⟩⟩ (Wk.weak (wkG [] zr4 trivial (by decide) aw)))
theorem ud(ex:List Int)(C:AC)(hd:dat C=true)(cE:∀i:Int,PC0 188 [.c C,ai i] (.i (elZ ex i)))(k:Int)(hk0:0<=k)(hk1:k<=1048576)(b:Bool):
  Con prog 291 (toH [.bx 3 1 [.J k],.bx 24 1 [C]]) [abl b,.c (.ptr 0 0 0),.c (.ptr 1 0 0)] fun res h'=>∃eh,toH eh=h'/\res= .i (auT ex k b)/\eh=[.bx 3 1 [.J (auK k b)],.bx 24 1 [C]]:=by
 replace cE:=cE k
 obtain⟨R,hR⟩:=nmE (auT ex k b)
 obtain⟨K,hK⟩:=nmE (auK k b)
 rw [<-hR,<-hK]
 unfold auT at hR
 unfold auK at hK
 obtain⟨e,he⟩:=nmE (elZ ex k);(try rw [<-he]at cE);(try rw [<-he]at hR)
 refine tY [] [] (c:=aM f291) aB func291 (by kernel_rfl) (by kernel_rfl) (bl (by rfl)) (by kernel_rfl) fun g hb hd F ha hc hg hF=> ?_
 have e1:g .w .add .i64 k 1=k+1:=by rw [aJ hg];exact wr1 (by omega) (by omega)
 have e2:g .w .sub .i64 (k+1) 1=k:=by rw [dP hg,show k+1-1=k by omega];exact wr1 (by omega) (by omega)
 generalize k+1=k1 at *
 have pC:dX C=true:=by cases C<;>first|rfl|cases hd
 cases b
 ·cbv
  obtain rfl:R=0:=hR
  obtain rfl:K=k:=hK
  exact Ec hF (.i 0) [.bx 3 1 [.J K],.bx 24 1 [C]] _ (wkM [some 0,some 1] zr1 ⟨.inr (wqE rfl rfl),.inr ⟨_,_,rfl,rfl,rfl,rfl,.inl ⟨rfl,by simp [aO,pC]⟩⟩,trivial⟩ (by decide) ⟨.inr rfl,.inr rfl,trivial⟩ ⟨.inr ⟨_,rfl⟩,.inr ⟨_,rfl⟩,trivial⟩) ⟨_,rfl,rfl,rfl⟩
 ·cbv
  rw [e1,e2]
  refine nB hg cE (by cases C<;>first|rfl|cases hd) rfl ?_
  cbv
  obtain rfl:R=e:=hR
  obtain rfl:K=k1:=hK
  exact Ec hF (.i R) [.bx 3 1 [.J K],.bx 24 1 [C]] _ (wkM [some 0,some 1] zr1 ⟨.inr (wqE rfl rfl),.inr ⟨_,_,rfl,rfl,rfl,rfl,.inl ⟨rfl,by simp [aO,pC]⟩⟩,trivial⟩ (by decide) ⟨.inr rfl,.inr rfl,trivial⟩ ⟨.inr ⟨_,rfl⟩,.inr ⟨_,rfl⟩,trivial⟩) ⟨_,rfl,rfl,rfl⟩
theorem zI{n0 N:Nat}(hg:g=G0 prog n0 N){H:EH}{r0 r1:Nat}{C:AC}(pC:dX C=true){k k2 v:Int}{b:Bool}{K:AV->EH->Prop}
  (hc:Con prog 291 (toH [.bx 3 1 [.J k],.bx 24 1 [C]]) [abl b,.c (.ptr 0 0 0),.c (.ptr 1 0 0)] fun res h'=>∃eh,toH eh=h'/\res= .i v/\eh=[.bx 3 1 [.J k2],.bx 24 1 [C]])
  (h1:nth H r1=some (.bx 3 1 [.J k])) (h0:nth H r0=some (.bx 24 1 [C])) (hne:Nat.beq r1 r0=false) (hK:K (.i v) (H.set r1 (.bx 3 1 [.J k2]))):
  g .C 291 H [abl b,.c (.ptr r1 0 0),.c (.ptr r0 0 0)] K:=by
 have ha:r1≠r0:=fun e=>by rw [e,show Nat.beq r0 r0=true from Nat.beq_refl r0]at hne;cases hne
 have hb:∀{r:Nat}{e:EE},nth H r=some e->r<H.length:=fun{r e} h=>by
  rw [ee]at h;exact(List.getElem?_eq_some_iff.1 h).1
 refine Bj hg (h:=[.bx 3 1 [.J k],.bx 24 1 [C]]) [r1,r0] hc (by simp [ha]) (fun r hr=> ?_) ?_ zr3 fun res eh hp=> ?_
 ·simp only [List.mem_cons,List.not_mem_nil,or_false]at hr
  rcases hr with rfl|rfl
  ·exact hb h1
  ·exact hb h0
 ·exact⟨⟨_,⟨_,_,_⟩,rfl,by rw [h1];rfl,rfl,rfl,.inl ⟨rfl,rfl⟩⟩,⟨_,⟨_,_,_⟩,rfl,by rw [h0];rfl,rfl,rfl,.inl ⟨rfl,by simp [pC]⟩⟩,trivial⟩
 ·obtain⟨rfl,rfl⟩:=hp
  have e:bZ (plc [r1,r0] H.length) [r1,r0] H [.bx 3 1 [.J k2],.bx 24 1 [C]]=H.set r1 (.bx 3 1 [.J k2]):=by
   simp only [bZ,EE.mv,zqA,List.map_nil,ma (c:= .J k2) rfl,ma pC,List.append_nil]
   apply List.ext_getElem?
   intro i
   by_cases hi:i=r0
   ·subst hi
    have hl:=hb h0
    rw [ee]at h0
    rw [List.getElem?_set_self (by simpa using hl),List.getElem?_set_ne ha,h0]
   ·rw [List.getElem?_set_ne (Ne.symm hi)]
  rw [e]
  exact hK
end Go.Proofs.YtckchgoblpgpbaaGreat
