/- The size of a root: both programs. -/
import Derived.Test.YtdnnffbbhijmkaaGreatRbu
set_option linter.unusedVariables false
set_option linter.unusedSimpArgs false
set_option maxHeartbeats 8000000
namespace Go.Proofs.YtdnnffbbhijmkaaGreat
open Go.ChangeShapes Go.WideShapes Go.ChangeAt Go.RowKit Am Go.Proofs.Tryz
set_option maxRecDepth 100000
def rtV(b:Bv)(s:aq)(n wide high:Int):Int×Int:=(jR s true wide (b n (fw s true wide) (fw s false high)).wide,jR s false high (b n (fw s true wide) (fw s false high)).high)
def FI(ns:List ak)(n:Int):Bool:=er ns&&isN ns n
def rsO(ns:List ak)(n wide high:Int)(rtl:Bool):Int×Int:=if FI ns n=false then(0,0)else rtV (Af ns rtl 4) (kst ns n) n wide high
theorem oG(ns:List ak)(hl:ns.length≤1048576)(n:Int)(x:ak)(h1:isN ns n=true)(hx:ns[(n-1).toNat]? =some x)(rtl:Bool)(b:Bv)(hbx:vt (vwA ak.ac ns) rtl b n)(wide high:Int):PC0 81 [.agg (mc (vwA ak.ac ns) rtl),ai n,ai wide,ai high] (.tup [ai (rtV b (kst ns n) n wide high).1,ai (rtV b (kst ns n) n wide high).2]):=by
 rw [il hx]
 unfold rtV
 dsimp only
 obtain⟨Ky,hKy⟩:=nmE (vw ao x.kids)
 obtain⟨Ry,hRy⟩:=nmE (vw aJ.c x.table.rules)
 have b2:=bA h1
 obtain⟨V,hV⟩:=nmE (vwA ak.ac ns)
 have cy:=cV ns n x b2.1 (by have:=b2.2.1;omega) hx V Ky Ry hV hKy hRy
 rw [←hV]at hbx⊢
 have cR:=nS x.style wide high
 obtain⟨⟨u0,u1⟩,hU⟩:∃q,q=fw x.style true wide:=⟨_,rfl⟩
 obtain⟨⟨v0,v1⟩,hW⟩:∃q,q=fw x.style false high:=⟨_,rfl⟩
 rw [←hU,←hW]at cR⊢
 have cB:=hbx u0 u1 v0 v1
 obtain⟨q,hq⟩:=nmE (b n ⟨u0,u1⟩ ⟨v0,v1⟩)
 rw [←hq]at cB⊢
 rw [acE]at cB
 obtain⟨FR,hFR⟩:=nmE (vw aV.c q.frames);(try rw [←hFR]at cB)
 have c1:=dd x.style true wide q.wide
 have c2:=dd x.style false high q.high
 obtain⟨X1,hX1⟩:=nmE (jR x.style true wide q.wide);(try rw [←hX1]at c1);(try rw [←hX1]at⊢)
 obtain⟨X2,hX2⟩:=nmE (jR x.style false high q.high);(try rw [←hX2]at c2);(try rw [←hX2]at⊢)
 clear hX1 hX2 hFR hq hU hW hKy hRy hV hbx
 obtain⟨x0,x1,x2,x3,x4⟩:=x
 dsimp only at *
 refine ae (aN f81) aB func81 fun g F hg hF=> ?_
 cbv
 (repeat'((first|refine ad hg cy ?_|refine aa hg cy ?_|refine ad hg cR ?_|refine aa hg cR ?_|refine ad hg cB ?_|refine aa hg cB ?_|refine ad hg c1 ?_|refine aa hg c1 ?_|refine ad hg c2 ?_|refine aa hg c2 ?_);cbv))
 exact dI hF rfl ⟨rfl,rfl⟩
theorem qk(ns:List ak)(hl:ns.length≤1048576)(hs:∀y∈ns,ak.small y)(n wide high:Int)(rtl:Bool):PC0 25 [.agg [.view (vwA ak.ac ns)],ai n,ai wide,ai high,abl rtl] (.tup [ai (rsO ns n wide high rtl).1,ai (rsO ns n wide high rtl).2]):=by
 have cT:=tH ns hl hs
 have hVx:bg (vwA ak.ac ns)=(ns.length:Int):=by rw [aD,bC]
 have cI:=jq (vwA ak.ac ns) n
 rw [hVx]at cI
 change PC0 _ _ (.t (abl (isN ns n)))at cI
 unfold rsO FI
 cases hT:er ns
 case false=>
  rw [hT]at cT
  simp only [Bool.false_and,if_true]
  obtain⟨V,hV⟩:=nmE (vwA ak.ac ns)
  rw [←hV]at cT⊢
  clear cI hVx
  refine ae (aN f25) aB func25 fun g F hg hF=> ?_
  cbv
  repeat'((first|refine ad hg cT ?_|refine aa hg cT ?_);cbv)
  exact dI hF rfl ⟨rfl,rfl⟩
 cases hI:isN ns n
 case false=>
  rw [hT]at cT
  rw [hI]at cI
  simp only [Bool.and_false,if_true]
  obtain⟨V,hV⟩:=nmE (vwA ak.ac ns)
  rw [←hV]at cT cI⊢
  clear hVx
  refine ae (aN f25) aB func25 fun g F hg hF=> ?_
  cbv
  repeat'((first|refine ad hg cT ?_|refine aa hg cT ?_|refine ad hg cI ?_|refine aa hg cI ?_);cbv)
  exact dI hF rfl ⟨rfl,rfl⟩
 obtain⟨n1,n2,x,hx⟩:=bA hI
 have cR:=oG ns hl n x hI hx rtl (Af ns rtl 4) (s9 hl hs hT rtl 4 n hI (by have:=ml hT hI;omega)) wide high
 rw [hT]at cT
 rw [hI]at cI
 simp only [Bool.and_self,Bool.true_eq_false,if_false]
 obtain⟨⟨X1,X2⟩,hX⟩:∃q,q=rtV (Af ns rtl 4) (kst ns n) n wide high:=⟨_,rfl⟩
 rw [←hX]at cR⊢
 obtain⟨V,hV⟩:=nmE (vwA ak.ac ns)
 rw [←hV]at cT cI cR⊢
 clear hVx hX
 dsimp only at cR⊢
 refine ae (aN f25) aB func25 fun g F hg hF=> ?_
 cbv
 repeat'((first|refine ad hg cT ?_|refine aa hg cT ?_|refine ad hg cI ?_|refine aa hg cI ?_|refine ad hg cR ?_|refine aa hg cR ?_);cbv)
 exact dI hF rfl ⟨rfl,rfl⟩
theorem qE(ns:List ak)(hl:ns.length≤1048576)(n:Int)(x:ak)(h1:isN ns n=true)(hx:ns[(n-1).toNat]? =some x)(rtl keeps:Bool)(bx:Bx)(c L:Nat)(hbx:wD (vwA ak.ac ns) rtl keeps bx c L n)(st:St)(hm:st.1.length+c≤L)(hq:st.2.length+c≤L)(wide high:Int):
  SE prog 78 (sR (vwA ak.ac ns) rtl keeps) (SM st.1) (SA st.2) [.c (.ptr 0 0 0),ai n,ai wide,ai high] (.tup [ai (jR (kst ns n) true wide (bx n (fw (kst ns n) true wide) (fw (kst ns n) false high) st).1.wide),ai (jR (kst ns n) false high (bx n (fw (kst ns n) true wide) (fw (kst ns n) false high) st).1.high)]) (SM (bx n (fw (kst ns n) true wide) (fw (kst ns n) false high) st).2.1) (SA (bx n (fw (kst ns n) true wide) (fw (kst ns n) false high) st).2.2):=by
 rw [il hx]
 obtain⟨Ky,hKy⟩:=nmE (vw ao x.kids)
 obtain⟨Ry,hRy⟩:=nmE (vw aJ.c x.table.rules)
 have b2:=bA h1
 obtain⟨V,hV⟩:=nmE (vwA ak.ac ns)
 have cy:=bB ns n x b2.1 (by have:=b2.2.1;omega) hx V Ky Ry hV hKy hRy
 rw [←hV]at hbx⊢
 have cR:=nF x.style wide high
 obtain⟨⟨u0,u1⟩,hU⟩:∃q,q=fw x.style true wide:=⟨_,rfl⟩
 obtain⟨⟨v0,v1⟩,hW⟩:∃q,q=fw x.style false high:=⟨_,rfl⟩
 rw [←hU,←hW]at cR⊢
 have cB:=hbx.2 u0 u1 v0 v1 st hm hq
 obtain⟨q,hq⟩:=nmE (bx n ⟨u0,u1⟩ ⟨v0,v1⟩ st)
 rw [←hq]at cB⊢
 rw [acE]at cB
 have pM:=bT st.1
 have pA:=bU st.2
 have pM2:=bT q.2.1
 have pA2:=bU q.2.2
 obtain⟨M0,hM0⟩:=nmE (SM st.1);(try rw [←hM0]at cB);(try rw [←hM0]at pM);(try rw [←hM0]at⊢)
 obtain⟨A0,hA0⟩:=nmE (SA st.2);(try rw [←hA0]at cB);(try rw [←hA0]at pA);(try rw [←hA0]at⊢)
 obtain⟨M2,hM2⟩:=nmE (SM q.2.1);(try rw [←hM2]at cB);(try rw [←hM2]at pM2);(try rw [←hM2]at⊢)
 obtain⟨A2,hA2⟩:=nmE (SA q.2.2);(try rw [←hA2]at cB);(try rw [←hA2]at pA2);(try rw [←hA2]at⊢)
 obtain⟨FR,hFR⟩:=nmE (vw aV.c q.1.frames);(try rw [←hFR]at cB)
 have c1:=ch x.style true wide q.1.wide
 have c2:=ch x.style false high q.1.high
 obtain⟨X1,hX1⟩:=nmE (jR x.style true wide q.1.wide);(try rw [←hX1]at c1);(try rw [←hX1]at⊢)
 obtain⟨X2,hX2⟩:=nmE (jR x.style false high q.1.high);(try rw [←hX2]at c2);(try rw [←hX2]at⊢)
 clear hX1 hX2 hFR hq hU hW hKy hRy hV hbx hM0 hA0 hM2 hA2
 obtain⟨x0,x1,x2,x3,x4⟩:=x
 dsimp only at *
 refine dm ([]) ([]) (c:=aN f78) aB func78 (by kernel_rfl) (by kernel_rfl) (bl (by rfl)) (by kernel_rfl) (fun g eff hd F heff hhd hg hF=> ?_)
 cbv
 (repeat'((first|refine ad hg cy ?_|refine aa hg cy ?_|refine ad hg cR ?_|refine aa hg cR ?_|refine ad hg c1 ?_|refine aa hg c1 ?_|refine ad hg c2 ?_|refine aa hg c2 ?_|refine ir rfl hg 0 1 2 cB rfl rfl rfl (by decide) rfl pM pA ⟨rfl,rfl,.inl ⟨rfl,rfl⟩,.inl ⟨rfl,rfl⟩,trivial⟩ rfl ?_);cbv))
 exact qo 6 7 hF rfl rfl rfl rfl rfl (by decide) rfl pM2 pA2
theorem pf(ns:List ak)(hl:ns.length≤1048576)(hs:∀y∈ns,ak.small y)(n wide high:Int)(rtl:Bool):PC0 24 [.agg [.view (vwA ak.ac ns)],ai n,ai wide,ai high,abl rtl] (.tup [ai (rsO ns n wide high rtl).1,ai (rsO ns n wide high rtl).2]):=by
 have cT:=mt ns hl hs
 have hVx:bg (vwA ak.ac ns)=(ns.length:Int):=by rw [aD,bC]
 have cI:=gl (vwA ak.ac ns) n
 rw [hVx]at cI
 change PC0 _ _ (.t (abl (isN ns n)))at cI
 unfold rsO FI
 cases hT:er ns
 case false=>
  rw [hT]at cT
  simp only [Bool.false_and,if_true]
  obtain⟨V,hV⟩:=nmE (vwA ak.ac ns)
  rw [←hV]at cT⊢
  clear cI hVx
  refine ae (aN f24) aB func24 fun g F hg hF=> ?_
  cbv
  repeat'((first|refine ad hg cT ?_|refine aa hg cT ?_);cbv)
  exact dI hF rfl ⟨rfl,rfl⟩
 cases hI:isN ns n
 case false=>
  rw [hT]at cT
  rw [hI]at cI
  simp only [Bool.and_false,if_true]
  obtain⟨V,hV⟩:=nmE (vwA ak.ac ns)
  rw [←hV]at cT cI⊢
  clear hVx
  refine ae (aN f24) aB func24 fun g F hg hF=> ?_
  cbv
  repeat'((first|refine ad hg cT ?_|refine aa hg cT ?_|refine ad hg cI ?_|refine aa hg cI ?_);cbv)
  exact dI hF rfl ⟨rfl,rfl⟩
 obtain⟨n1,n2,x,hx⟩:=bA hI
 have cR:=qE ns hl n x hI hx rtl false (wv false ns rtl 4) 65641 1073741824 (Da hl hs hT rtl hI) st0 (by decide) (by decide) wide high
 rw [xI ns rtl 4 n _ _ st0,SM0,SA0]at cR
 rw [hT]at cT
 rw [hI]at cI
 simp only [Bool.and_self,Bool.true_eq_false,if_false]
 unfold rtV
 dsimp only
 obtain⟨st1,hst1⟩:=nmE ((wv false ns rtl 4 n (fw (kst ns n) true wide) (fw (kst ns n) false high) st0).2)
 rw [←hst1]at cR
 have pM2:=bT st1.1
 have pA2:=bU st1.2
 obtain⟨M2,hM2⟩:=nmE (SM st1.1);(try rw [←hM2]at cR);(try rw [←hM2]at pM2)
 obtain⟨A2,hA2⟩:=nmE (SA st1.2);(try rw [←hA2]at cR);(try rw [←hA2]at pA2)
 obtain⟨X1,hX1⟩:=nmE (jR (kst ns n) true wide (Af ns rtl 4 n (fw (kst ns n) true wide) (fw (kst ns n) false high)).wide)
 obtain⟨X2,hX2⟩:=nmE (jR (kst ns n) false high (Af ns rtl 4 n (fw (kst ns n) true wide) (fw (kst ns n) false high)).high)
 rw [←hX1,←hX2]at cR⊢
 obtain⟨V,hV⟩:=nmE (vwA ak.ac ns)
 rw [←hV]at cT cI cR⊢
 clear hVx hX1 hX2 hst1 hM2 hA2 hV
 refine ae (aN f24) aB func24 fun g F hg hF=> ?_
 cbv
 repeat'((first|refine ad hg cT ?_|refine aa hg cT ?_|refine ad hg cI ?_|refine aa hg cI ?_);cbv)
 refine DE rfl hg 2 rfl [.bx 32 1 [.view V],.bx 79 5 [.view V,.B rtl,.B false,.own 2,.own 3],.rw ⟨199,10,[]⟩,.rw ⟨206,6,[]⟩] [.c (.ptr 1 0 0),ai n,ai wide,ai high] [some 0,some 1,none,none] (wkM [some 0,some 1,none,none] ⟨⟨rfl,rfl,rfl,rfl,trivial⟩,trivial⟩ ⟨.inr (wqE rfl rfl),.inr ⟨_,_,rfl,rfl,rfl,rfl,.inr ⟨⟨rfl,rfl,rfl,rfl,rfl,trivial⟩,trivial⟩⟩,.inr ⟨_,rfl,rfl⟩,.inr ⟨_,rfl,rfl⟩,trivial⟩ (by decide) ⟨.inr rfl,.inr rfl,trivial⟩ ⟨.inr ⟨_,rfl⟩,.inr ⟨_,rfl⟩,trivial⟩) ?_
 (refine ir rfl hg 1 2 3 cR rfl rfl rfl (by decide) rfl rfl rfl ⟨rfl,rfl,rfl,rfl,trivial⟩ rfl ?_;cbv)
 exact dI hF rfl ⟨rfl,rfl⟩
theorem jV(x:jX)(hf:x.fit)(n wide high:Int)(rtl:Bool):PC0 5 [.agg x.ac,ai n,ai wide,ai high,abl rtl] (.t (abl true)):=by
 have cz:=tf x 1048576 hf (by decide) (by decide)
 have ct:=fun hs=>ta x hs
 have ce:=fun hs=>tr x hs
 have sm:x.small→x.nodes.length≤1048576∧∀y∈x.nodes,ak.small y:=fun h=>by obtain⟨ns⟩:=x;exact⟨h.1,h.2.1⟩
 have cs:=fun hs:x.small=>pf x.nodes (sm hs).1 (sm hs).2 n wide high rtl
 have ci:=fun hs:x.small=>qk x.nodes (sm hs).1 (sm hs).2 n wide high rtl
 obtain⟨S,hS⟩:∃S:Prop,S=x.small:=⟨_,rfl⟩
 obtain⟨⟨X1,X2⟩,hX⟩:∃X,X=rsO x.nodes n wide high rtl:=⟨_,rfl⟩
 have hac:x.ac=[.view (vwA ak.ac x.nodes)]:=by obtain⟨ns⟩:=x;rfl
 rw [←hS]at cz ct ce cs ci
 rw [←hX]at cs ci
 rw [hac]at cz ct ce⊢
 obtain⟨V,hV⟩:=nmE (vwA ak.ac x.nodes)
 rw [←hV]at cz ct ce cs ci⊢
 clear hS hX hac hV sm hf
 dsimp only at cs ci
 refine ae (aN Tryz.f5) aB Tryz.func5 fun g F hg hF=> ?_
 have e0:g .q .neq X1 X1=false:=by rw [bj hg];simp
 have e1:g .q .neq X2 X2=false:=by rw [bj hg];simp
 cbv
 refine yv hg cz rfl (fun Z hZ=> ?_)
 obtain⟨_,hZ⟩:=hZ
 cbv
 cases e:g .q .lss Z 0
 case true=>
  cbv
  exact bn hF rfl
 rw [bk hg,zqo]at e
 have hs:=hZ (by omega)
 replace ct:=ct hs
 replace ce:=ce hs
 replace cs:=cs hs
 replace ci:=ci hs
 cbv
 (repeat'((first|rw [e0]|rw [e1]|refine ad hg ct ?_|refine aa hg ct ?_|refine ad hg cs ?_|refine aa hg cs ?_|refine ad hg ci ?_|refine aa hg ci ?_|refine ad hg ce ?_|refine aa hg ce ?_);cbv))
 exact bn hF rfl
end Go.Proofs.YtdnnffbbhijmkaaGreat
