/- The reference's KidBase, KidItems, KidSizes. -/
import Derived.Test.YtdnnffbbhijmkaaGreatQbs
set_option linter.unusedVariables false
set_option linter.unusedSimpArgs false
set_option maxHeartbeats 32000000
namespace Go.Proofs.YtdnnffbbhijmkaaGreat
open Go.ChangeShapes Go.WideShapes Go.ChangeAt Go.RowKit Am Go.Proofs.Tryz
set_option maxRecDepth 100000
theorem Ei(qs:List j8)(x:j8):SA (qs++[x])=SA qs++[lc (j8.c x)]:=bA _ _ _
theorem uY{α:Type}(c:α→Array Value):vw c ([]:List α)=[]:=rfl
theorem q9(ns:List ak)(hl:ns.length≤1048576)(hs:∀y∈ns,ak.small y)(ht:eo ns=true)(rtl keeps:Bool)(bx:Bx)(c L:Nat)(hL:L≤1073741824)(n:Int)(x:ak)(h1:isN ns n=true)(hx:ns[(n-1).toNat]? =some x)(w0 w1 h0' h1':Int)(hbx:∀kid∈flK ns n,yr (vwA ak.ac ns) rtl keeps bx c L kid)(st:St)(hm:st.1.length+(40*c+1)≤L)(hq:st.2.length+(40*c+1)≤L)
  (hal:∀I,I=(j9 bx (plO ns n ⟨w0,w1⟩ ⟨h0',h1'⟩) rtl ns (flK ns n) st).1→∀l∈my (plO ns n ⟨w0,w1⟩ ⟨h0',h1'⟩) I,al5 (lit I l) (l.map (elZ (pb (plO ns n ⟨w0,w1⟩ ⟨h0',h1'⟩) I))) (Bc (plO ns n ⟨w0,w1⟩ ⟨h0',h1'⟩)) (Bb (plO ns n ⟨w0,w1⟩ ⟨h0',h1'⟩) I)=true)
  (hac:∀I st1,(I,st1)=j9 bx (plO ns n ⟨w0,w1⟩ ⟨h0',h1'⟩) rtl ns (flK ns n) st→∀cs,cs=wS (plO ns n ⟨w0,w1⟩ ⟨h0',h1'⟩) (my (plO ns n ⟨w0,w1⟩ ⟨h0',h1'⟩) I) (tu bx (plO ns n ⟨w0,w1⟩ ⟨h0',h1'⟩) rtl ns ((flK ns n).zip (pb (plO ns n ⟨w0,w1⟩ ⟨h0',h1'⟩) I)) st1).1→acr cs (sM (plO ns n ⟨w0,w1⟩ ⟨h0',h1'⟩)) (yl (plO ns n ⟨w0,w1⟩ ⟨h0',h1'⟩) cs)=true):
  SE prog 185 (sR (vwA ak.ac ns) rtl keeps) (SM st.1) (SA st.2) [.c (.ptr 0 0 0),ai n,agP ⟨w0,w1⟩,agP ⟨h0',h1'⟩] (.t (.agg (jK.ac (wD bx ns rtl n ⟨w0,w1⟩ ⟨h0',h1'⟩ st).1))) (SM (wD bx ns rtl n ⟨w0,w1⟩ ⟨h0',h1'⟩ st).2.1) (SA (wD bx ns rtl n ⟨w0,w1⟩ ⟨h0',h1'⟩ st).2.2):=by
 obtain⟨n1,n2,_⟩:=bF h1
 have hkd:=i8 ht n1 hx
 have hkl:=s5 ht n1 hx
 have hkF:∀k∈flK ns n,isN ns k=true:=fun k h=>hkd k (qK hx k h)
 have hKK:flK ns n=ia (io ns) (x.kids.filter (lQ ns)):=nM hx
 have hkFl:(flK ns n).length<20:=by rw [hKK,kD];exact Nat.lt_of_le_of_lt (List.length_filter_le _ _) (by omega)
 have cU:=mM ns n x hs ht hl n1 n2 hx (by omega) hkd w0 w1 h0' h1'
 rw [←hKK]at cU
 have cy:=bL ns n x n1 (by omega) hx (vwA ak.ac ns) _ _ rfl rfl rfl
 have hks:kst ns n=x.style:=iz hx
 have hnd:nod ns n=x:=CR hx
 obtain⟨p,hp⟩:=nmE (plO ns n ⟨w0,w1⟩ ⟨h0',h1'⟩)
 have hcU:PC0 66 [.agg [.view (vwA ak.ac ns)],ai n,agP ⟨w0,w1⟩,agP ⟨h0',h1'⟩] (.t (.agg (nwL n p.s p.row p.al p.ac (knS p.wide) (.view (vw ao p.kids))))):=by
  rw [hp];unfold plO;rw [hks];exact cU
 clear cU
 have hpk:p.kids=flK ns n:=by rw [hp];rfl
 have hps:p.s=x.style:=by rw [hp];exact hks
 unfold wD
 rw [hnd,hks,←hp]
 have cF:=fun(hkn:p.kids≠[])=>rd ns hl rtl keeps bx c L n p w0 w1 h0' h1' (by rw [hp];rfl) (by rw [hp];rfl) hkn (by rw [hpk];exact hkFl) (by rw [hpk];exact hkF) (by rw [hpk];exact hbx) st (by omega) (by omega) (by rw [hpk,hp];exact hal _ rfl) (by rw [hpk,hp];exact hac _ _ rfl)
 clear hal hac hbx
 obtain⟨V,hV⟩:=nmE (vwA ak.ac ns)
 rw [←hV]at cy hcU⊢
 simp only [←hV]at cF
 obtain⟨Kx,hKx⟩:=nmE (vw ao x.kids)
 obtain⟨Rx,hRx⟩:=nmE (vw aJ.c x.table.rules)
 rw [←hKx,←hRx]at cy
 have hrl:x.table.rules.length≤1048576:=(hs x (zqd hx)).2.1
 have cFr:=fW x.style
 obtain⟨fe,hfe⟩:=nmE (nL x.style)
 rw [←hfe]at cFr
 obtain⟨fl,ft,fr,fb⟩:=fe
 have cWi:=gY fl ft fr fb
 have cHi:=hP fl ft fr fb
 obtain⟨B1,hB1⟩:=nmE (adE fl fr)
 obtain⟨B2,hB2⟩:=nmE (adE ft fb)
 change PC0 _ _ (.i (adE fl fr))at cWi
 change PC0 _ _ (.i (adE ft fb))at cHi
 rw [←hB1]at cWi
 rw [←hB2]at cHi
 obtain⟨M0,hM0⟩:=nmE (SM st.1)
 obtain⟨A0,hA0⟩:=nmE (SA st.2)
 have pM0:aj M0=true:=by rw [hM0];exact bX _
 have pA0:aj A0=true:=by rw [hA0];exact bZ _
 have kn:∀g:Gd,g=G0 prog 3 f185.ntmps→g .q .gtr (g .ln (vw ao p.kids)) 0=decide (p.kids≠[]):=fun g hg=>by
  rw [cj hg,bD hg,aN]
  cases p.kids with
  |nil=>rfl
  |cons a b=>exact decide_eq_decide.2 ⟨fun _=>by simp,fun _=>by simp only [zqx];omega⟩
 obtain⟨K,hK⟩:=nmE (vw ao p.kids)
 rw [←hK]at hcU kn
 simp only [←hK]at cF
 obtain⟨x0,x1,x2,x3,x4⟩:=x
 dsimp only at hps hfe hrl hKx hRx cFr cy⊢
 by_cases hme:x3=true
 case neg=>
  rw [if_neg hme]
  replace hme:x3=false:=by simpa using hme
  subst hme
  by_cases hkn:p.kids=[]
  case neg=>
   rw [if_neg (by rw [←hpk];exact hkn)]
   have cF:=cF hkn
   obtain⟨rr,hrr⟩:=nmE (B5 bx p rtl ns st)
   rw [←hrr]at cF⊢
   rw [acE]at cF⊢
   have pM2:=bX rr.2.1
   have pA2:=bZ rr.2.2
   rw [←hM0,←hA0]at cF⊢
   obtain⟨M2,hM2⟩:=nmE (SM rr.2.1);(try rw [←hM2]at cF);(try rw [←hM2]at pM2);(try rw [←hM2]at⊢)
   obtain⟨A2,hA2⟩:=nmE (SA rr.2.2);(try rw [←hA2]at cF);(try rw [←hA2]at pA2);(try rw [←hA2]at⊢)
   obtain⟨FR,hFR⟩:=nmE (vw aV.c rr.1.frames);(try rw [←hFR]at cF);(try rw [←hFR]at⊢)
   obtain⟨KW,hKW⟩:=nmE (knS p.wide);(try rw [←hKW]at hcU);(try rw [←hKW]at cF)
   clear hKW hFR hM2 hA2 hM0 hA0 hK hp hpk hps hfe hB1 hB2 hV hKx hRx
   refine du ([(9,.hand),(11,.hand)]) ([]) (c:=aK f185) aD func185 (by kernel_rfl) (by kernel_rfl) (bl (by rfl)) (by kernel_rfl) (fun g eff hd F heff hhd hg hF=> ?_)
   have kn:=kn g hg
   rw [zqu hkn]at kn
   cbv
   ((repeat'((first|rw [kn]|refine ad hg cy ?_|refine aa hg cy ?_|refine ad hg cFr ?_|refine aa hg cFr ?_|refine ad hg hcU ?_|refine aa hg hcU ?_|refine iC rfl hg 0 1 2 cF rfl rfl rfl (by decide) rfl pM0 pA0 ⟨rfl,.inl ⟨rfl,rfl⟩,.inl ⟨rfl,rfl⟩,.inl ⟨rfl,rfl⟩,trivial⟩ rfl ?_);cbv)))
   exact r8 9 10 hF rfl rfl rfl rfl rfl (by decide) rfl pM2 pA2
  rw [if_pos (by rw [←hpk];exact hkn)]
  dsimp only
  rw [acE]
  unfold yJ
  dsimp only
  rw [←hfe]
  dsimp only
  rw [←hB1,←hB2,uY,←hM0,←hA0]
  obtain⟨WT,hWT⟩:=nmE (wrap64 (0+B1))
  obtain⟨HT,hHT⟩:=nmE (wrap64 (0+B2))
  rw [←hWT,←hHT]
  have cT1:=dJ w0 w1 WT
  have cT2:=dJ h0' h1' HT
  obtain⟨R1,hR1⟩:=nmE (tak ⟨w0,w1⟩ WT);(try rw [←hR1]at cT1);(try rw [←hR1]at⊢)
  obtain⟨R2,hR2⟩:=nmE (tak ⟨h0',h1'⟩ HT);(try rw [←hR2]at cT2);(try rw [←hR2]at⊢)
  obtain⟨KW,hKW⟩:=nmE (knS p.wide);(try rw [←hKW]at hcU)
  refine vh (t:=45) (k:=5) (V:=[]) (R:= .t (.agg [.J R1,.J R2,.J R2,.own 5])) ?_ (fun x hx=>by cases hx) (fun x hx=>by cases hx) rfl rfl rfl
  have t1:∀g:Gd,g=G0 prog 3 f185.ntmps→g .w .add .i64 0 B1=WT:=fun g hg=>by rw [aM hg,hWT]
  have t2:∀g:Gd,g=G0 prog 3 f185.ntmps→g .w .add .i64 0 B2=HT:=fun g hg=>by rw [aM hg,hHT]
  clear hKW hR1 hR2 hWT hHT hM0 hA0 hK hp hpk hps hfe hB1 hB2 hV hKx hRx cF
  refine du ([(9,.hand),(11,.hand)]) ([]) (c:=aK f185) aD func185 (by kernel_rfl) (by kernel_rfl) (bl (by rfl)) (by kernel_rfl) (fun g eff hd F heff hhd hg hF=> ?_)
  have kn:=kn g hg
  have t1:=t1 g hg
  have t2:=t2 g hg
  rw [zqt (Classical.not_not.2 hkn)]at kn
  cbv
  ((repeat'((first|rw [kn]|refine ad hg cy ?_|refine aa hg cy ?_|refine ad hg cFr ?_|refine aa hg cFr ?_|refine ad hg hcU ?_|refine aa hg hcU ?_);cbv)))
  refine ek hg hhd aD [0,1,2,3,4,5,6,7,8,9,10,11] (.op 12 [13] (.op 14 [] (.op 15 [] .done .none) .none) (.op 14 [] (.op 12 [13] (.op 15 [] .done .none) .none) .none)) (by kernel_rfl) (by kernel_rfl) (S:=Unit) (fun _=>True) (fun _=>[(8,.p 5),(14,.p 6)]) (fun _=>[.bx 79 5 [.view V,.B rtl,.B keeps,.own 1,.own 2],.rw ⟨199,10,M0⟩,.rw ⟨206,6,A0⟩,.bx 28 2 [.J w0,.J w1],.bx 28 2 [.J h0',.J h1'],.bx 64 4 [.J 0,.J 0,.J 0,.N],.bx 64 4 [.J R1,.J R2,.J 0,.own 7],.rw ⟨45,5,[]⟩]) (fun BL hBL=> ?_) (fun _ _=> ?_)
  ·cbv
   ((repeat'(first|exact trivial|exact rfl|refine And.intro ?_ ?_|(rw [t1];(try cbv))|(rw [t2];(try cbv))|((first|refine ad hg cT1 ?_|refine aa hg cT1 ?_|refine ad hg cT2 ?_|refine aa hg cT2 ?_|refine ad hg cWi ?_|refine aa hg cWi ?_|refine ad hg cHi ?_|refine aa hg cHi ?_);cbv))))
   all_goals first
    |exact hBL () trivial _ _ (Wk.weak (wkM [some 0,some 1,some 2,some 3,some 4,some 5,some 10,some 9] ⟨rfl,rfl,trivial⟩ ⟨.inr ⟨_,_,rfl,rfl,rfl,rfl,.inr ⟨⟨rfl,rfl,rfl,rfl,rfl,trivial⟩,trivial⟩⟩,.inr (wqE rfl pM0),.inr (wqE rfl pA0),.inr (wqE rfl rfl),.inr (wqE rfl rfl),.inr (wqE rfl rfl),.inr ⟨_,_,rfl,rfl,rfl,rfl,.inr ⟨⟨rfl,rfl,rfl,rfl,trivial⟩,trivial⟩⟩,.inr (wqE rfl rfl),trivial⟩ (by decide) ⟨.inr rfl,.inr rfl,.inr rfl,trivial⟩ ⟨.inr ⟨_,rfl⟩,.inr ⟨_,rfl⟩,.inr ⟨_,rfl⟩,trivial⟩))
    |exact hBL () trivial _ _ (Wk.weak (wkM [some 0,some 1,some 2,some 3,some 4,some 5,some 9,some 10] ⟨rfl,rfl,trivial⟩ ⟨.inr ⟨_,_,rfl,rfl,rfl,rfl,.inr ⟨⟨rfl,rfl,rfl,rfl,rfl,trivial⟩,trivial⟩⟩,.inr (wqE rfl pM0),.inr (wqE rfl pA0),.inr (wqE rfl rfl),.inr (wqE rfl rfl),.inr (wqE rfl rfl),.inr ⟨_,_,rfl,rfl,rfl,rfl,.inr ⟨⟨rfl,rfl,rfl,rfl,trivial⟩,trivial⟩⟩,.inr (wqE rfl rfl),trivial⟩ (by decide) ⟨.inr rfl,.inr rfl,.inr rfl,trivial⟩ ⟨.inr ⟨_,rfl⟩,.inr ⟨_,rfl⟩,.inr ⟨_,rfl⟩,trivial⟩))
  cbv
  exact Ax 1 2 7 hF rfl (.inr ⟨rfl,rfl,rfl,rfl,trivial⟩) rfl rfl rfl rfl (by decide) rfl pM0 pA0 rfl
 rw [if_pos hme]
 subst hme
 have hiw:inW x2 ⟨w0,w1⟩=pk ⟨w0,w1⟩ B1:=by unfold inW sN;rw [←hfe,hB1];rfl
 have cIn:=eU w0 w1 B1
 rw [hiw]
 obtain⟨⟨i0,i1⟩,hI⟩:∃q,q=pk ⟨w0,w1⟩ B1:=⟨_,rfl⟩
 change PC0 _ _ (.t (agP (pk ⟨w0,w1⟩ B1)))at cIn
 rw [←hI]at cIn⊢
 have cRo:=gZ i0 i1
 obtain⟨RO,hRO⟩:=nmE (gW ⟨i0,i1⟩);(try rw [←hRO]at cRo);(try rw [←hRO]at⊢)
 have cW:=py x4.rules RO hrl
 rw [←hRx]at cW
 obtain⟨⟨q0,q1⟩,hqq⟩:∃q,q=wnt x4.rules RO:=⟨_,rfl⟩
 rw [←hqq]at cW⊢
 dsimp only
 rw [acE]
 unfold yJ
 dsimp only
 rw [←hfe]
 dsimp only
 rw [←hB1,←hB2,uY,Ei,←hM0,←hA0]
 obtain⟨WT,hWT⟩:=nmE (wrap64 (q0+B1))
 obtain⟨HT,hHT⟩:=nmE (wrap64 (q1+B2))
 rw [←hWT,←hHT]
 have cT1:=dJ w0 w1 WT
 have cT2:=dJ h0' h1' HT
 obtain⟨R1,hR1⟩:=nmE (tak ⟨w0,w1⟩ WT);(try rw [←hR1]at cT1);(try rw [←hR1]at⊢)
 obtain⟨R2,hR2⟩:=nmE (tak ⟨h0',h1'⟩ HT);(try rw [←hR2]at cT2);(try rw [←hR2]at⊢)
 obtain⟨KW,hKW⟩:=nmE (knS p.wide);(try rw [←hKW]at hcU)
 have hAl:A0.length≤1073741824:=by rw [hA0];unfold SA;rw [af];omega
 obtain⟨A2,hA2⟩:∃A,A=A0++[[.J n,.J w0,.J w1,.J h0',.J h1',.B rtl]]:=⟨_,rfl⟩
 have pA2:aj A2=true:=by rw [hA2,hA0];unfold SA;exact i9 _ _ rfl
 change SE _ _ _ _ _ _ _ _ (A0++[[.J n,.J w0,.J w1,.J h0',.J h1',.B rtl]])
 rw [←hA2]
 refine vh (t:=45) (k:=5) (V:=[]) (R:= .t (.agg [.J R1,.J R2,.J R2,.own 5])) ?_ (fun x hx=>by cases hx) (fun x hx=>by cases hx) rfl rfl rfl
 have t1:∀g:Gd,g=G0 prog 3 f185.ntmps→g .w .add .i64 q0 B1=WT:=fun g hg=>by rw [aM hg,hWT]
 have t2:∀g:Gd,g=G0 prog 3 f185.ntmps→g .w .add .i64 q1 B2=HT:=fun g hg=>by rw [aM hg,hHT]
 clear hKW hR1 hR2 hWT hHT hM0 hA0 hK hp hpk hps hfe hB1 hB2 hV hKx hRx cF hqq hRO hI hiw kn
 refine du ([(9,.hand),(11,.hand)]) ([]) (c:=aK f185) aD func185 (by kernel_rfl) (by kernel_rfl) (bl (by rfl)) (by kernel_rfl) (fun g eff hd F heff hhd hg hF=> ?_)
 have t1:=t1 g hg
 have t2:=t2 g hg
 cbv
 ((repeat'((first|refine ad hg cy ?_|refine aa hg cy ?_|refine ad hg cFr ?_|refine aa hg cFr ?_|refine ad hg hcU ?_|refine aa hg hcU ?_);cbv)))
 refine ek hg hhd aD [0,1,2,3,5,6,7,8,9,10,11,12] (.op 4 [] (.op 13 [] (.op 14 [15,16] (.op 17 [] .done .none) .none) .none) (.op 13 [] (.op 4 [] (.op 14 [15,16] (.op 17 [] .done .none) .none) .none) .none)) (by kernel_rfl) (by kernel_rfl) (S:=Unit) (fun _=>True) (fun _=>[(0,.p 0),(6,.p 3),(7,.p 4),(8,.p 5),(9,.p 6),(10,.p 7),(12,.i (0)),(13,.i (0))]) (fun _=>[.bx 79 5 [.view V,.B rtl,.B keeps,.own 1,.own 8],.rw ⟨199,10,M0⟩,.gn,.bx 28 2 [.J w0,.J w1],.bx 28 2 [.J h0',.J h1'],.bx 64 4 [.J 0,.J 0,.J 0,.N],.bx 148 64 (BE ⟨x0,x1,x2,true,x4⟩ Kx Rx),.bx 85 4 [.J fl,.J ft,.J fr,.J fb],.rw ⟨206,6,A2⟩]) (fun BL hBL=> ?_) (fun _ _=> ?_)
 ·cbv
  ((repeat'(first|exact trivial|exact rfl|refine And.intro ?_ ?_|(refine Gw hg rfl (by decide) hAl ?_;cbv))))
  all_goals
   rw [gG hg,←hA2]
   exact hBL () trivial _ _ (Wk.weak (wkM [some 0,some 1,none,some 3,some 4,some 5,some 6,some 7,some 10] ⟨rfl,rfl,rfl,rfl,rfl,rfl,rfl,rfl,trivial⟩ ⟨.inr ⟨_,_,rfl,rfl,rfl,rfl,.inr ⟨⟨rfl,rfl,rfl,rfl,rfl,trivial⟩,trivial⟩⟩,.inr (wqE rfl pM0),.inl rfl,.inr (wqE rfl rfl),.inr (wqE rfl rfl),.inr (wqE rfl rfl),.inr (wqE rfl rfl),.inr (wqE rfl rfl),.inr (wqE rfl pA2),trivial⟩ (by decide) ⟨.inl rfl,.inr rfl,.inr rfl,trivial⟩ ⟨.inl rfl,.inr ⟨_,rfl⟩,.inr ⟨_,rfl⟩,trivial⟩))
 cbv
 ((repeat'((first|refine ad hg cWi ?_|refine aa hg cWi ?_|refine ad hg cIn ?_|refine aa hg cIn ?_|refine ad hg cRo ?_|refine aa hg cRo ?_|refine ad hg cW ?_|refine aa hg cW ?_);cbv)))
 refine ek hg hhd aD [0,1,2,3,4,5,6,7,8,9,10,11] (.op 12 [13] (.op 14 [] (.op 15 [] .done .none) .none) (.op 14 [] (.op 12 [13] (.op 15 [] .done .none) .none) .none)) (by kernel_rfl) (by kernel_rfl) (S:=Unit) (fun _=>True) (fun _=>[(8,.p 5),(14,.p 6)]) (fun _=>[.bx 79 5 [.view V,.B rtl,.B keeps,.own 1,.own 8],.rw ⟨199,10,M0⟩,.gn,.bx 28 2 [.J w0,.J w1],.bx 28 2 [.J h0',.J h1'],.bx 64 4 [.J 0,.J 0,.J 0,.N],.bx 64 4 [.J R1,.J R2,.J 0,.own 7],.rw ⟨45,5,[]⟩,.rw ⟨206,6,A2⟩]) (fun BL hBL=> ?_) (fun _ _=> ?_)
 ·cbv
  ((repeat'(first|exact trivial|exact rfl|refine And.intro ?_ ?_|(rw [t1];(try cbv))|(rw [t2];(try cbv))|((first|refine ad hg cT1 ?_|refine aa hg cT1 ?_|refine ad hg cT2 ?_|refine aa hg cT2 ?_|refine ad hg cWi ?_|refine aa hg cWi ?_|refine ad hg cHi ?_|refine aa hg cHi ?_);cbv))))
  all_goals first
   |exact hBL () trivial _ _ (Wk.weak (wkM [some 0,some 1,none,some 3,some 4,some 5,some 10,some 9,some 8] ⟨rfl,rfl,trivial⟩ ⟨.inr ⟨_,_,rfl,rfl,rfl,rfl,.inr ⟨⟨rfl,rfl,rfl,rfl,rfl,trivial⟩,trivial⟩⟩,.inr (wqE rfl pM0),.inl rfl,.inr (wqE rfl rfl),.inr (wqE rfl rfl),.inr (wqE rfl rfl),.inr ⟨_,_,rfl,rfl,rfl,rfl,.inr ⟨⟨rfl,rfl,rfl,rfl,trivial⟩,trivial⟩⟩,.inr (wqE rfl rfl),.inr (wqE rfl pA2),trivial⟩ (by decide) ⟨.inl rfl,.inr rfl,.inr rfl,trivial⟩ ⟨.inl rfl,.inr ⟨_,rfl⟩,.inr ⟨_,rfl⟩,trivial⟩))
   |exact hBL () trivial _ _ (Wk.weak (wkM [some 0,some 1,none,some 3,some 4,some 5,some 9,some 10,some 8] ⟨rfl,rfl,trivial⟩ ⟨.inr ⟨_,_,rfl,rfl,rfl,rfl,.inr ⟨⟨rfl,rfl,rfl,rfl,rfl,trivial⟩,trivial⟩⟩,.inr (wqE rfl pM0),.inl rfl,.inr (wqE rfl rfl),.inr (wqE rfl rfl),.inr (wqE rfl rfl),.inr ⟨_,_,rfl,rfl,rfl,rfl,.inr ⟨⟨rfl,rfl,rfl,rfl,trivial⟩,trivial⟩⟩,.inr (wqE rfl rfl),.inr (wqE rfl pA2),trivial⟩ (by decide) ⟨.inl rfl,.inr rfl,.inr rfl,trivial⟩ ⟨.inl rfl,.inr ⟨_,rfl⟩,.inr ⟨_,rfl⟩,trivial⟩))
 cbv
 exact Ax 1 8 7 hF rfl (.inr ⟨rfl,rfl,rfl,rfl,trivial⟩) rfl rfl rfl rfl (by decide) rfl pM0 pA2 rfl
theorem re(V:LLA)(rtl:Bool)(kid:Int)(bb:jK)(M A0 M2 A2:LLA)(w0 w1 h0' h1':Int)(pM:aj M=true)(pA:aj A0=true)(pM2:aj M2=true)(pA2:aj A2=true)(hc:SE prog 185 (sR V rtl false) M A0 [.c (.ptr 0 0 0),ai kid,agP ⟨w0,w1⟩,agP ⟨h0',h1'⟩] (.t (.agg (jK.ac bb))) M2 A2):
  SE prog 99 (sR V rtl false) M A0 [.c (.ptr 0 0 0),ai kid,agP ⟨w0,w1⟩,agP ⟨h0',h1'⟩] (.t (.agg (jK.ac bb))) M2 A2:=by
 rw [acE]at hc⊢
 obtain⟨FR,hFR⟩:=nmE (vw aV.c bb.frames);(try rw [←hFR]at hc);(try rw [←hFR]at⊢)
 clear hFR
 refine du ([(7,.hand),(10,.hand)]) ([]) (c:=aK f99) aD func99 (by kernel_rfl) (by kernel_rfl) (bl (by rfl)) (by kernel_rfl) (fun g eff hd F heff hhd hg hF=> ?_)
 cbv
 (refine iC rfl hg 0 1 2 hc rfl rfl rfl (by decide) rfl pM pA ⟨rfl,rfl,.inl ⟨rfl,rfl⟩,.inl ⟨rfl,rfl⟩,trivial⟩ rfl ?_;cbv)
 exact r8 6 7 hF rfl rfl rfl rfl rfl (by decide) rfl pM2 pA2
def inR(n:Int):Prop:=0≤n∧n≤1048576
theorem uH(n:Int):inR (cl n):=by unfold inR cl bro;split<;>(try split)<;>omega
theorem Ff{x:ah}(h:rR x=true):inR (hyp x):=by
 simp only [rR,rng,zqs,zqp]at h
 unfold inR hyp gv
 split<;>(try split)<;>(try split)<;>omega
theorem zy:∀(ps:List (Int×Int))(l:List Int),(∀p∈ps,inR p.2)→(∀v∈l,inR v)→∀v∈o1 ps l,inR v
 | [],l,_,h=>h
 |p::ps,l,hp,h=>by
  refine zy ps (l.set p.1.toNat p.2) (fun q hq=>hp q (List.mem_cons_of_mem _ hq)) fun v hv=> ?_
  rcases List.mem_or_eq_of_mem_set hv with h1|h1
  ·exact h v h1
  ·rw [h1];exact hp p (List.mem_cons_self ..)
theorem C0{xs:List ah}{fr:List Bool}(hx:∀x∈xs,rR x=true)(hl:fr.length=xs.length){i:Int}(hi:i∈fre 0 fr):rR (itA xs i)=true:=by
 obtain⟨h1,h2,_⟩:=gP fr 0 (Int.le_refl 0) i hi
 have hlt:i.toNat<xs.length:=by omega
 have e:itA xs i=xs[i.toNat]:=by unfold itA;rw [zqc hlt];rfl
 rw [e];exact hx _ (List.getElem_mem _)
theorem itR{x:ah}(h:rR x=true):inR x.least∧(0≤x.most→inR (mj x)):=by
 simp only [rR,rng,zqs,zqp]at h
 unfold inR mj
 refine⟨by omega,fun h0=> ?_⟩
 split<;>omega
theorem DC(X:Fx)(fr:List Bool)(rest:Int)(hx:∀x∈X.xs,rR x=true)(hl:fr.length=X.xs.length):∀p∈X.setI fr rest,inR p.2:=by
 intro p hp
 unfold Fx.setI at hp
 split at hp
 ·unfold Fx.shs at hp
  obtain⟨q,_,rfl⟩:=List.mem_map.1 hp
  exact uH _
 ·rcases List.mem_append.1 hp with h|h
  ·split at h
   ·obtain⟨i,hi,rfl⟩:=List.mem_map.1 h
    unfold Fx.low at hi
    exact(itR (C0 hx hl (List.mem_filter.1 hi).1)).1
   ·cases h
  ·split at h
   ·obtain⟨i,hi,rfl⟩:=List.mem_map.1 h
    unfold Fx.hig at hi
    obtain⟨h1,h2⟩:=List.mem_filter.1 hi
    simp only [zqs,uu,zqp]at h2
    exact(itR (C0 hx hl h1)).2 h2.2.1
   ·cases h
theorem zD(X:Fx)(hx:∀x∈X.xs,rR x=true):∀(k:Nat)(sz:List Int)(fr:List Bool)(r:List Int),fr.length=X.xs.length→(∀v∈sz,inR v)→X.runI k sz fr=some r→∀v∈r,inR v
 |0,sz,fr,r,_,_,h=>by simp [Fx.runI]at h
 |k+1,sz,fr,r,hl,hs,h=>by
  unfold Fx.runI at h
  split at h
  ·cases h;exact hs
  ·refine zD X hx k _ _ r ?_ (zy _ _ (DC X fr _ hx hl) hs) h
   have:∀(is:List Int)(l:List Bool),(oD is l).length=l.length:=by
    intro is
    induction is with
    |nil=>intro l;rfl
    |cons i is ih=>intro l;show(oD is (l.set i.toNat true)).length=_;rw [ih,List.length_set]
   rw [this];exact hl
theorem Fm{xs:List ah}(hx:∀x∈xs,rR x=true)(gap inner:Int):∀v∈flx xs gap inner,inR v:=by
 have hh:∀v∈xs.map hyp,inR v:=fun v hv=>by
  obtain⟨x,hxm,rfl⟩:=List.mem_map.1 hv
  exact Ff (hx x hxm)
 unfold flx
 split
 ·cases hr:(Fx.of xs gap inner).runI 13 (xs.map hyp) (xs.map (lJ (Au xs gap inner)))with
  |none=>intro v hv;cases hv
  |some r=>exact zD (Fx.of xs gap inner) hx 13 _ _ r (by rw [zql];rfl) hh hr
 ·exact hh
theorem k8{n:Int}(h:inR n):rng n 0 1048576=true:=by
 unfold inR at h
 simp only [rng,zqs,zqp];exact h
theorem uf{xs:List ah}(h:dT xs=true):(∀x∈xs,rR x=true)∧xs.length≤12:=by
 simp only [dT,zqs,zqf,zqp]at h
 exact⟨h.1,by omega⟩
theorem EZ{xs:List ah}(h:dT xs=true)(gap room:Int)(wr:Bool)(inner:Int):∀v∈lsz xs gap room wr inner,inR v:=fun v hv=>by
 unfold lsz at hv
 obtain⟨l,_,hm⟩:=List.mem_flatMap.1 hv
 exact Fm (fun x hx=>(uf h).1 x (Ab hx)) gap inner v hm
theorem D8{zs:List Int}(h:∀v∈zs,inR v)(i:Int):inR (elZ zs i):=by
 unfold elZ
 split
 ·cases hx:zs[i.toNat]? with
  |none=>exact⟨Int.le_refl 0,by decide⟩
  |some v=>exact h v (zqd hx)
 ·exact⟨Int.le_refl 0,by decide⟩
theorem FM{I:List ah}{ZZ:List Int}(hI:dT I=true)(hZ:∀v∈ZZ,inR v){l:List Int}(hl:∀i∈l,0≤i∧i<(I.length:Int))(hll:l.length≤12){gap inner:Int}(hg:inR gap)(hin:inR inner):al5 (lit I l) (l.map (elZ ZZ)) gap inner=true:=by
 have e:=wH hl
 simp only [al5,zqs,zqf,zqp]
 refine⟨fun s hs=> ?_,?_,by rw [zql,e],k8 hg,k8 hin⟩
 ·obtain⟨i,_,rfl⟩:=List.mem_map.1 hs
  exact k8 (D8 hZ i)
 ·simp only [dT,zqs,zqf,zqp]
  exact⟨fun x hx=>(uf hI).1 x (Ab hx),by rw [e];omega⟩
theorem l4(s:aw)(n:Int):inR (tak s n):=by unfold tak;split<;>exact uH _
theorem Av(s:ar)(w:Bool):inR (fP s w):=by unfold fP;split<;>exact uH _
theorem A6{p:Pl}{I:List ah}(hI:dT I=true):∀l∈my p I,al5 (lit I l) (l.map (elZ (pb p I))) (Bc p) (Bb p I)=true:=fun l hl=>by
 unfold my at hl
 exact FM hI (EZ hI _ _ _ _) (fun i hi=>tP hl hi) (Nat.le_trans (ju hl) (uf hI).2) (Av _ _) (l4 _ _)
theorem xp(v:bO)(base:Int):sq v base= -1∨inR (sq v base):=by
 unfold sq;split
 ·exact .inl rfl
 ·exact .inr (uH _)
theorem FN(a b:Int):inR (adE a b):=by unfold adE;exact uH _
theorem Fk(s:ar)(w:Bool):inR (sN s w):=by unfold sN;split<;>exact FN _ _
theorem E4(s:ar)(w:Bool)(base:Int):inR (z6 s w base):=by
 have h1:=xp (if w then s.minWidth else s.minHeight) base
 have h2:=Fk s w
 show inR (if sN s w<orl (sq (if w then s.minWidth else s.minHeight) base) 0 then orl (sq (if w then s.minWidth else s.minHeight) base) 0 else sN s w)
 generalize sq (if w then s.minWidth else s.minHeight) base=a at *
 generalize sN s w=b at *
 unfold orl inR at *
 by_cases ha:a= -1
 ·rw [if_pos ha];split<;>omega
 ·rw [if_neg ha];split<;>omega
theorem EW(s:bd)(sd:Int)(rtl:Bool)(base:Int):rng (oH s sd rtl base) (-1048576) 1048576=true:=by
 have:=ED (DT (pT s sd rtl) base)
 unfold oH
 split
 ·rfl
 ·simp only [rng,zqs,zqp];exact this
theorem EN(s:ar)(w:Bool)(o:Int):rC s w o= -1∨inR (rC s w o):=by
 unfold rC;split
 ·exact .inl rfl
 ·split<;>exact .inr (uH _)
def Ej(b:jK):Prop:=inR b.wide∧inR b.high∧inR b.base
theorem FI{bx:Bx}{kid:Int}(hb:∀w h st,Ej (bx kid w h st).1)(p:Pl)(rtl:Bool)(ns:List ak)(st:St):inR (wa bx p rtl ns kid st).1:=by
 unfold wa
 split
 ·rename_i hn
  show inR (Ct p (kst ns kid) rtl)
  have h1:=xp (kst ns kid).basis (knS p.al)
  have h2:=xp (if p.row then(kst ns kid).width else(kst ns kid).height) (knS p.al)
  have h3:=EN (kst ns kid) p.row (kcX p (kst ns kid) rtl).n
  unfold Ct at hn⊢
  split
  ·rename_i h;exact h1.resolve_left h
  ·rename_i h
   rw [if_neg h]at hn
   split
   ·rename_i h';exact h2.resolve_left h'
   ·rename_i h'
    rw [if_neg h']at hn
    split
    ·rename_i h''
     rw [if_pos h'']at hn
     exact h3.resolve_left hn
    ·rename_i h''
     rw [if_neg h'']at hn
     exact absurd rfl hn
 ·show inR (alB p.row (sW bx p.row kid _ _ st).1)
  unfold alB sW
  split
  ·exact(hb _ _ _).1
  ·exact(hb _ _ _).2.1
theorem CZ{bx:Bx}(p:Pl)(rtl:Bool)(ns:List ak):∀(ks:List Int)(st:St),(∀k∈ks,∀w h st,Ej (bx k w h st).1)→(∀k∈ks,rng (kst ns k).grow 0 1000=true∧rng (kst ns k).shrink 0 1000=true)→∀x∈(j9 bx p rtl ns ks st).1,rR x=true
 | [],st,_,_,x,hx=>by simp [j9]at hx
 |k::r,st,hb,hg,x,hx=>by
  simp only [j9,List.mem_cons]at hx
  rcases hx with rfl|hx
  ·have h1:=FI (hb k (List.mem_cons_self ..)) p rtl ns st
   have h2:=hg k (List.mem_cons_self ..)
   have h3:=xp (if p.row then(kst ns k).maxWidth else(kst ns k).maxHeight) (knS p.al)
   have h4:rng (Ba (kst ns k) p.row (knS p.al)) (-1) 1048576=true:=by
    unfold Ba inR at *
    simp only [rng,zqs,zqp]
    rcases h3 with h3|h3<;>omega
   simp only [rR,Fd,xy,sdB,k8 h1,k8 (E4 _ _ _),h4,h2.1,h2.2,EW,Bool.and_self]
  ·exact CZ p rtl ns r _ (fun k hk=>hb k (List.mem_cons_of_mem _ hk)) (fun k hk=>hg k (List.mem_cons_of_mem _ hk)) x hx
theorem Gs(bx:Bx)(ns:List ak)(rtl:Bool)(n:Int)(w h:aw)(st:St):Ej (wD bx ns rtl n w h st).1:=by
 unfold wD
 split
 ·exact⟨l4 _ _,l4 _ _,l4 _ _⟩
 ·split
  ·exact⟨l4 _ _,l4 _ _,l4 _ _⟩
  ·exact⟨l4 _ _,l4 _ _,uH _⟩
theorem GH(ns:List ak)(rtl:Bool):∀(f:Nat)(n:Int)(w h:aw)(st:St),Ej (uR false ns rtl f n w h st).1
 |0,_,_,_,_=>(⟨⟨Int.le_refl 0,by decide⟩,⟨Int.le_refl 0,by decide⟩,⟨Int.le_refl 0,by decide⟩⟩:Ej ⟨0,0,0,[]⟩)
 |f+1,n,w,h,st=>by
  show Ej (kpF false rtl (wD (uR false ns rtl f) ns rtl) n w h st).1
  unfold kpF
  rw [if_pos rfl]
  exact Gs ..
theorem AD{a b:Int}(h0:0<b)(h1: -4611686018427387904≤a)(h2:a≤4611686018427387904):b*fdv a b≤a∧a<b*fdv a b+b:=by
 have e:=Int.mul_tdiv_add_tmod a b
 have hq: -4611686018427387904≤a.tdiv b∧a.tdiv b≤4611686018427387904:=by
  have h3:=Int.natAbs_tdiv_le_natAbs a b
  omega
 have m1: -b<a.tmod b:=by have:=Int.lt_tmod_of_pos a h0;omega
 have m2:a.tmod b<b:=Int.tmod_lt_of_pos a h0
 have w1:wrap64 (a.tdiv b)=a.tdiv b:=by unfold wrap64;omega
 have w2:wrap64 (a.tdiv b-1)=a.tdiv b-1:=by unfold wrap64;omega
 unfold fdv
 rw [if_neg (by omega),w1,w2]
 split
 ·rw [Int.mul_sub,Int.mul_one];omega
 ·by_cases hm:0≤a.tmod b
  ·omega
  ·omega
theorem EB{n L k:Int}(hL:L≤64)(hn:0≤n)(hn2:n≤1048576)(hk:0≤k)(hk2:k<L):0≤wrap64 (fdv (wrap64 (n*wrap64 (k+1))) L-fdv (wrap64 (n*k)) L)∧wrap64 (fdv (wrap64 (n*wrap64 (k+1))) L-fdv (wrap64 (n*k)) L)≤n:=by
 have e1:wrap64 (k+1)=k+1:=aC _ (by omega)
 have m0:0≤n*k:=Int.mul_nonneg hn hk
 have m1:n*k≤1048576*64:=Int.mul_le_mul hn2 (by omega) hk (by decide)
 have ee:n*(k+1)=n*k+n:=by rw [Int.mul_add,Int.mul_one]
 rw [e1,ee]
 generalize n*k=m at *
 rw [aC (m+n) (by omega),aC m (by omega)]
 obtain⟨c1,c2⟩:=AD (a:=m+n) (b:=L) (by omega) (by omega) (by omega)
 obtain⟨d1,d2⟩:=AD (a:=m) (b:=L) (by omega) (by omega) (by omega)
 generalize fdv (m+n) L=q1 at *
 generalize fdv m L=q0 at *
 have hD:L*(q1-q0)=L*q1-L*q0:=Int.mul_sub ..
 have v1: -1<q1-q0:=Int.lt_of_mul_lt_mul_left (a:=L) (by rw [hD,Int.mul_neg,Int.mul_one];omega) (by omega)
 have g1:n≤L*n:=by
  have:=Int.mul_le_mul_of_nonneg_right (show(1:Int)≤L by omega) hn
  omega
 have v2:q1-q0<n+1:=Int.lt_of_mul_lt_mul_left (a:=L) (by rw [hD,Int.mul_add,Int.mul_one];omega) (by omega)
 rw [aC (q1-q0) (by omega)]
 omega
theorem xr{n L:Int}(hL:L≤64)(hn:0≤n)(hn2:n≤1048576):∀(j:Nat)(s:Int),0≤s→s+(j:Int)≤L→∀v∈shG n L s (List.replicate j 1),0≤v∧v≤n
 |0,s,_,_,v,hv=>by simp [shG]at hv
 |j+1,s,h0,h1,v,hv=>by
  rw [List.replicate_succ]at hv
  simp only [shG,List.mem_cons]at hv
  rcases hv with rfl|hv
  ·exact EB hL hn hn2 h0 (by omega)
  ·rw [aC (s+1) (by omega)]at hv
   exact xr hL hn hn2 j (s+1) (by omega) (by omega) v hv
theorem uW:∀(m:Nat)(a:Int),0≤a→a+(m:Int)≤1000→oA a (List.replicate m 1)=a+(m:Int)
 |0,a,_,_=>by simp [oA]
 |m+1,a,h0,h1=>by
  rw [List.replicate_succ]
  simp only [oA]
  rw [aC (a+1) (by omega),uW m (a+1) (by omega) (by omega)]
  omega
theorem Fp{n many:Int}(hn:0≤n)(hn2:n≤1048576):∀v∈evn n many,0≤v∧v≤n:=by
 have hm:=oL many
 have e:sg n=n:=by unfold sg bro;rw [if_neg (by omega)];split<;>omega
 unfold evn shr
 rw [if_pos (zX _ hm),e,uW _ 0 (Int.le_refl 0) (by omega)]
 exact xr (by omega) hn hn2 _ 0 (Int.le_refl 0) (Int.le_refl _)
theorem EC{c:Int}(h:inR c):sg c=c:=by unfold inR at h;unfold sg bro;rw [if_neg (by omega)];split<;>omega
theorem zm:∀(cs:List Int),(∀c∈cs,inR c)→0≤cs.sum∧cs.sum≤1048576*(cs.length:Int)∧∀c∈cs,c≤cs.sum
 | [],_=>by simp
 |c::r,h=>by
  obtain⟨h1,h2,h3⟩:=zm r fun x hx=>h x (List.mem_cons_of_mem _ hx)
  have hc:=h c (List.mem_cons_self ..)
  unfold inR at hc
  simp only [List.sum_cons,zqx]
  refine⟨by omega,by omega,fun x hx=> ?_⟩
  rcases List.mem_cons.1 hx with rfl|hx
  ·omega
  ·have:=h3 x hx;omega
theorem xj:∀(cs:List Int)(a:Int),(∀c∈cs,inR c)→0≤a→a+1048576*(cs.length:Int)≤1099511627776→yu a cs=a+cs.sum
 | [],a,_,_,_=>by simp [yu]
 |c::r,a,h,h0,h1=>by
  have hc:=h c (List.mem_cons_self ..)
  have hs:=EC hc
  unfold inR at hc
  simp only [zqx]at h1
  simp only [yu,List.sum_cons]
  rw [hs,aC (a+c) (by omega),xj r (a+c) (fun x hx=>h x (List.mem_cons_of_mem _ hx)) (by omega) (by omega)]
  omega
theorem Fv{cs:List Int}{gap:Int}(h:∀c∈cs,inR c)(hl:cs.length≤12)(hg:inR gap):0≤crt cs gap∧crt cs gap≤33554432∧∀c∈cs,c≤crt cs gap:=by
 unfold crt
 split
 ·rename_i e;subst e;exact⟨Int.le_refl 0,by decide,fun c hc=>by cases hc⟩
 ·rename_i e
  have hp:0<cs.length:=List.length_pos_iff.2 e
  obtain⟨s1,s2,s3⟩:=zm cs h
  have m0:0≤gap*((cs.length:Int)-1):=Int.mul_nonneg hg.1 (by omega)
  have m1:gap*((cs.length:Int)-1)≤1048576*12:=Int.mul_le_mul hg.2 (by omega) (by omega) (by decide)
  rw [xj cs 0 h (Int.le_refl 0) (by omega)]
  generalize gap*((cs.length:Int)-1)=m at *
  rw [aC m (by omega),aC (0+cs.sum+m) (by omega)]
  exact⟨by omega,by omega,fun c hc=>by have:=s3 c hc;omega⟩
theorem Ew{cs:List Int}{gap inner ct:Int}(h:∀c∈cs,inR c)(hl:cs.length≤12)(hg:inR gap)(hi:inR inner):∀v∈we cs gap inner ct,inR v:=by
 unfold we
 split
 ·rename_i hc
  obtain⟨_,_,hf⟩:=hc
  obtain⟨c1,c2,c3⟩:=Fv h hl hg
  unfold inR at hi
  rw [aC (inner-crt cs gap) (by omega)]at hf⊢
  intro v hv
  obtain⟨q,hq,rfl⟩:=List.mem_map.1 hv
  obtain⟨a,b⟩:=q
  have hab:=List.of_mem_zip hq
  have h1:=h a hab.1
  have h2:=c3 a hab.1
  have h3:=Fp (by omega) (by omega) b hab.2
  unfold inR at h1⊢
  dsimp only
  rw [aC (a+b) (by omega)]
  omega
 ·exact h
theorem Fz(xs:List av):inR (cro xs):=by
 unfold cro;split
 ·exact⟨Int.le_refl 0,by decide⟩
 ·exact uH _
theorem Fw{p:Pl}(hac:p.ac.mode=3→inR p.ac.n){ls:List (List Int)}(hl:ls.length≤12)(S:List av):∀v∈wS p ls S,inR v:=by
 have h1:∀v∈ls.map (Gg p S),inR v:=fun v hv=>by
  obtain⟨l,_,rfl⟩:=List.mem_map.1 hv
  unfold Gg;split
  ·rename_i h;exact hac h.2
  ·exact Fz _
 unfold wS
 split
 ·rename_i h;exact Ew h1 (by rw [zql];exact hl) (Av _ _) (hac h.2)
 ·exact h1
theorem A7{p:Pl}{I:List ah}(hI:dT I=true)(hac:p.ac.mode=3→inR p.ac.n)(S:List av):acr (wS p (my p I) S) (sM p) (yl p (wS p (my p I) S))=true:=by
 have hl:(my p I).length≤12:=Nat.le_trans (mw ..) (uf hI).2
 have hcl:=uG p (my p I) S (by omega)
 simp only [acr,zqs,zqf,zqp]
 exact⟨fun c hc=>k8 (Fw hac hl S c hc),by rw [hcl];omega,k8 (Av _ _),k8 (l4 _ _)⟩
theorem Ar(s:aw)(z:Int):(pk s z).mode=3→inR (pk s z).n:=by
 unfold pk
 split
 ·rename_i h;intro h3;rw [h]at h3;cases h3
 ·exact fun _=>uH _
theorem EP(ns:List ak)(n:Int)(w h:aw):(plO ns n w h).ac.mode=3→inR (plO ns n w h).ac.n:=by
 show(if jq (kst ns n)then inH (kst ns n) h else inW (kst ns n) w).mode=3→inR (if jq (kst ns n)then inH (kst ns n) h else inW (kst ns n) w).n
 split
 ·exact Ar _ _
 ·exact Ar _ _
theorem E9{ns:List ak}(ht:eo ns=true){k:Int}(hk:isN ns k=true):zq (kst ns k)=true:=by
 obtain⟨k1,k2,y,hy⟩:=bF hk
 rw [iz hy]
 simp only [eo,zqs]at ht
 have:=(jD ns ns 0).1 ht.2 _ y hy
 simp only [fo,zqs]at this
 exact this.1
theorem xO(bx:Bx)(p:Pl)(rtl:Bool)(ns:List ak):∀(ks:List Int)(st:St),(j9 bx p rtl ns ks st).1.length=ks.length
 | [],_=>rfl
 |k::r,st=>by simp only [j9,zqx,xO bx p rtl ns r]
theorem Fb{ns:List ak}(ht:eo ns=true){bx:Bx}(hb:∀k w h st,Ej (bx k w h st).1)(p:Pl)(rtl:Bool){ks:List Int}(hk:∀k∈ks,isN ns k=true)(hkl:ks.length≤12)(st:St):dT (j9 bx p rtl ns ks st).1=true:=by
 simp only [dT,zqs,zqf,zqp]
 refine⟨CZ p rtl ns ks st (fun k _=>hb k) fun k hkm=> ?_,by rw [xO];omega⟩
 have:=E9 ht (hk k hkm)
 simp only [zq,stN,zqs]at this
 exact⟨this.1.2.2.2.2.2.2.2.1,this.1.2.2.2.2.2.2.2.2.1⟩
def cN:Nat→Nat
 |0=>0
 |f+1=>40*cN f+1
theorem DR{V:LLA}{rtl keeps:Bool}{bx:Bx}{c L:Nat}{ns:List ak}{n:Int}(hk:∀kid∈flK ns n,yr V rtl keeps bx c L kid)(hkl:(flK ns n).length<20)(w h:aw)(st:St):(wD bx ns rtl n w h st).2.1.length≤st.1.length+(40*c+1)∧(wD bx ns rtl n w h st).2.2.length≤st.2.length+(40*c+1):=by
 unfold wD
 split
 ·dsimp only
  rw [zqe,zqm]
  omega
 ·split
  ·dsimp only;omega
  ·unfold B5
   dsimp only
   rw [show(plO ns n w h).kids=flK ns n from rfl]
   have h1:=wK (V:=V) (rtl:=rtl) (keeps:=keeps) (L:=L) (plO ns n w h) ns (flK ns n) st hk
   obtain⟨ra,hra⟩:=nmE (j9 bx (plO ns n w h) rtl ns (flK ns n) st)
   rw [←hra]at h1⊢
   have h2:=wu (V:=V) (rtl:=rtl) (keeps:=keeps) (L:=L) (plO ns n w h) ns ((flK ns n).zip (pb (plO ns n w h) ra.1)) ra.2 fun k hkm=>hk k.1 (by obtain⟨a,b⟩:=k;exact(List.of_mem_zip hkm).1)
   rw [zqB,mK,h1.1,Nat.min_self]at h2
   have hb:(flK ns n).length*c≤20*c:=Nat.mul_le_mul_right c (by omega)
   have h3:=h1.2
   have h4:=h2.2
   omega
theorem Dg(ns:List ak)(rtl:Bool)(f:Nat)(n:Int)(w h:aw)(st:St):uR false ns rtl (f+1) n w h st=wD (uR false ns rtl f) ns rtl n w h st:=by
 show kpF false rtl (wD (uR false ns rtl f) ns rtl) n w h st=_
 unfold kpF
 rw [if_pos rfl]
theorem qe{ns:List ak}(hl:ns.length≤1048576)(hs:∀y∈ns,ak.small y)(ht:eo ns=true)(rtl:Bool):∀(f:Nat)(n:Int),isN ns n=true→5≤uF ns n+(f:Int)→yr (vwA ak.ac ns) rtl false (uR false ns rtl f) (cN f) 1073741824 n
 |0,n,hn,hd=>by have:=lu ht hn;omega
 |f+1,n,hn,hd=>by
  obtain⟨n1,n2,x,hx⟩:=bF hn
  have hkl:=s5 ht n1 hx
  have hkd:=i8 ht n1 hx
  have hb:∀kid∈flK ns n,yr (vwA ak.ac ns) rtl false (uR false ns rtl f) (cN f) 1073741824 kid:=fun kid hk=>by
   have hm:=qK hx kid hk
   have:=Aj ht n1 hx kid hm
   exact qe hl hs ht rtl f kid (hkd kid hm) (by omega)
  have hk12:(flK ns n).length≤12:=by rw [nM hx,kD];exact Nat.le_trans (List.length_filter_le _ _) hkl
  have hkF:∀k∈flK ns n,isN ns k=true:=fun k h=>hkd k (qK hx k h)
  refine⟨fun w h st=>by rw [Dg];exact DR hb (by omega) w h st,fun w0 w1 h0 h1 st hm hq=> ?_⟩
  rw [Dg]
  have hI:=Fb ht (GH ns rtl f) (plO ns n ⟨w0,w1⟩ ⟨h0,h1⟩) rtl hkF hk12 st
  refine re _ rtl n _ _ _ _ _ w0 w1 h0 h1 (bX _) (bZ _) (bX _) (bZ _) (q9 ns hl hs ht rtl false (uR false ns rtl f) (cN f) 1073741824 (Nat.le_refl _) n x hn hx w0 w1 h0 h1 hb st hm hq (fun I hI2 l hll=> ?_) (fun I st1 hI2 cs hcs=> ?_))
  ·subst hI2;exact A6 hI l hll
  ·have e:I=(j9 (uR false ns rtl f) (plO ns n ⟨w0,w1⟩ ⟨h0,h1⟩) rtl ns (flK ns n) st).1:=by rw [←hI2]
   rw [hcs]
   exact A7 (by rw [e];exact hI) (EP ns n _ _) _
theorem zK{ns:List ak}(hl:ns.length≤1048576)(hs:∀y∈ns,ak.small y)(ht:eo ns=true)(rtl:Bool){kid:Int}(hk:isN ns kid=true):yr (vwA ak.ac ns) rtl false (uR false ns rtl 4) 65641 1073741824 kid:=
 qe hl hs ht rtl 4 kid hk (by have:=lu ht hk;omega)
def st0:St:=([],[])
theorem SM0:SM st0.1=[]:=rfl
theorem SA0:SA st0.2=[]:=rfl
theorem Fc(ns:List ak)(rtl:Bool)(p:Pl)(ks:List Int)(st:St):(j9 (uR false ns rtl 4) p rtl ns ks st).1=uh (uQ ns rtl 4) p rtl ns ks:=ug (yf ns rtl 4) p rtl ns ks st
theorem pI(ns:List ak)(hl:ns.length≤1048576)(hs:∀y∈ns,ak.small y)(n a b c d:Int)(rtl:Bool):PC0 37 [.agg [.view (vwA ak.ac ns)],ai n,agP ⟨a,b⟩,agP ⟨c,d⟩,abl rtl] (.t (.c (.view (vw ah.c (kiO ns n ⟨a,b⟩ ⟨c,d⟩ rtl))))):=by
 have cO:=kl ns hl hs n a b c d
 unfold kiO
 cases hO:vG ns n ⟨a,b⟩ ⟨c,d⟩
 case false=>
  rw [hO]at cO
  simp only [if_true]
  rw [show vw ah.c ([]:List ah)=[]from rfl]
  obtain⟨V,hV⟩:=nmE (vwA ak.ac ns)
  rw [←hV]at cO⊢
  refine iy (t:=121) (k:=9) (V:=[]) ?_ (fun x hx=>by cases hx) (fun x hx=>by cases hx)
  refine gC ([(3,.hand)]) ([]) (c:=aK f37) aD func37 (by kernel_rfl) (by kernel_rfl) (by rfl) (by kernel_rfl) fun g eff hd F heff hhd hg hF=> ?_
  cbv
  repeat'((first|refine ad hg cO ?_|refine aa hg cO ?_);cbv)
  exact bP hF rfl rfl
 obtain⟨hT,hI,n1,n2,x,hx,hkl,hkd⟩:=qB hO
 rw [hO]at cO
 simp only [Bool.true_eq_false,if_false]
 obtain⟨hf1,hf2⟩:=qL hx hkl hkd
 obtain⟨p,hp⟩:=nmE (plO ns n ⟨a,b⟩ ⟨c,d⟩)
 have hpk:p.kids=flK ns n:=by rw [hp];rfl
 have cp:=mL ns hl hs hT n x n1 n2 hx hkl hkd a b c d p hp
 have cB:=ik ns hl rtl false (uR false ns rtl 4) 65641 1073741824 n p (by rw [hpk];omega) (by rw [hpk];exact hf2) (fun kid h=>zK hl hs hT rtl (hf2 kid (by rw [←hpk];exact h))) st0 (by decide) (by decide)
 rw [Fc,SM0,SA0]at cB
 rw [←hp,←hpk]
 obtain⟨st1,hst1⟩:=nmE ((j9 (uR false ns rtl 4) p rtl ns p.kids st0).2)
 rw [←hst1]at cB
 have pM2:=bX st1.1
 have pA2:=bZ st1.2
 obtain⟨M2,hM2⟩:=nmE (SM st1.1);(try rw [←hM2]at cB);(try rw [←hM2]at pM2)
 obtain⟨A2,hA2⟩:=nmE (SA st1.2);(try rw [←hA2]at cB);(try rw [←hA2]at pA2)
 obtain⟨X,hX⟩:=nmE (vw ah.c (uh (uQ ns rtl 4) p rtl ns p.kids));(try rw [←hX]at cB);(try rw [←hX]at⊢)
 obtain⟨K,hK⟩:=nmE (vw ao p.kids);(try rw [←hK]at cp);(try rw [←hK]at cB)
 obtain⟨KW,hKW⟩:=nmE (knS p.wide);(try rw [←hKW]at cp);(try rw [←hKW]at cB)
 obtain⟨V,hV⟩:=nmE (vwA ak.ac ns)
 rw [←hV]at cO cp cB⊢
 clear hK hX hp hpk hM2 hA2 hst1 hKW hV
 obtain⟨s,row,pw,ph,iw,ih,al,ac,ks⟩:=p
 refine gC ([(3,.hand)]) ([]) (c:=aK f37) aD func37 (by kernel_rfl) (by kernel_rfl) (by rfl) (by kernel_rfl) fun g eff hd F heff hhd hg hF=> ?_
 cbv
 repeat'((first|refine ad hg cO ?_|refine aa hg cO ?_);cbv)
 refine ek hg hhd aD [0,1,2,4,5,6,7,8] (.op 3 [] (.op 9 [10] .done .none) .none) (by kernel_rfl) (by kernel_rfl) (S:=Unit) (fun _=>True) (fun _=>[(10,.v X)]) (fun _=>[]) (fun BL hBL=> ?_) (fun _ _=> ?_)
 ·cbv
  ((repeat'(first|exact trivial|exact rfl|refine And.intro ?_ ?_|((first|refine ad hg cp ?_|refine aa hg cp ?_);cbv))))
  refine AP rfl hg 4 rfl [.bx 32 1 [.view V],.bx 28 2 [.J a,.J b],.bx 28 2 [.J c,.J d],.bx 79 5 [.view V,.B rtl,.B false,.own 4,.own 5],.rw ⟨199,10,[]⟩,.rw ⟨206,6,[]⟩] [.c (.ptr 3 0 0),.agg (nwL n s row al ac KW (.view K))] [some 0,some 1,some 2,some 3,none,none] (wkM [some 0,some 1,some 2,some 3,none,none] ⟨⟨rfl,.inl ⟨rfl,rfl⟩,trivial⟩,trivial⟩ ⟨.inr (wqE rfl rfl),.inr (wqE rfl rfl),.inr (wqE rfl rfl),.inr ⟨_,_,rfl,rfl,rfl,rfl,.inr ⟨⟨rfl,rfl,rfl,rfl,rfl,trivial⟩,trivial⟩⟩,.inr ⟨_,rfl,rfl⟩,.inr ⟨_,rfl,rfl⟩,trivial⟩ (by decide) ⟨.inr rfl,.inr rfl,.inr rfl,.inr rfl,trivial⟩ ⟨.inr ⟨_,rfl⟩,.inr ⟨_,rfl⟩,.inr ⟨_,rfl⟩,.inr ⟨_,rfl⟩,trivial⟩) ?_
  (refine iC rfl hg 3 4 5 cB rfl rfl rfl (by decide) rfl rfl rfl ⟨rfl,.inl ⟨rfl,rfl⟩,trivial⟩ rfl ?_;cbv)
  (repeat'(first|exact trivial|exact rfl|((first|refine aa hg cp ?_|refine ad hg cp ?_);cbv)|exact hBL () trivial _ _ (Wk.weak (wkG [] ⟨rfl,trivial⟩ trivial (by decide) aI))|refine And.intro ?_ ?_))
 cbv
 exact dY hF rfl ⟨rfl,rfl⟩
theorem pz(ns:List ak)(hl:ns.length≤1048576)(hs:∀y∈ns,ak.small y)(n a b c d:Int)(rtl:Bool):PC0 31 [.agg [.view (vwA ak.ac ns)],ai n,agP ⟨a,b⟩,agP ⟨c,d⟩,abl rtl] (.t (.c (.view (vw ao (kzO ns n ⟨a,b⟩ ⟨c,d⟩ rtl))))):=by
 have cO:=kl ns hl hs n a b c d
 unfold kzO
 cases hO:vG ns n ⟨a,b⟩ ⟨c,d⟩
 case false=>
  rw [hO]at cO
  simp only [if_true]
  rw [show vw ao ([]:List Int)=[]from rfl]
  obtain⟨V,hV⟩:=nmE (vwA ak.ac ns)
  rw [←hV]at cO⊢
  refine iy (t:=3) (k:=1) (V:=[]) ?_ (fun x hx=>by cases hx) (fun x hx=>by cases hx)
  refine gC ([(4,.hand)]) ([]) (c:=aK f31) aD func31 (by kernel_rfl) (by kernel_rfl) (by rfl) (by kernel_rfl) fun g eff hd F heff hhd hg hF=> ?_
  cbv
  repeat'((first|refine ad hg cO ?_|refine aa hg cO ?_);cbv)
  exact bP hF rfl rfl
 obtain⟨hT,hI,n1,n2,x,hx,hkl,hkd⟩:=qB hO
 rw [hO]at cO
 simp only [Bool.true_eq_false,if_false]
 obtain⟨hf1,hf2⟩:=qL hx hkl hkd
 obtain⟨p,hp⟩:=nmE (plO ns n ⟨a,b⟩ ⟨c,d⟩)
 have hpk:p.kids=flK ns n:=by rw [hp];rfl
 have cp:=mL ns hl hs hT n x n1 n2 hx hkl hkd a b c d p hp
 have cB:=ik ns hl rtl false (uR false ns rtl 4) 65641 1073741824 n p (by rw [hpk];omega) (by rw [hpk];exact hf2) (fun kid h=>zK hl hs hT rtl (hf2 kid (by rw [←hpk];exact h))) st0 (by decide) (by decide)
 rw [Fc,SM0,SA0]at cB
 rw [←hp,←hpk]
 obtain⟨st1,hst1⟩:=nmE ((j9 (uR false ns rtl 4) p rtl ns p.kids st0).2)
 rw [←hst1]at cB
 have pM2:=bX st1.1
 have pA2:=bZ st1.2
 obtain⟨M2,hM2⟩:=nmE (SM st1.1);(try rw [←hM2]at cB);(try rw [←hM2]at pM2)
 obtain⟨A2,hA2⟩:=nmE (SA st1.2);(try rw [←hA2]at cB);(try rw [←hA2]at pA2)
 have hIl:(uh (uQ ns rtl 4) p rtl ns p.kids).length≤1048576:=by rw [lI,hpk];omega
 obtain⟨I,hIi⟩:=nmE (uh (uQ ns rtl 4) p rtl ns p.kids)
 rw [←hIi]at cB hIl⊢
 have cS:=fun K=>ki n p.s p.row p.al p.ac (knS p.wide) K I hIl
 change∀K,PC0 _ _ (.t (.c (.view (vw ao (pb p I)))))at cS
 obtain⟨Z,hZ⟩:=nmE (vw ao (pb p I));(try rw [←hZ]at cS);(try rw [←hZ]at⊢)
 obtain⟨IV,hIV⟩:=nmE (vw ah.c I);(try rw [←hIV]at cB);(try rw [←hIV]at cS)
 obtain⟨K,hK⟩:=nmE (vw ao p.kids);(try rw [←hK]at cp);(try rw [←hK]at cB)
 replace cS:=cS K
 obtain⟨KW,hKW⟩:=nmE (knS p.wide);(try rw [←hKW]at cp);(try rw [←hKW]at cB);(try rw [←hKW]at cS)
 obtain⟨V,hV⟩:=nmE (vwA ak.ac ns)
 rw [←hV]at cO cp cB⊢
 clear hK hZ hIV hp hpk hM2 hA2 hst1 hKW hV hIl hIi
 obtain⟨s,row,pw,ph,iw,ih,al,ac,ks⟩:=p
 refine gC ([(4,.hand)]) ([]) (c:=aK f31) aD func31 (by kernel_rfl) (by kernel_rfl) (by rfl) (by kernel_rfl) fun g eff hd F heff hhd hg hF=> ?_
 cbv
 repeat'((first|refine ad hg cO ?_|refine aa hg cO ?_);cbv)
 (repeat'((first|refine ad hg cp ?_|refine aa hg cp ?_);cbv))
 refine ek hg hhd aD [0,1,2,3,5] (.op 4 [] (.op 6 [7,8] .done .none) .none) (by kernel_rfl) (by kernel_rfl) (S:=Unit) (fun _=>True) (fun _=>[(10,.v Z)]) (fun _=>[]) (fun BL hBL=> ?_) (fun _ _=> ?_)
 ·cbv
  ((repeat'(first|exact trivial|exact rfl|refine And.intro ?_ ?_)))
  refine AP rfl hg 5 rfl [.bx 32 1 [.view V],.bx 28 2 [.J a,.J b],.bx 28 2 [.J c,.J d],.bx 89 68 (nwL n s row al ac KW (.view K)),.bx 79 5 [.view V,.B rtl,.B false,.own 5,.own 6],.rw ⟨199,10,[]⟩,.rw ⟨206,6,[]⟩] [.c (.ptr 4 0 0),.agg (nwL n s row al ac KW (.view K))] [some 0,some 1,some 2,some 3,some 4,none,none] (wkM [some 0,some 1,some 2,some 3,some 4,none,none] ⟨⟨rfl,.inl ⟨rfl,rfl⟩,trivial⟩,trivial⟩ ⟨.inr (wqE rfl rfl),.inr (wqE rfl rfl),.inr (wqE rfl rfl),.inr (wqE rfl rfl),.inr ⟨_,_,rfl,rfl,rfl,rfl,.inr ⟨⟨rfl,rfl,rfl,rfl,rfl,trivial⟩,trivial⟩⟩,.inr ⟨_,rfl,rfl⟩,.inr ⟨_,rfl,rfl⟩,trivial⟩ (by decide) ⟨.inr rfl,.inr rfl,.inr rfl,.inr rfl,.inr rfl,trivial⟩ ⟨.inr ⟨_,rfl⟩,.inr ⟨_,rfl⟩,.inr ⟨_,rfl⟩,.inr ⟨_,rfl⟩,.inr ⟨_,rfl⟩,trivial⟩) ?_
  (repeat'((first|refine iC rfl hg 4 5 6 cB rfl rfl rfl (by decide) rfl rfl rfl ⟨rfl,.inl ⟨rfl,rfl⟩,trivial⟩ rfl ?_|refine ad hg cS ?_|refine aa hg cS ?_);cbv))
  (repeat'(first|exact trivial|exact rfl|((first|refine aa hg cS ?_|refine ad hg cS ?_);cbv)|exact hBL () trivial _ _ (Wk.weak (wkG [] ⟨rfl,trivial⟩ trivial (by decide) aI))|refine And.intro ?_ ?_))
 cbv
 exact dY hF rfl ⟨rfl,rfl⟩
end Go.Proofs.YtdnnffbbhijmkaaGreat
