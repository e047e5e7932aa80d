/- The law of KidBase. -/
import Derived.Test.YtdnnffbbhijmkaaGreatKbs
set_option linter.unusedVariables false
set_option linter.unusedSimpArgs false
set_option maxHeartbeats 32000000
namespace Go.Proofs.YtdnnffbbhijmkaaGreat
open Go.ChangeShapes Go.WideShapes Go.ChangeAt Go.RowKit Am Go.Proofs.Tryz
set_option maxRecDepth 100000
theorem D3(qs:List jT)(x:jT):SA (qs++[x])=SA qs++[lc (jT.c x)]:=bA _ _ _
theorem uF{α:Type}(c:α→Array Value):vw c ([]:List α)=[]:=rfl
theorem qG(ns:List ak)(hl:ns.length≤1048576)(hs:∀y∈ns,ak.small y)(ht:ei ns=true)(rtl keeps:Bool)(bx:Bx)(c L:Nat)(hL:L≤1073741824)(n:Int)(x:ak)(h1:isN ns n=true)(hx:ns[(n-1).toNat]? =some x)(w0 w1 h0' h1':Int)(hbx:∀kid∈flK ns n,xZ (vwA ak.ac ns) rtl keeps bx c L kid)(st:St)(hm:st.1.length+(40*c+1)≤L)(hq:st.2.length+(40*c+1)≤L)
  (hal:∀I,I=(lu bx (plO ns n ⟨w0,w1⟩ ⟨h0',h1'⟩) rtl ns (flK ns n) st).1→∀l∈mg (plO ns n ⟨w0,w1⟩ ⟨h0',h1'⟩) I,al5 (lit I l) (l.map (elZ (qF (plO ns n ⟨w0,w1⟩ ⟨h0',h1'⟩) I))) (AQ (plO ns n ⟨w0,w1⟩ ⟨h0',h1'⟩)) (AP (plO ns n ⟨w0,w1⟩ ⟨h0',h1'⟩) I)=true)
  (hac:∀I st1,(I,st1)=lu bx (plO ns n ⟨w0,w1⟩ ⟨h0',h1'⟩) rtl ns (flK ns n) st→∀cs,cs=wA (plO ns n ⟨w0,w1⟩ ⟨h0',h1'⟩) (mg (plO ns n ⟨w0,w1⟩ ⟨h0',h1'⟩) I) (sP bx (plO ns n ⟨w0,w1⟩ ⟨h0',h1'⟩) rtl ns ((flK ns n).zip (qF (plO ns n ⟨w0,w1⟩ ⟨h0',h1'⟩) I)) st1).1→acr cs (si (plO ns n ⟨w0,w1⟩ ⟨h0',h1'⟩)) (xU (plO ns n ⟨w0,w1⟩ ⟨h0',h1'⟩) cs)=true):
  SE prog 185 (sR (vwA ak.ac ns) rtl keeps) (SM st.1) (SA st.2) [.c (.ptr 0 0 0),ai n,agP ⟨w0,w1⟩,agP ⟨h0',h1'⟩] (.t (.agg (jE.ac (wi bx ns rtl n ⟨w0,w1⟩ ⟨h0',h1'⟩ st).1))) (SM (wi bx ns rtl n ⟨w0,w1⟩ ⟨h0',h1'⟩ st).2.1) (SA (wi bx ns rtl n ⟨w0,w1⟩ ⟨h0',h1'⟩ st).2.2):=by
 obtain⟨n1,n2,_⟩:=bB h1
 have hkd:=iT ht n1 hx
 have hkl:=sC ht n1 hx
 have hkF:∀k∈flK ns n,isN ns k=true:=fun k h=>hkd k (qq hx k h)
 have hKK:flK ns n=gP (ic ns) (x.kids.filter (lA ns)):=nx hx
 have hkFl:(flK ns n).length<20:=by rw [hKK,kq];exact Nat.lt_of_le_of_lt (List.length_filter_le _ _) (by omega)
 have cU:=mz ns n x hs ht hl n1 n2 hx (by omega) hkd w0 w1 h0' h1'
 rw [←hKK]at cU
 have cy:=bK ns n x n1 (by omega) hx (vwA ak.ac ns) _ _ rfl rfl rfl
 have hks:kst ns n=x.style:=ip hx
 have hnd:nod ns n=x:=Cz hx
 obtain⟨p,hp⟩:=nmE (plO ns n ⟨w0,w1⟩ ⟨h0',h1'⟩)
 have hcU:PC0 66 [.agg [.view (vwA ak.ac ns)],ai n,agP ⟨w0,w1⟩,agP ⟨h0',h1'⟩] (.t (.agg (nwL n p.s p.row p.al p.ac (knS p.wide) (.view (vw ao p.kids))))):=by
  rw [hp];unfold plO;rw [hks];exact cU
 clear cU
 have hpk:p.kids=flK ns n:=by rw [hp];rfl
 have hps:p.s=x.style:=by rw [hp];exact hks
 unfold wi
 rw [hnd,hks,←hp]
 have cF:=fun(hkn:p.kids≠[])=>qH ns hl rtl keeps bx c L n p w0 w1 h0' h1' (by rw [hp];rfl) (by rw [hp];rfl) hkn (by rw [hpk];exact hkFl) (by rw [hpk];exact hkF) (by rw [hpk];exact hbx) st (by omega) (by omega) (by rw [hpk,hp];exact hal _ rfl) (by rw [hpk,hp];exact hac _ _ rfl)
 clear hal hac hbx
 obtain⟨V,hV⟩:=nmE (vwA ak.ac ns)
 rw [←hV]at cy hcU⊢
 simp only [←hV]at cF
 obtain⟨Kx,hKx⟩:=nmE (vw ao x.kids)
 obtain⟨Rx,hRx⟩:=nmE (vw aJ.c x.table.rules)
 rw [←hKx,←hRx]at cy
 have hrl:x.table.rules.length≤1048576:=(hs x (zqd hx)).2.1
 have cFr:=fU x.style
 obtain⟨fe,hfe⟩:=nmE (nw x.style)
 rw [←hfe]at cFr
 obtain⟨fl,ft,fr,fb⟩:=fe
 have cWi:=gM fl ft fr fb
 have cHi:=gO fl ft fr fb
 obtain⟨B1,hB1⟩:=nmE (adE fl fr)
 obtain⟨B2,hB2⟩:=nmE (adE ft fb)
 change PC0 _ _ (.t (ai (adE fl fr)))at cWi
 change PC0 _ _ (.t (ai (adE ft fb)))at cHi
 rw [←hB1]at cWi
 rw [←hB2]at cHi
 obtain⟨M0,hM0⟩:=nmE (SM st.1)
 obtain⟨A0,hA0⟩:=nmE (SA st.2)
 have pM0:ah M0=true:=by rw [hM0];exact cj _
 have pA0:ah A0=true:=by rw [hA0];exact cu _
 have kn:∀g:Gd,g=G0 prog 3 f185.ntmps→g .q .gtr (g .ln (vw ao p.kids)) 0=decide (p.kids≠[]):=fun g hg=>by
  rw [bZ hg,bL hg,aM]
  cases p.kids with
  |nil=>rfl
  |cons a b=>exact decide_eq_decide.2 ⟨fun _=>by simp,fun _=>by simp only [zqx];omega⟩
 obtain⟨K,hK⟩:=nmE (vw ao p.kids)
 rw [←hK]at hcU kn
 simp only [←hK]at cF
 obtain⟨x0,x1,x2,x3,x4⟩:=x
 dsimp only at hps hfe hrl hKx hRx cFr cy⊢
 by_cases hme:x3=true
 case neg=>
  rw [if_neg hme]
  replace hme:x3=false:=by simpa using hme
  subst hme
  by_cases hkn:p.kids=[]
  case neg=>
   rw [if_neg (by rw [←hpk];exact hkn)]
   have cF:=cF hkn
   obtain⟨rr,hrr⟩:=nmE (BJ bx p rtl ns st)
   rw [←hrr]at cF⊢
   rw [acE]at cF⊢
   have pM2:=cj rr.2.1
   have pA2:=cu rr.2.2
   rw [←hM0,←hA0]at cF⊢
   obtain⟨M2,hM2⟩:=nmE (SM rr.2.1);(try rw [←hM2]at cF);(try rw [←hM2]at pM2);(try rw [←hM2]at⊢)
   obtain⟨A2,hA2⟩:=nmE (SA rr.2.2);(try rw [←hA2]at cF);(try rw [←hA2]at pA2);(try rw [←hA2]at⊢)
   obtain⟨FR,hFR⟩:=nmE (vw aX.c rr.1.frames);(try rw [←hFR]at cF);(try rw [←hFR]at⊢)
   obtain⟨KW,hKW⟩:=nmE (knS p.wide);(try rw [←hKW]at hcU);(try rw [←hKW]at cF)
   clear hKW hFR hM2 hA2 hM0 hA0 hK hp hpk hps hfe hB1 hB2 hV hKx hRx
   refine dt ([(9,.hand),(11,.hand)]) ([]) (c:=aN f185) aD func185 (by kernel_rfl) (by kernel_rfl) (bl (by rfl)) (by kernel_rfl) (fun g eff hd F heff hhd hg hF=> ?_)
   have kn:=kn g hg
   rw [zqu hkn]at kn
   cbv
   ((repeat'((first|rw [kn]|refine ad hg cy ?_|refine aa hg cy ?_|refine ad hg cFr ?_|refine aa hg cFr ?_|refine ad hg hcU ?_|refine aa hg hcU ?_|refine jd rfl hg 0 1 2 cF rfl rfl rfl (by decide) rfl pM0 pA0 ⟨rfl,.inl ⟨rfl,rfl⟩,.inl ⟨rfl,rfl⟩,.inl ⟨rfl,rfl⟩,trivial⟩ rfl ?_);cbv)))
   exact rG 9 10 hF rfl rfl rfl rfl rfl (by decide) rfl pM2 pA2
  rw [if_pos (by rw [←hpk];exact hkn)]
  dsimp only
  rw [acE]
  unfold yt
  dsimp only
  rw [←hfe]
  dsimp only
  rw [←hB1,←hB2,uF,←hM0,←hA0]
  obtain⟨WT,hWT⟩:=nmE (wrap64 (0+B1))
  obtain⟨HT,hHT⟩:=nmE (wrap64 (0+B2))
  rw [←hWT,←hHT]
  have cT1:=dF w0 w1 WT
  have cT2:=dF h0' h1' HT
  obtain⟨R1,hR1⟩:=nmE (tak ⟨w0,w1⟩ WT);(try rw [←hR1]at cT1);(try rw [←hR1]at⊢)
  obtain⟨R2,hR2⟩:=nmE (tak ⟨h0',h1'⟩ HT);(try rw [←hR2]at cT2);(try rw [←hR2]at⊢)
  obtain⟨KW,hKW⟩:=nmE (knS p.wide);(try rw [←hKW]at hcU)
  refine uV (t:=45) (k:=5) (V:=[]) (R:= .t (.agg [.J R1,.J R2,.J R2,.own 5])) ?_ (fun x hx=>by cases hx) (fun x hx=>by cases hx) rfl rfl rfl
  have t1:∀g:Gd,g=G0 prog 3 f185.ntmps→g .w .add .i64 0 B1=WT:=fun g hg=>by rw [aK hg,hWT]
  have t2:∀g:Gd,g=G0 prog 3 f185.ntmps→g .w .add .i64 0 B2=HT:=fun g hg=>by rw [aK hg,hHT]
  clear hKW hR1 hR2 hWT hHT hM0 hA0 hK hp hpk hps hfe hB1 hB2 hV hKx hRx cF
  refine dt ([(9,.hand),(11,.hand)]) ([]) (c:=aN f185) aD func185 (by kernel_rfl) (by kernel_rfl) (bl (by rfl)) (by kernel_rfl) (fun g eff hd F heff hhd hg hF=> ?_)
  have kn:=kn g hg
  have t1:=t1 g hg
  have t2:=t2 g hg
  rw [zqt (Classical.not_not.2 hkn)]at kn
  cbv
  ((repeat'((first|rw [kn]|refine ad hg cy ?_|refine aa hg cy ?_|refine ad hg cFr ?_|refine aa hg cFr ?_|refine ad hg hcU ?_|refine aa hg hcU ?_);cbv)))
  refine eG hg hhd aD [0,1,2,3,4,5,6,7,8,9,10,11] (.op 12 [13] (.op 14 [] (.op 15 [] .done .none) .none) (.op 14 [] (.op 12 [13] (.op 15 [] .done .none) .none) .none)) (by kernel_rfl) (by kernel_rfl) (S:=Unit) (fun _=>True) (fun _=>[(8,.p 5),(14,.p 6)]) (fun _=>[.bx 79 5 [.view V,.B rtl,.B keeps,.own 1,.own 2],.rw ⟨199,10,M0⟩,.rw ⟨206,6,A0⟩,.bx 28 2 [.J w0,.J w1],.bx 28 2 [.J h0',.J h1'],.bx 64 4 [.J 0,.J 0,.J 0,.imm (.slice none 0 0)],.bx 64 4 [.J R1,.J R2,.J 0,.own 7],.rw ⟨45,5,[]⟩]) (fun BL hBL=> ?_) (fun _ _=> ?_)
  ·cbv
   ((repeat'(first|exact trivial|exact rfl|refine And.intro ?_ ?_|(rw [t1];(try cbv))|(rw [t2];(try cbv))|((first|refine ad hg cT1 ?_|refine aa hg cT1 ?_|refine ad hg cT2 ?_|refine aa hg cT2 ?_|refine ad hg cWi ?_|refine aa hg cWi ?_|refine ad hg cHi ?_|refine aa hg cHi ?_);cbv))))
   all_goals first
    |exact hBL () trivial _ _ (Wk.weak (wkM [some 0,some 1,some 2,some 3,some 4,some 5,some 10,some 9] ⟨rfl,rfl,trivial⟩ ⟨.inr ⟨_,_,rfl,rfl,rfl,rfl,.inr ⟨⟨rfl,rfl,rfl,rfl,rfl,trivial⟩,trivial⟩⟩,.inr (wqE rfl pM0),.inr (wqE rfl pA0),.inr (wqE rfl rfl),.inr (wqE rfl rfl),.inr (wqE rfl rfl),.inr ⟨_,_,rfl,rfl,rfl,rfl,.inr ⟨⟨rfl,rfl,rfl,rfl,trivial⟩,trivial⟩⟩,.inr (wqE rfl rfl),trivial⟩ (by decide) ⟨.inr rfl,.inr rfl,.inr rfl,trivial⟩ ⟨.inr ⟨_,rfl⟩,.inr ⟨_,rfl⟩,.inr ⟨_,rfl⟩,trivial⟩))
    |exact hBL () trivial _ _ (Wk.weak (wkM [some 0,some 1,some 2,some 3,some 4,some 5,some 9,some 10] ⟨rfl,rfl,trivial⟩ ⟨.inr ⟨_,_,rfl,rfl,rfl,rfl,.inr ⟨⟨rfl,rfl,rfl,rfl,rfl,trivial⟩,trivial⟩⟩,.inr (wqE rfl pM0),.inr (wqE rfl pA0),.inr (wqE rfl rfl),.inr (wqE rfl rfl),.inr (wqE rfl rfl),.inr ⟨_,_,rfl,rfl,rfl,rfl,.inr ⟨⟨rfl,rfl,rfl,rfl,trivial⟩,trivial⟩⟩,.inr (wqE rfl rfl),trivial⟩ (by decide) ⟨.inr rfl,.inr rfl,.inr rfl,trivial⟩ ⟨.inr ⟨_,rfl⟩,.inr ⟨_,rfl⟩,.inr ⟨_,rfl⟩,trivial⟩))
  cbv
  exact Ad 1 2 7 hF rfl (.inr ⟨rfl,rfl,rfl,rfl,trivial⟩) rfl rfl rfl rfl (by decide) rfl pM0 pA0 rfl
 rw [if_pos hme]
 subst hme
 have hiw:inW x2 ⟨w0,w1⟩=o4 ⟨w0,w1⟩ B1:=by unfold inW sj;rw [←hfe,hB1];rfl
 have cIn:=eI w0 w1 B1
 rw [hiw]
 obtain⟨⟨i0,i1⟩,hI⟩:∃q,q=o4 ⟨w0,w1⟩ B1:=⟨_,rfl⟩
 change PC0 _ _ (.t (agP (o4 ⟨w0,w1⟩ B1)))at cIn
 rw [←hI]at cIn⊢
 have cRo:=gN i0 i1
 obtain⟨RO,hRO⟩:=nmE (jU ⟨i0,i1⟩);(try rw [←hRO]at cRo);(try rw [←hRO]at⊢)
 have cW:=pn x4.rules RO hrl
 rw [←hRx]at cW
 obtain⟨⟨q0,q1⟩,hqq⟩:∃q,q=wnt x4.rules RO:=⟨_,rfl⟩
 rw [←hqq]at cW⊢
 dsimp only
 rw [acE]
 unfold yt
 dsimp only
 rw [←hfe]
 dsimp only
 rw [←hB1,←hB2,uF,D3,←hM0,←hA0]
 obtain⟨WT,hWT⟩:=nmE (wrap64 (q0+B1))
 obtain⟨HT,hHT⟩:=nmE (wrap64 (q1+B2))
 rw [←hWT,←hHT]
 have cT1:=dF w0 w1 WT
 have cT2:=dF h0' h1' HT
 obtain⟨R1,hR1⟩:=nmE (tak ⟨w0,w1⟩ WT);(try rw [←hR1]at cT1);(try rw [←hR1]at⊢)
 obtain⟨R2,hR2⟩:=nmE (tak ⟨h0',h1'⟩ HT);(try rw [←hR2]at cT2);(try rw [←hR2]at⊢)
 obtain⟨KW,hKW⟩:=nmE (knS p.wide);(try rw [←hKW]at hcU)
 have hAl:A0.length≤1073741824:=by rw [hA0];unfold SA;rw [af];omega
 obtain⟨A2,hA2⟩:∃A,A=A0++[[.J n,.J w0,.J w1,.J h0',.J h1',.B rtl]]:=⟨_,rfl⟩
 have pA2:ah A2=true:=by rw [hA2,hA0];unfold SA;exact iU _ _ rfl
 change SE _ _ _ _ _ _ _ _ (A0++[[.J n,.J w0,.J w1,.J h0',.J h1',.B rtl]])
 rw [←hA2]
 refine uV (t:=45) (k:=5) (V:=[]) (R:= .t (.agg [.J R1,.J R2,.J R2,.own 5])) ?_ (fun x hx=>by cases hx) (fun x hx=>by cases hx) rfl rfl rfl
 have t1:∀g:Gd,g=G0 prog 3 f185.ntmps→g .w .add .i64 q0 B1=WT:=fun g hg=>by rw [aK hg,hWT]
 have t2:∀g:Gd,g=G0 prog 3 f185.ntmps→g .w .add .i64 q1 B2=HT:=fun g hg=>by rw [aK hg,hHT]
 clear hKW hR1 hR2 hWT hHT hM0 hA0 hK hp hpk hps hfe hB1 hB2 hV hKx hRx cF hqq hRO hI hiw kn
 refine dt ([(9,.hand),(11,.hand)]) ([]) (c:=aN f185) aD func185 (by kernel_rfl) (by kernel_rfl) (bl (by rfl)) (by kernel_rfl) (fun g eff hd F heff hhd hg hF=> ?_)
 have t1:=t1 g hg
 have t2:=t2 g hg
 cbv
 ((repeat'((first|refine ad hg cy ?_|refine aa hg cy ?_|refine ad hg cFr ?_|refine aa hg cFr ?_|refine ad hg hcU ?_|refine aa hg hcU ?_);cbv)))
 refine eG hg hhd aD [0,1,2,3,5,6,7,8,9,10,11,12] (.op 4 [] (.op 13 [] (.op 14 [15,16] (.op 17 [] .done .none) .none) .none) (.op 13 [] (.op 4 [] (.op 14 [15,16] (.op 17 [] .done .none) .none) .none) .none)) (by kernel_rfl) (by kernel_rfl) (S:=Unit) (fun _=>True) (fun _=>[(0,.p 0),(6,.p 3),(7,.p 4),(8,.p 5),(9,.p 6),(10,.p 7),(12,.t (ai (0))),(13,.t (ai (0)))]) (fun _=>[.bx 79 5 [.view V,.B rtl,.B keeps,.own 1,.own 8],.rw ⟨199,10,M0⟩,.gn,.bx 28 2 [.J w0,.J w1],.bx 28 2 [.J h0',.J h1'],.bx 64 4 [.J 0,.J 0,.J 0,.imm (.slice none 0 0)],.bx 148 64 (Bj ⟨x0,x1,x2,true,x4⟩ Kx Rx),.bx 85 4 [.J fl,.J ft,.J fr,.J fb],.rw ⟨206,6,A2⟩]) (fun BL hBL=> ?_) (fun _ _=> ?_)
 ·cbv
  ((repeat'(first|exact trivial|exact rfl|refine And.intro ?_ ?_|(refine Gb hg rfl (by decide) hAl ?_;cbv))))
  all_goals
   rw [gz hg,←hA2]
   exact hBL () trivial _ _ (Wk.weak (wkM [some 0,some 1,none,some 3,some 4,some 5,some 6,some 7,some 10] ⟨rfl,rfl,rfl,rfl,rfl,rfl,rfl,rfl,trivial⟩ ⟨.inr ⟨_,_,rfl,rfl,rfl,rfl,.inr ⟨⟨rfl,rfl,rfl,rfl,rfl,trivial⟩,trivial⟩⟩,.inr (wqE rfl pM0),.inl rfl,.inr (wqE rfl rfl),.inr (wqE rfl rfl),.inr (wqE rfl rfl),.inr (wqE rfl rfl),.inr (wqE rfl rfl),.inr (wqE rfl pA2),trivial⟩ (by decide) ⟨.inl rfl,.inr rfl,.inr rfl,trivial⟩ ⟨.inl rfl,.inr ⟨_,rfl⟩,.inr ⟨_,rfl⟩,trivial⟩))
 cbv
 ((repeat'((first|refine ad hg cWi ?_|refine aa hg cWi ?_|refine ad hg cIn ?_|refine aa hg cIn ?_|refine ad hg cRo ?_|refine aa hg cRo ?_|refine ad hg cW ?_|refine aa hg cW ?_);cbv)))
 refine eG hg hhd aD [0,1,2,3,4,5,6,7,8,9,10,11] (.op 12 [13] (.op 14 [] (.op 15 [] .done .none) .none) (.op 14 [] (.op 12 [13] (.op 15 [] .done .none) .none) .none)) (by kernel_rfl) (by kernel_rfl) (S:=Unit) (fun _=>True) (fun _=>[(8,.p 5),(14,.p 6)]) (fun _=>[.bx 79 5 [.view V,.B rtl,.B keeps,.own 1,.own 8],.rw ⟨199,10,M0⟩,.gn,.bx 28 2 [.J w0,.J w1],.bx 28 2 [.J h0',.J h1'],.bx 64 4 [.J 0,.J 0,.J 0,.imm (.slice none 0 0)],.bx 64 4 [.J R1,.J R2,.J 0,.own 7],.rw ⟨45,5,[]⟩,.rw ⟨206,6,A2⟩]) (fun BL hBL=> ?_) (fun _ _=> ?_)
 ·cbv
  ((repeat'(first|exact trivial|exact rfl|refine And.intro ?_ ?_|(rw [t1];(try cbv))|(rw [t2];(try cbv))|((first|refine ad hg cT1 ?_|refine aa hg cT1 ?_|refine ad hg cT2 ?_|refine aa hg cT2 ?_|refine ad hg cWi ?_|refine aa hg cWi ?_|refine ad hg cHi ?_|refine aa hg cHi ?_);cbv))))
  all_goals first
   |exact hBL () trivial _ _ (Wk.weak (wkM [some 0,some 1,none,some 3,some 4,some 5,some 10,some 9,some 8] ⟨rfl,rfl,trivial⟩ ⟨.inr ⟨_,_,rfl,rfl,rfl,rfl,.inr ⟨⟨rfl,rfl,rfl,rfl,rfl,trivial⟩,trivial⟩⟩,.inr (wqE rfl pM0),.inl rfl,.inr (wqE rfl rfl),.inr (wqE rfl rfl),.inr (wqE rfl rfl),.inr ⟨_,_,rfl,rfl,rfl,rfl,.inr ⟨⟨rfl,rfl,rfl,rfl,trivial⟩,trivial⟩⟩,.inr (wqE rfl rfl),.inr (wqE rfl pA2),trivial⟩ (by decide) ⟨.inl rfl,.inr rfl,.inr rfl,trivial⟩ ⟨.inl rfl,.inr ⟨_,rfl⟩,.inr ⟨_,rfl⟩,trivial⟩))
   |exact hBL () trivial _ _ (Wk.weak (wkM [some 0,some 1,none,some 3,some 4,some 5,some 9,some 10,some 8] ⟨rfl,rfl,trivial⟩ ⟨.inr ⟨_,_,rfl,rfl,rfl,rfl,.inr ⟨⟨rfl,rfl,rfl,rfl,rfl,trivial⟩,trivial⟩⟩,.inr (wqE rfl pM0),.inl rfl,.inr (wqE rfl rfl),.inr (wqE rfl rfl),.inr (wqE rfl rfl),.inr ⟨_,_,rfl,rfl,rfl,rfl,.inr ⟨⟨rfl,rfl,rfl,rfl,trivial⟩,trivial⟩⟩,.inr (wqE rfl rfl),.inr (wqE rfl pA2),trivial⟩ (by decide) ⟨.inl rfl,.inr rfl,.inr rfl,trivial⟩ ⟨.inl rfl,.inr ⟨_,rfl⟩,.inr ⟨_,rfl⟩,trivial⟩))
 cbv
 exact Ad 1 8 7 hF rfl (.inr ⟨rfl,rfl,rfl,rfl,trivial⟩) rfl rfl rfl rfl (by decide) rfl pM0 pA2 rfl
theorem qI(V:List (List AC))(rtl:Bool)(kid:Int)(bb:jE)(M A0 M2 A2:List (List AC))(w0 w1 h0' h1':Int)(pM:ah M=true)(pA:ah A0=true)(pM2:ah M2=true)(pA2:ah A2=true)(hc:SE prog 185 (sR V rtl false) M A0 [.c (.ptr 0 0 0),ai kid,agP ⟨w0,w1⟩,agP ⟨h0',h1'⟩] (.t (.agg (jE.ac bb))) M2 A2):
  SE prog 99 (sR V rtl false) M A0 [.c (.ptr 0 0 0),ai kid,agP ⟨w0,w1⟩,agP ⟨h0',h1'⟩] (.t (.agg (jE.ac bb))) M2 A2:=by
 rw [acE]at hc⊢
 obtain⟨FR,hFR⟩:=nmE (vw aX.c bb.frames);(try rw [←hFR]at hc);(try rw [←hFR]at⊢)
 clear hFR
 refine dt ([(7,.hand),(10,.hand)]) ([]) (c:=aN f99) aD func99 (by kernel_rfl) (by kernel_rfl) (bl (by rfl)) (by kernel_rfl) (fun g eff hd F heff hhd hg hF=> ?_)
 cbv
 (refine jd rfl hg 0 1 2 hc rfl rfl rfl (by decide) rfl pM pA ⟨rfl,rfl,.inl ⟨rfl,rfl⟩,.inl ⟨rfl,rfl⟩,trivial⟩ rfl ?_;cbv)
 exact rG 6 7 hF rfl rfl rfl rfl rfl (by decide) rfl pM2 pA2
def inR(n:Int):Prop:=0≤n∧n≤1048576
theorem uk(n:Int):inR (cl n):=by unfold inR cl bro;split<;>(try split)<;>omega
theorem EU{x:aj}(h:rq x=true):inR (hyp x):=by
 simp only [rq,rng,zqs,zqp]at h
 unfold inR hyp gK
 split<;>(try split)<;>(try split)<;>omega
theorem zd:∀(ps:List (Int×Int))(l:List Int),(∀p∈ps,inR p.2)→(∀v∈l,inR v)→∀v∈oK ps l,inR v
 | [],l,_,h=>h
 |p::ps,l,hp,h=>by
  refine zd ps (l.set p.1.toNat p.2) (fun q hq=>hp q (List.mem_cons_of_mem _ hq)) fun v hv=> ?_
  rcases List.mem_or_eq_of_mem_set hv with h1|h1
  ·exact h v h1
  ·rw [h1];exact hp p (List.mem_cons_self ..)
theorem CK{xs:List aj}{fr:List Bool}(hx:∀x∈xs,rq x=true)(hl:fr.length=xs.length){i:Int}(hi:i∈fre 0 fr):rq (itA xs i)=true:=by
 obtain⟨h1,h2,_⟩:=gG fr 0 (Int.le_refl 0) i hi
 have hlt:i.toNat<xs.length:=by omega
 have e:itA xs i=xs[i.toNat]:=by unfold itA;rw [zqc hlt];rfl
 rw [e];exact hx _ (List.getElem_mem _)
theorem itR{x:aj}(h:rq x=true):inR x.least∧(0≤x.most→inR (pd x)):=by
 simp only [rq,rng,zqs,zqp]at h
 unfold inR pd
 refine⟨by omega,fun h0=> ?_⟩
 split<;>omega
theorem Dj(X:Fx)(fr:List Bool)(rest:Int)(hx:∀x∈X.xs,rq x=true)(hl:fr.length=X.xs.length):∀p∈X.setI fr rest,inR p.2:=by
 intro p hp
 unfold Fx.setI at hp
 split at hp
 ·unfold Fx.shs at hp
  obtain⟨q,_,rfl⟩:=List.mem_map.1 hp
  exact uk _
 ·rcases List.mem_append.1 hp with h|h
  ·split at h
   ·obtain⟨i,hi,rfl⟩:=List.mem_map.1 h
    unfold Fx.low at hi
    exact(itR (CK hx hl (List.mem_filter.1 hi).1)).1
   ·cases h
  ·split at h
   ·obtain⟨i,hi,rfl⟩:=List.mem_map.1 h
    unfold Fx.hig at hi
    obtain⟨h1,h2⟩:=List.mem_filter.1 hi
    simp only [zqs,tX,zqp]at h2
    exact(itR (CK hx hl h1)).2 h2.2.1
   ·cases h
theorem zg(X:Fx)(hx:∀x∈X.xs,rq x=true):∀(k:Nat)(sz:List Int)(fr:List Bool)(r:List Int),fr.length=X.xs.length→(∀v∈sz,inR v)→X.runI k sz fr=some r→∀v∈r,inR v
 |0,sz,fr,r,_,_,h=>by simp [Fx.runI]at h
 |k+1,sz,fr,r,hl,hs,h=>by
  unfold Fx.runI at h
  split at h
  ·cases h;exact hs
  ·refine zg X hx k _ _ r ?_ (zd _ _ (Dj X fr _ hx hl) hs) h
   have:∀(is:List Int)(l:List Bool),(oh is l).length=l.length:=by
    intro is
    induction is with
    |nil=>intro l;rfl
    |cons i is ih=>intro l;show(oh is (l.set i.toNat true)).length=_;rw [ih,List.length_set]
   rw [this];exact hl
theorem E6{xs:List aj}(hx:∀x∈xs,rq x=true)(gap inner:Int):∀v∈flx xs gap inner,inR v:=by
 have hh:∀v∈xs.map hyp,inR v:=fun v hv=>by
  obtain⟨x,hxm,rfl⟩:=List.mem_map.1 hv
  exact EU (hx x hxm)
 unfold flx
 split
 ·cases hr:(Fx.of xs gap inner).runI 13 (xs.map hyp) (xs.map (lv (Aa xs gap inner)))with
  |none=>intro v hv;cases hv
  |some r=>exact zg (Fx.of xs gap inner) hx 13 _ _ r (by rw [zql];rfl) hh hr
 ·exact hh
theorem kI{n:Int}(h:inR n):rng n 0 1048576=true:=by
 unfold inR at h
 simp only [rng,zqs,zqp];exact h
theorem tJ{xs:List aj}(h:dT xs=true):(∀x∈xs,rq x=true)∧xs.length≤12:=by
 simp only [dT,zqs,zqf,zqp]at h
 exact⟨h.1,by omega⟩
theorem EC{xs:List aj}(h:dT xs=true)(gap room:Int)(wr:Bool)(inner:Int):∀v∈lsz xs gap room wr inner,inR v:=fun v hv=>by
 unfold lsz at hv
 obtain⟨l,_,hm⟩:=List.mem_flatMap.1 hv
 exact E6 (fun x hx=>(tJ h).1 x (zP hx)) gap inner v hm
theorem DQ{zs:List Int}(h:∀v∈zs,inR v)(i:Int):inR (elZ zs i):=by
 unfold elZ
 split
 ·cases hx:zs[i.toNat]? with
  |none=>exact⟨Int.le_refl 0,by decide⟩
  |some v=>exact h v (zqd hx)
 ·exact⟨Int.le_refl 0,by decide⟩
theorem Fq{I:List aj}{ZZ:List Int}(hI:dT I=true)(hZ:∀v∈ZZ,inR v){l:List Int}(hl:∀i∈l,0≤i∧i<(I.length:Int))(hll:l.length≤12){gap inner:Int}(hg:inR gap)(hin:inR inner):al5 (lit I l) (l.map (elZ ZZ)) gap inner=true:=by
 have e:=wm hl
 simp only [al5,zqs,zqf,zqp]
 refine⟨fun s hs=> ?_,?_,by rw [zql,e],kI hg,kI hin⟩
 ·obtain⟨i,_,rfl⟩:=List.mem_map.1 hs
  exact kI (DQ hZ i)
 ·simp only [dT,zqs,zqf,zqp]
  exact⟨fun x hx=>(tJ hI).1 x (zP hx),by rw [e];omega⟩
theorem lK(s:ay)(n:Int):inR (tak s n):=by unfold tak;split<;>exact uk _
theorem Ab(s:ar)(w:Bool):inR (iR s w):=by unfold iR;split<;>exact uk _
theorem AI{p:Pl}{I:List aj}(hI:dT I=true):∀l∈mg p I,al5 (lit I l) (l.map (elZ (qF p I))) (AQ p) (AP p I)=true:=fun l hl=>by
 unfold mg at hl
 exact Fq hI (EC hI _ _ _ _) (fun i hi=>tc hl hi) (Nat.le_trans (jp hl) (tJ hI).2) (Ab _ _) (lK _ _)
theorem wX(v:bO)(base:Int):rO v base= -1∨inR (rO v base):=by
 unfold rO;split
 ·exact .inl rfl
 ·exact .inr (uk _)
theorem Fr(a b:Int):inR (adE a b):=by unfold adE;exact uk _
theorem E4(s:ar)(w:Bool):inR (sj s w):=by unfold sj;split<;>exact Fr _ _
theorem ED(s:ar)(w:Bool)(base:Int):inR (zK s w base):=by
 have h1:=wX (if w then s.minWidth else s.minHeight) base
 have h2:=E4 s w
 show inR (if sj s w<orl (rO (if w then s.minWidth else s.minHeight) base) 0 then orl (rO (if w then s.minWidth else s.minHeight) base) 0 else sj s w)
 generalize rO (if w then s.minWidth else s.minHeight) base=a at *
 generalize sj s w=b at *
 unfold orl inR at *
 by_cases ha:a= -1
 ·rw [if_pos ha];split<;>omega
 ·rw [if_neg ha];split<;>omega
theorem Ez(s:bd)(sd:Int)(rtl:Bool)(base:Int):rng (oq s sd rtl base) (-1048576) 1048576=true:=by
 have:=Em (DD (pr s sd rtl) base)
 unfold oq
 split
 ·rfl
 ·simp only [rng,zqs,zqp];exact this
theorem Et(s:ar)(w:Bool)(o:Int):qY s w o= -1∨inR (qY s w o):=by
 unfold qY;split
 ·exact .inl rfl
 ·split<;>exact .inr (uk _)
def D4(b:jE):Prop:=inR b.wide∧inR b.high∧inR b.base
theorem Fl{bx:Bx}{kid:Int}(hb:∀w h st,D4 (bx kid w h st).1)(p:Pl)(rtl:Bool)(ns:List ak)(st:St):inR (uq bx p rtl ns kid st).1:=by
 unfold uq
 split
 ·rename_i hn
  show inR (Cc p (kst ns kid) rtl)
  have h1:=wX (kst ns kid).basis (knS p.al)
  have h2:=wX (if p.row then(kst ns kid).width else(kst ns kid).height) (knS p.al)
  have h3:=Et (kst ns kid) p.row (kcX p (kst ns kid) rtl).n
  unfold Cc at hn⊢
  split
  ·rename_i h;exact h1.resolve_left h
  ·rename_i h
   rw [if_neg h]at hn
   split
   ·rename_i h';exact h2.resolve_left h'
   ·rename_i h'
    rw [if_neg h']at hn
    split
    ·rename_i h''
     rw [if_pos h'']at hn
     exact h3.resolve_left hn
    ·rename_i h''
     rw [if_neg h'']at hn
     exact absurd rfl hn
 ·show inR (alB p.row (sw bx p.row kid _ _ st).1)
  unfold alB sw
  split
  ·exact(hb _ _ _).1
  ·exact(hb _ _ _).2.1
theorem CJ{bx:Bx}(p:Pl)(rtl:Bool)(ns:List ak):∀(ks:List Int)(st:St),(∀k∈ks,∀w h st,D4 (bx k w h st).1)→(∀k∈ks,rng (kst ns k).grow 0 1000=true∧rng (kst ns k).shrink 0 1000=true)→∀x∈(lu bx p rtl ns ks st).1,rq x=true
 | [],st,_,_,x,hx=>by simp [lu]at hx
 |k::r,st,hb,hg,x,hx=>by
  simp only [lu,List.mem_cons]at hx
  rcases hx with rfl|hx
  ·have h1:=Fl (hb k (List.mem_cons_self ..)) p rtl ns st
   have h2:=hg k (List.mem_cons_self ..)
   have h3:=wX (if p.row then(kst ns k).maxWidth else(kst ns k).maxHeight) (knS p.al)
   have h4:rng (AO (kst ns k) p.row (knS p.al)) (-1) 1048576=true:=by
    unfold AO inR at *
    simp only [rng,zqs,zqp]
    rcases h3 with h3|h3<;>omega
   simp only [rq,EP,xf,sdB,kI h1,kI (ED _ _ _),h4,h2.1,h2.2,Ez,Bool.and_self]
  ·exact CJ p rtl ns r _ (fun k hk=>hb k (List.mem_cons_of_mem _ hk)) (fun k hk=>hg k (List.mem_cons_of_mem _ hk)) x hx
theorem F7(bx:Bx)(ns:List ak)(rtl:Bool)(n:Int)(w h:ay)(st:St):D4 (wi bx ns rtl n w h st).1:=by
 unfold wi
 split
 ·exact⟨lK _ _,lK _ _,lK _ _⟩
 ·split
  ·exact⟨lK _ _,lK _ _,lK _ _⟩
  ·exact⟨lK _ _,lK _ _,uk _⟩
theorem Gl(ns:List ak)(rtl:Bool):∀(f:Nat)(n:Int)(w h:ay)(st:St),D4 (vK false ns rtl f n w h st).1
 |0,_,_,_,_=>(⟨⟨Int.le_refl 0,by decide⟩,⟨Int.le_refl 0,by decide⟩,⟨Int.le_refl 0,by decide⟩⟩:D4 ⟨0,0,0,[]⟩)
 |f+1,n,w,h,st=>by
  show D4 (kpF false rtl (wi (vK false ns rtl f) ns rtl) n w h st).1
  unfold kpF
  rw [if_pos rfl]
  exact F7 ..
theorem Ai{a b:Int}(h0:0<b)(h1: -4611686018427387904≤a)(h2:a≤4611686018427387904):b*fdv a b≤a∧a<b*fdv a b+b:=by
 have e:=Int.mul_tdiv_add_tmod a b
 have hq: -4611686018427387904≤a.tdiv b∧a.tdiv b≤4611686018427387904:=by
  have h3:=Int.natAbs_tdiv_le_natAbs a b
  omega
 have m1: -b<a.tmod b:=by have:=Int.lt_tmod_of_pos a h0;omega
 have m2:a.tmod b<b:=Int.tmod_lt_of_pos a h0
 have w1:wrap64 (a.tdiv b)=a.tdiv b:=by unfold wrap64;omega
 have w2:wrap64 (a.tdiv b-1)=a.tdiv b-1:=by unfold wrap64;omega
 unfold fdv
 rw [if_neg (by omega),w1,w2]
 split
 ·rw [Int.mul_sub,Int.mul_one];omega
 ·by_cases hm:0≤a.tmod b
  ·omega
  ·omega
theorem Ek{n L k:Int}(hL:L≤64)(hn:0≤n)(hn2:n≤1048576)(hk:0≤k)(hk2:k<L):0≤wrap64 (fdv (wrap64 (n*wrap64 (k+1))) L-fdv (wrap64 (n*k)) L)∧wrap64 (fdv (wrap64 (n*wrap64 (k+1))) L-fdv (wrap64 (n*k)) L)≤n:=by
 have e1:wrap64 (k+1)=k+1:=aB _ (by omega)
 have m0:0≤n*k:=Int.mul_nonneg hn hk
 have m1:n*k≤1048576*64:=Int.mul_le_mul hn2 (by omega) hk (by decide)
 have ee:n*(k+1)=n*k+n:=by rw [Int.mul_add,Int.mul_one]
 rw [e1,ee]
 generalize n*k=m at *
 rw [aB (m+n) (by omega),aB m (by omega)]
 obtain⟨c1,c2⟩:=Ai (a:=m+n) (b:=L) (by omega) (by omega) (by omega)
 obtain⟨d1,d2⟩:=Ai (a:=m) (b:=L) (by omega) (by omega) (by omega)
 generalize fdv (m+n) L=q1 at *
 generalize fdv m L=q0 at *
 have hD:L*(q1-q0)=L*q1-L*q0:=Int.mul_sub ..
 have v1: -1<q1-q0:=Int.lt_of_mul_lt_mul_left (a:=L) (by rw [hD,Int.mul_neg,Int.mul_one];omega) (by omega)
 have g1:n≤L*n:=by
  have:=Int.mul_le_mul_of_nonneg_right (show(1:Int)≤L by omega) hn
  omega
 have v2:q1-q0<n+1:=Int.lt_of_mul_lt_mul_left (a:=L) (by rw [hD,Int.mul_add,Int.mul_one];omega) (by omega)
 rw [aB (q1-q0) (by omega)]
 omega
theorem wZ{n L:Int}(hL:L≤64)(hn:0≤n)(hn2:n≤1048576):∀(j:Nat)(s:Int),0≤s→s+(j:Int)≤L→∀v∈shG n L s (List.replicate j 1),0≤v∧v≤n
 |0,s,_,_,v,hv=>by simp [shG]at hv
 |j+1,s,h0,h1,v,hv=>by
  rw [List.replicate_succ]at hv
  simp only [shG,List.mem_cons]at hv
  rcases hv with rfl|hv
  ·exact Ek hL hn hn2 h0 (by omega)
  ·rw [aB (s+1) (by omega)]at hv
   exact wZ hL hn hn2 j (s+1) (by omega) (by omega) v hv
theorem uD:∀(m:Nat)(a:Int),0≤a→a+(m:Int)≤1000→od a (List.replicate m 1)=a+(m:Int)
 |0,a,_,_=>by simp [od]
 |m+1,a,h0,h1=>by
  rw [List.replicate_succ]
  simp only [od]
  rw [aB (a+1) (by omega),uD m (a+1) (by omega) (by omega)]
  omega
theorem E8{n many:Int}(hn:0≤n)(hn2:n≤1048576):∀v∈evn n many,0≤v∧v≤n:=by
 have hm:=ow many
 have e:sg n=n:=by unfold sg bro;rw [if_neg (by omega)];split<;>omega
 unfold evn shr
 rw [if_pos (zG _ hm),e,uD _ 0 (Int.le_refl 0) (by omega)]
 exact wZ (by omega) hn hn2 _ 0 (Int.le_refl 0) (Int.le_refl _)
theorem El{c:Int}(h:inR c):sg c=c:=by unfold inR at h;unfold sg bro;rw [if_neg (by omega)];split<;>omega
theorem yX:∀(cs:List Int),(∀c∈cs,inR c)→0≤cs.sum∧cs.sum≤1048576*(cs.length:Int)∧∀c∈cs,c≤cs.sum
 | [],_=>by simp
 |c::r,h=>by
  obtain⟨h1,h2,h3⟩:=yX r fun x hx=>h x (List.mem_cons_of_mem _ hx)
  have hc:=h c (List.mem_cons_self ..)
  unfold inR at hc
  simp only [List.sum_cons,zqx]
  refine⟨by omega,by omega,fun x hx=> ?_⟩
  rcases List.mem_cons.1 hx with rfl|hx
  ·omega
  ·have:=h3 x hx;omega
theorem wR:∀(cs:List Int)(a:Int),(∀c∈cs,inR c)→0≤a→a+1048576*(cs.length:Int)≤1099511627776→yc a cs=a+cs.sum
 | [],a,_,_,_=>by simp [yc]
 |c::r,a,h,h0,h1=>by
  have hc:=h c (List.mem_cons_self ..)
  have hs:=El hc
  unfold inR at hc
  simp only [zqx]at h1
  simp only [yc,List.sum_cons]
  rw [hs,aB (a+c) (by omega),wR r (a+c) (fun x hx=>h x (List.mem_cons_of_mem _ hx)) (by omega) (by omega)]
  omega
theorem Fd{cs:List Int}{gap:Int}(h:∀c∈cs,inR c)(hl:cs.length≤12)(hg:inR gap):0≤crt cs gap∧crt cs gap≤33554432∧∀c∈cs,c≤crt cs gap:=by
 unfold crt
 split
 ·rename_i e;subst e;exact⟨Int.le_refl 0,by decide,fun c hc=>by cases hc⟩
 ·rename_i e
  have hp:0<cs.length:=List.length_pos_iff.2 e
  obtain⟨s1,s2,s3⟩:=yX cs h
  have m0:0≤gap*((cs.length:Int)-1):=Int.mul_nonneg hg.1 (by omega)
  have m1:gap*((cs.length:Int)-1)≤1048576*12:=Int.mul_le_mul hg.2 (by omega) (by omega) (by decide)
  rw [wR cs 0 h (Int.le_refl 0) (by omega)]
  generalize gap*((cs.length:Int)-1)=m at *
  rw [aB m (by omega),aB (0+cs.sum+m) (by omega)]
  exact⟨by omega,by omega,fun c hc=>by have:=s3 c hc;omega⟩
theorem Eg{cs:List Int}{gap inner ct:Int}(h:∀c∈cs,inR c)(hl:cs.length≤12)(hg:inR gap)(hi:inR inner):∀v∈vG cs gap inner ct,inR v:=by
 unfold vG
 split
 ·rename_i hc
  obtain⟨_,_,hf⟩:=hc
  obtain⟨c1,c2,c3⟩:=Fd h hl hg
  unfold inR at hi
  rw [aB (inner-crt cs gap) (by omega)]at hf⊢
  intro v hv
  obtain⟨q,hq,rfl⟩:=List.mem_map.1 hv
  obtain⟨a,b⟩:=q
  have hab:=List.of_mem_zip hq
  have h1:=h a hab.1
  have h2:=c3 a hab.1
  have h3:=E8 (by omega) (by omega) b hab.2
  unfold inR at h1⊢
  dsimp only
  rw [aB (a+b) (by omega)]
  omega
 ·exact h
theorem Fg(xs:List aw):inR (cro xs):=by
 unfold cro;split
 ·exact⟨Int.le_refl 0,by decide⟩
 ·exact uk _
theorem Fe{p:Pl}(hac:p.ac.mode=3→inR p.ac.n){ls:List (List Int)}(hl:ls.length≤12)(S:List aw):∀v∈wA p ls S,inR v:=by
 have h1:∀v∈ls.map (FO p S),inR v:=fun v hv=>by
  obtain⟨l,_,rfl⟩:=List.mem_map.1 hv
  unfold FO;split
  ·rename_i h;exact hac h.2
  ·exact Fg _
 unfold wA
 split
 ·rename_i h;exact Eg h1 (by rw [zql];exact hl) (Ab _ _) (hac h.2)
 ·exact h1
theorem AJ{p:Pl}{I:List aj}(hI:dT I=true)(hac:p.ac.mode=3→inR p.ac.n)(S:List aw):acr (wA p (mg p I) S) (si p) (xU p (wA p (mg p I) S))=true:=by
 have hl:(mg p I).length≤12:=Nat.le_trans (mf ..) (tJ hI).2
 have hcl:=uj p (mg p I) S (by omega)
 simp only [acr,zqs,zqf,zqp]
 exact⟨fun c hc=>kI (Fe hac hl S c hc),by rw [hcl];omega,kI (Ab _ _),kI (lK _ _)⟩
theorem z8(s:ay)(z:Int):(o4 s z).mode=3→inR (o4 s z).n:=by
 unfold o4
 split
 ·rename_i h;intro h3;rw [h]at h3;cases h3
 ·exact fun _=>uk _
theorem Ev(ns:List ak)(n:Int)(w h:ay):(plO ns n w h).ac.mode=3→inR (plO ns n w h).ac.n:=by
 show(if jm (kst ns n)then inH (kst ns n) h else inW (kst ns n) w).mode=3→inR (if jm (kst ns n)then inH (kst ns n) h else inW (kst ns n) w).n
 split
 ·exact z8 _ _
 ·exact z8 _ _
theorem EM{ns:List ak}(ht:ei ns=true){k:Int}(hk:isN ns k=true):yZ (kst ns k)=true:=by
 obtain⟨k1,k2,y,hy⟩:=bB hk
 rw [ip hy]
 simp only [ei,zqs]at ht
 have:=(jx ns ns 0).1 ht.2 _ y hy
 simp only [fg,zqs]at this
 exact this.1
theorem xx(bx:Bx)(p:Pl)(rtl:Bool)(ns:List ak):∀(ks:List Int)(st:St),(lu bx p rtl ns ks st).1.length=ks.length
 | [],_=>rfl
 |k::r,st=>by simp only [lu,zqx,xx bx p rtl ns r]
theorem EO{ns:List ak}(ht:ei ns=true){bx:Bx}(hb:∀k w h st,D4 (bx k w h st).1)(p:Pl)(rtl:Bool){ks:List Int}(hk:∀k∈ks,isN ns k=true)(hkl:ks.length≤12)(st:St):dT (lu bx p rtl ns ks st).1=true:=by
 simp only [dT,zqs,zqf,zqp]
 refine⟨CJ p rtl ns ks st (fun k _=>hb k) fun k hkm=> ?_,by rw [xx];omega⟩
 have:=EM ht (hk k hkm)
 simp only [yZ,stN,zqs]at this
 exact⟨this.1.2.2.2.2.2.2.2.1,this.1.2.2.2.2.2.2.2.2.1⟩
def cN:Nat→Nat
 |0=>0
 |f+1=>40*cN f+1
theorem DB{V:List (List AC)}{rtl keeps:Bool}{bx:Bx}{c L:Nat}{ns:List ak}{n:Int}(hk:∀kid∈flK ns n,xZ V rtl keeps bx c L kid)(hkl:(flK ns n).length<20)(w h:ay)(st:St):(wi bx ns rtl n w h st).2.1.length≤st.1.length+(40*c+1)∧(wi bx ns rtl n w h st).2.2.length≤st.2.length+(40*c+1):=by
 unfold wi
 split
 ·dsimp only
  rw [zqe,zqm]
  omega
 ·split
  ·dsimp only;omega
  ·unfold BJ
   dsimp only
   rw [show(plO ns n w h).kids=flK ns n from rfl]
   have h1:=wq (V:=V) (rtl:=rtl) (keeps:=keeps) (L:=L) (plO ns n w h) ns (flK ns n) st hk
   obtain⟨ra,hra⟩:=nmE (lu bx (plO ns n w h) rtl ns (flK ns n) st)
   rw [←hra]at h1⊢
   have h2:=v7 (V:=V) (rtl:=rtl) (keeps:=keeps) (L:=L) (plO ns n w h) ns ((flK ns n).zip (qF (plO ns n w h) ra.1)) ra.2 fun k hkm=>hk k.1 (by obtain⟨a,b⟩:=k;exact(List.of_mem_zip hkm).1)
   rw [zqB,sE,h1.1,Nat.min_self]at h2
   have hb:(flK ns n).length*c≤20*c:=Nat.mul_le_mul_right c (by omega)
   have h3:=h1.2
   have h4:=h2.2
   omega
theorem C0(ns:List ak)(rtl:Bool)(f:Nat)(n:Int)(w h:ay)(st:St):vK false ns rtl (f+1) n w h st=wi (vK false ns rtl f) ns rtl n w h st:=by
 show kpF false rtl (wi (vK false ns rtl f) ns rtl) n w h st=_
 unfold kpF
 rw [if_pos rfl]
theorem pJ{ns:List ak}(hl:ns.length≤1048576)(hs:∀y∈ns,ak.small y)(ht:ei ns=true)(rtl:Bool):∀(f:Nat)(n:Int),isN ns n=true→5≤ui ns n+(f:Int)→xZ (vwA ak.ac ns) rtl false (vK false ns rtl f) (cN f) 1073741824 n
 |0,n,hn,hd=>by have:=my ht hn;omega
 |f+1,n,hn,hd=>by
  obtain⟨n1,n2,x,hx⟩:=bB hn
  have hkl:=sC ht n1 hx
  have hkd:=iT ht n1 hx
  have hb:∀kid∈flK ns n,xZ (vwA ak.ac ns) rtl false (vK false ns rtl f) (cN f) 1073741824 kid:=fun kid hk=>by
   have hm:=qq hx kid hk
   have:=zX ht n1 hx kid hm
   exact pJ hl hs ht rtl f kid (hkd kid hm) (by omega)
  have hk12:(flK ns n).length≤12:=by rw [nx hx,kq];exact Nat.le_trans (List.length_filter_le _ _) hkl
  have hkF:∀k∈flK ns n,isN ns k=true:=fun k h=>hkd k (qq hx k h)
  refine⟨fun w h st=>by rw [C0];exact DB hb (by omega) w h st,fun w0 w1 h0 h1 st hm hq=> ?_⟩
  rw [C0]
  have hI:=EO ht (Gl ns rtl f) (plO ns n ⟨w0,w1⟩ ⟨h0,h1⟩) rtl hkF hk12 st
  refine qI _ rtl n _ _ _ _ _ w0 w1 h0 h1 (cj _) (cu _) (cj _) (cu _) (qG ns hl hs ht rtl false (vK false ns rtl f) (cN f) 1073741824 (Nat.le_refl _) n x hn hx w0 w1 h0 h1 hb st hm hq (fun I hI2 l hll=> ?_) (fun I st1 hI2 cs hcs=> ?_))
  ·subst hI2;exact AI hI l hll
  ·have e:I=(lu (vK false ns rtl f) (plO ns n ⟨w0,w1⟩ ⟨h0,h1⟩) rtl ns (flK ns n) st).1:=by rw [←hI2]
   rw [hcs]
   exact AJ (by rw [e];exact hI) (Ev ns n _ _) _
theorem Du{ns:List ak}(hl:ns.length≤1048576)(hs:∀y∈ns,ak.small y)(ht:ei ns=true)(rtl:Bool){kid:Int}(hk:isN ns kid=true):xZ (vwA ak.ac ns) rtl false (vK false ns rtl 4) 65641 1073741824 kid:=
 pJ hl hs ht rtl 4 kid hk (by have:=my ht hk;omega)
def st0:St:=([],[])
theorem SM0:SM st0.1=[]:=rfl
theorem SA0:SA st0.2=[]:=rfl
theorem Gm(ns:List ak)(rtl:Bool)(p:Pl)(kid:Int)(st:St):(uq (vK false ns rtl 4) p rtl ns kid st).1=yE (Au ns rtl 4) p rtl ns kid:=xP (xN ns rtl 4) p rtl ns kid st
theorem qT(ns:List ak)(hl:ns.length≤1048576)(hs:∀y∈ns,ak.small y)(n a b c d:Int)(rtl:Bool)(kid:Int):PC0 22 [.agg [.view (vwA ak.ac ns)],ai n,agP ⟨a,b⟩,agP ⟨c,d⟩,abl rtl,ai kid] (.t (ai (kbO ns n ⟨a,b⟩ ⟨c,d⟩ rtl kid))):=by
 have cO:=uL ns hl hs n a b c d
 unfold kbO F9
 cases hO:Bu ns n ⟨a,b⟩ ⟨c,d⟩
 case false=>
  rw [hO]at cO
  simp only [Bool.false_and,if_true]
  obtain⟨V,hV⟩:=nmE (vwA ak.ac ns)
  rw [←hV]at cO⊢
  refine hP ([(3,.hand)]) ([]) (c:=aN f22) aD func22 (by kernel_rfl) (by kernel_rfl) (by rfl) (by kernel_rfl) fun g eff hd F heff hhd hg hF=> ?_
  cbv
  repeat'((first|refine ad hg cO ?_|refine aa hg cO ?_);cbv)
  exact aV hF rfl
 obtain⟨hT,hI,n1,n2,x,hx,hkl,hkd⟩:=CI hO
 rw [hO]at cO
 obtain⟨hf1,hf2⟩:=CR hx hkl hkd
 have cK:=kl ns n x hs hT hl n1 n2 hx (by omega) hkd
 rw [←nx hx]at cK
 have cH:=jh (flK ns n) kid (by omega)
 have hc:=DW (flK ns n) kid
 obtain⟨C,hC⟩:=nmE (cnt (flK ns n) kid)
 rw [←hC]at cH hc
 clear hC
 cases hH:vp (flK ns n) kid
 case false=>
  rw [hH]at hc
  simp only [Bool.and_false,if_true]
  obtain⟨G,hG⟩:=nmE (vw ao (flK ns n))
  have hGl:G.length=(flK ns n).length:=by rw [hG,af]
  have iG:bS G=true:=by rw [hG];exact aI _ _
  have kG:∀y∈G,y.length=1:=by rw [hG];exact bJ (c:=ao) (k:=1) fun _=>rfl
  have dG:∀y∈G,y.all dat=true:=by rw [hG];exact aC
  rw [←hG]at cK cH
  obtain⟨V,hV⟩:=nmE (vwA ak.ac ns)
  rw [←hV]at cO cK⊢
  refine hP ([(3,.hand)]) ([]) (c:=aN f22) aD func22 (by kernel_rfl) (by kernel_rfl) (by rfl) (by kernel_rfl) fun g eff hd F heff hhd hg hF=> ?_
  have e:g .q .eql C 0=true:=by rw [bq hg];simpa using hc
  cbv
  repeat'((first|refine ad hg cO ?_|refine aa hg cO ?_);cbv)
  repeat'((first|refine bC hg cK (bp rfl) iG ?_|refine bN hg cK (bp rfl) iG ?_|refine fE hg cH (aq (bh (ab:=⟨_,_,G⟩) rfl kG dG) (aq (av rfl) (az))) rfl ?_|refine dJ hg cH (aq (bh (ab:=⟨_,_,G⟩) rfl kG dG) (aq (av rfl) (az))) rfl ?_|rw [e]);cbv)
  exact aV hF rfl
 rw [hH]at hc
 simp only [Bool.and_self,Bool.true_eq_false,if_false]
 have hik:isN ns kid=true:=hf2 kid (z9 hH)
 obtain⟨m1,m2,y,hy⟩:=bB hik
 obtain⟨p,hp⟩:=nmE (plO ns n ⟨a,b⟩ ⟨c,d⟩)
 have cp:=sG ns hl hs hT n x n1 n2 hx hkl hkd a b c d p hp
 have cB:=lM ns hl kid y hik hy rtl false (vK false ns rtl 4) 65641 1073741824 (Du hl hs hT rtl hik) n p (vw ao p.kids) st0 (by decide) (by decide)
 rw [Gm,SM0,SA0]at cB
 rw [←hp]
 obtain⟨st1,hst1⟩:=nmE ((uq (vK false ns rtl 4) p rtl ns kid st0).2)
 rw [←hst1]at cB
 have pM2:=cj st1.1
 have pA2:=cu st1.2
 obtain⟨M2,hM2⟩:=nmE (SM st1.1);(try rw [←hM2]at cB);(try rw [←hM2]at pM2)
 obtain⟨A2,hA2⟩:=nmE (SA st1.2);(try rw [←hA2]at cB);(try rw [←hA2]at pA2)
 obtain⟨X,hX⟩:=nmE (yE (Au ns rtl 4) p rtl ns kid);(try rw [←hX]at cB);(try rw [←hX]at⊢)
 obtain⟨K,hK⟩:=nmE (vw ao p.kids);(try rw [←hK]at cp);(try rw [←hK]at cB)
 obtain⟨KW,hKW⟩:=nmE (knS p.wide);(try rw [←hKW]at cp);(try rw [←hKW]at cB)
 obtain⟨G,hG⟩:=nmE (vw ao (flK ns n))
 have hGl:G.length=(flK ns n).length:=by rw [hG,af]
 have iG:bS G=true:=by rw [hG];exact aI _ _
 have kG:∀y∈G,y.length=1:=by rw [hG];exact bJ (c:=ao) (k:=1) fun _=>rfl
 have dG:∀y∈G,y.all dat=true:=by rw [hG];exact aC
 rw [←hG]at cK cH
 obtain⟨V,hV⟩:=nmE (vwA ak.ac ns)
 rw [←hV]at cO cK cp cB⊢
 clear hK hX hp hM2 hA2 hst1 hKW hV
 obtain⟨s,row,pw,ph,iw,ih,al,ac,ks⟩:=p
 refine hP ([(3,.hand)]) ([]) (c:=aN f22) aD func22 (by kernel_rfl) (by kernel_rfl) (by rfl) (by kernel_rfl) fun g eff hd F heff hhd hg hF=> ?_
 have e:g .q .eql C 0=false:=by rw [bq hg];simpa using hc
 cbv
 repeat'((first|refine ad hg cO ?_|refine aa hg cO ?_);cbv)
 repeat'((first|refine bC hg cK (bp rfl) iG ?_|refine bN hg cK (bp rfl) iG ?_|refine fE hg cH (aq (bh (ab:=⟨_,_,G⟩) rfl kG dG) (aq (av rfl) (az))) rfl ?_|refine dJ hg cH (aq (bh (ab:=⟨_,_,G⟩) rfl kG dG) (aq (av rfl) (az))) rfl ?_|rw [e]);cbv)
 refine eG hg hhd aD [0,1,2,4,5,6,7,8,9] (.op 3 [] (.op 10 [11] .done .none) .none) (by kernel_rfl) (by kernel_rfl) (S:=Unit) (fun _=>True) (fun _=>[(12,.t (ai (X)))]) (fun _=>[]) (fun BL hBL=> ?_) (fun _ _=> ?_)
 ·cbv
  ((repeat'(first|exact trivial|exact rfl|refine And.intro ?_ ?_|((first|refine ad hg cp ?_|refine aa hg cp ?_);cbv))))
  refine DX rfl hg 5 rfl [.bx 32 1 [.view V],.bx 28 2 [.J a,.J b],.bx 28 2 [.J c,.J d],.rw ⟨3,1,G⟩,.bx 79 5 [.view V,.B rtl,.B false,.own 5,.own 6],.rw ⟨199,10,[]⟩,.rw ⟨206,6,[]⟩] [.c (.ptr 4 0 0),.agg (nwL n s row al ac KW (.view K)),ai kid] [some 0,some 1,some 2,some 3,some 4,none,none] (wkM [some 0,some 1,some 2,some 3,some 4,none,none] ⟨⟨rfl,.inl ⟨rfl,rfl⟩,rfl,trivial⟩,trivial⟩ ⟨.inr (wqE rfl rfl),.inr (wqE rfl rfl),.inr (wqE rfl rfl),.inr ⟨_,_,rfl,rfl,rfl,rfl,.inl ⟨rfl,gW iG⟩⟩,.inr ⟨_,_,rfl,rfl,rfl,rfl,.inr ⟨⟨rfl,rfl,rfl,rfl,rfl,trivial⟩,trivial⟩⟩,.inr ⟨_,rfl,rfl⟩,.inr ⟨_,rfl,rfl⟩,trivial⟩ (by decide) ⟨.inr rfl,.inr rfl,.inr rfl,.inr rfl,.inr rfl,trivial⟩ ⟨.inr ⟨_,rfl⟩,.inr ⟨_,rfl⟩,.inr ⟨_,rfl⟩,.inr ⟨_,rfl⟩,.inr ⟨_,rfl⟩,trivial⟩) ?_
  (refine jd rfl hg 4 5 6 cB rfl rfl rfl (by decide) rfl rfl rfl ⟨rfl,.inl ⟨rfl,rfl⟩,rfl,trivial⟩ rfl ?_;cbv)
  (repeat'(first|exact trivial|exact rfl|((first|refine aa hg cp ?_|refine ad hg cp ?_);cbv)|exact hBL () trivial _ _ (Wk.weak (wkG [] ⟨rfl,trivial⟩ trivial (by decide) aG))|refine And.intro ?_ ?_))
 cbv
 exact aV hF rfl
theorem kC(x:jW)(hf:x.fit)(n:Int)(u v:ay)(rtl:Bool)(kid:Int):PC0 4 [.agg x.ac,ai n,agP u,agP v,abl rtl,ai kid] (.t (abl true)):=by
 have cz:=tA x 1048576 hf (by decide) (by decide)
 have ct:=fun hs=>tr x hs
 have ce:=fun hs=>tD x hs
 have sm:x.small→x.nodes.length≤1048576∧∀y∈x.nodes,ak.small y:=fun h=>by obtain⟨ns⟩:=x;exact⟨h.1,h.2.1⟩
 obtain⟨a,b⟩:=u
 obtain⟨c,d⟩:=v
 have cs:=fun hs:x.small=>qT x.nodes (sm hs).1 (sm hs).2 n a b c d rtl kid
 have ci:=fun hs:x.small=>rB x.nodes (sm hs).1 (sm hs).2 n a b c d rtl kid
 have t1:=lX ⟨a,b⟩
 have t2:=lX ⟨c,d⟩
 obtain⟨S,hS⟩:∃S:Prop,S=x.small:=⟨_,rfl⟩
 obtain⟨X,hX⟩:=nmE (kbO x.nodes n ⟨a,b⟩ ⟨c,d⟩ rtl kid)
 have hac:x.ac=[.view (vwA ak.ac x.nodes)]:=by obtain⟨ns⟩:=x;rfl
 rw [←hS]at cz ct ce cs ci
 rw [←hX]at cs ci
 rw [hac]at cz ct ce⊢
 obtain⟨V,hV⟩:=nmE (vwA ak.ac x.nodes)
 rw [←hV]at cz ct ce cs ci⊢
 clear hS hX hac hV sm hf
 refine ae (aN Tryz.f4) aD Tryz.func4 fun g F hg hF=> ?_
 have e0:g .q .neq X X=false:=by rw [bj hg];simp
 cbv
 refine yC hg cz rfl (fun Z hZ=> ?_)
 obtain⟨_,hZ⟩:=hZ
 cbv
 cases e:g .q .lss Z 0
 case true=>
  cbv
  exact bm hF rfl
 rw [bn hg,zqo]at e
 have hs:=hZ (by omega)
 replace ct:=ct hs
 replace ce:=ce hs
 replace cs:=cs hs
 replace ci:=ci hs
 cbv
 (repeat'((first|rw [e0]|refine ad hg ct ?_|refine aa hg ct ?_|refine ad hg t1 ?_|refine aa hg t1 ?_|refine ad hg t2 ?_|refine aa hg t2 ?_|refine ad hg cs ?_|refine aa hg cs ?_|refine ad hg ci ?_|refine aa hg ci ?_|refine ad hg ce ?_|refine aa hg ce ?_);cbv))
 exact bm hF rfl
end Go.Proofs.YtdnnffbbhijmkaaGreat
