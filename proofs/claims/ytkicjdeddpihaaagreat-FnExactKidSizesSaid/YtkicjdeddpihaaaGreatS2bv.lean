/- The reference's KidBase, KidItems, KidSizes. -/
import Derived.Test.YtkicjdeddpihaaaGreatS2bu
set_option linter.unusedVariables false
set_option linter.unusedSimpArgs false
set_option maxHeartbeats 32000000
namespace Go.Proofs.YtkicjdeddpihaaaGreat
open Go.ChangeShapes Go.WideShapes Go.ChangeAt Go.RowKit Am Go.Proofs.Tryz
set_option maxRecDepth 100000
theorem GX(qs:List kC)(x:kC):SA (qs++[x])=SA qs++[lc (kC.c x)]:=br _ _ _
theorem wm{α:Type}(c:α->Array Value):vw c ([]:List α)=[]:=rfl
theorem sn(ns:List ag)(hl:ns.length<=1048576)(hs:∀y∈ns,ag.small y)(ht:eU ns=true)(rtl keeps:Bool)(bx:Bx)(c L:Nat)(hL:L<=1073741824)(n:Int)(x:ag)(h1:isN ns n=true)(hx:ns[(n-1).toNat]? =some x)(w0 w1 h0' h1':Int)(hbx:∀kid∈flK ns n,Aa (vwA ag.ac ns) rtl keeps bx c L kid)(st:St)(hm:st.1.length+(40*c+1)<=L)(hq:st.2.length+(40*c+1)<=L)
  (hal:∀I,I=(kP bx (plO ns n ⟨w0,w1⟩ ⟨h0',h1'⟩) rtl ns (flK ns n) st).1->∀l∈mZ (plO ns n ⟨w0,w1⟩ ⟨h0',h1'⟩) I,al5 (lit I l) (l.map (elZ (qm (plO ns n ⟨w0,w1⟩ ⟨h0',h1'⟩) I))) (Dd (plO ns n ⟨w0,w1⟩ ⟨h0',h1'⟩)) (Dc (plO ns n ⟨w0,w1⟩ ⟨h0',h1'⟩) I)=true)
  (hac:∀I st1,(I,st1)=kP bx (plO ns n ⟨w0,w1⟩ ⟨h0',h1'⟩) rtl ns (flK ns n) st->∀cs,cs=yo (plO ns n ⟨w0,w1⟩ ⟨h0',h1'⟩) (mZ (plO ns n ⟨w0,w1⟩ ⟨h0',h1'⟩) I) (uG bx (plO ns n ⟨w0,w1⟩ ⟨h0',h1'⟩) rtl ns ((flK ns n).zip (qm (plO ns n ⟨w0,w1⟩ ⟨h0',h1'⟩) I)) st1).1->acr cs (uc (plO ns n ⟨w0,w1⟩ ⟨h0',h1'⟩)) (z6 (plO ns n ⟨w0,w1⟩ ⟨h0',h1'⟩) cs)=true):
  SE prog 97 (sR (vwA ag.ac ns) rtl keeps) (SM st.1) (SA st.2) [.c (.ptr 0 0 0),ai n,agP ⟨w0,w1⟩,agP ⟨h0',h1'⟩] (.t (.agg (kg.ac (xW bx ns rtl n ⟨w0,w1⟩ ⟨h0',h1'⟩ st).1))) (SM (xW bx ns rtl n ⟨w0,w1⟩ ⟨h0',h1'⟩ st).2.1) (SA (xW bx ns rtl n ⟨w0,w1⟩ ⟨h0',h1'⟩ st).2.2):=by
 obtain⟨n1,n2,_⟩:=bD h1
 have h0:=ju ht n1 hx
 have h9:=uu ht n1 hx
 have h6:∀k∈flK ns n,isN ns k=true:=fun k h=>h0 k (rR hx k h)
 have hY:flK ns n=ix (iU ns) (x.kids.filter (mi ns)):=rS hx
 have hU:(flK ns n).length<20:=by rw [hY,lv];exact Nat.lt_of_le_of_lt (List.length_filter_le _ _) (by omega)
 have cU:=nj ns n x hs ht hl n1 n2 hx (by omega) h0 w0 w1 h0' h1'
 rw [<-hY]at cU
 have cy:=bL ns n x n1 (by omega) hx (vwA ag.ac ns) _ _ rfl rfl rfl
 have hW:kst ns n=x.style:=jb hx
 have h7:nod ns n=x:=E6 hx
 obtain⟨p,hp⟩:=nmE (plO ns n ⟨w0,w1⟩ ⟨h0',h1'⟩)
 have ha:PC0 34 [.agg [.view (vwA ag.ac ns)],ai n,agP ⟨w0,w1⟩,agP ⟨h0',h1'⟩] (.t (.agg (nwL n p.s p.row p.al p.ac (knS p.wide) (.view (vw ah p.kids))))):=by
  rw [hp];unfold plO;rw [hW];exact cU
 clear cU
 have hb:p.kids=flK ns n:=by rw [hp];rfl
 have hP:p.s=x.style:=by rw [hp];exact hW
 unfold xW
 rw [h7,hW,<-hp]
 have cF:=fun(hkn:p.kids≠[])=>sq ns hl rtl keeps bx c L n p w0 w1 h0' h1' (by rw [hp];rfl) (by rw [hp];rfl) hkn (by rw [hb];exact hU) (by rw [hb];exact h6) (by rw [hb];exact hbx) st (by omega) (by omega) (by rw [hb,hp];exact hal _ rfl) (by rw [hb,hp];exact hac _ _ rfl)
 clear hal hac hbx
 obtain⟨V,hV⟩:=nmE (vwA ag.ac ns)
 rw [<-hV]at cy ha⊢
 simp only [<-hV]at cF
 obtain⟨Kx,hH⟩:=nmE (vw ah x.kids)
 obtain⟨Rx,hE⟩:=nmE (vw aI.c x.table.rules)
 rw [<-hH,<-hE]at cy
 have h3:x.table.rules.length<=1048576:=(hs x (zqd hx)).2.1
 have hf:=gz x.style
 obtain⟨fe,hj⟩:=nmE (oh x.style)
 rw [<-hj]at hf
 obtain⟨fl,ft,fr,fb⟩:=fe
 have hh:=ir fl ft fr fb
 have hC:=iv fl ft fr fb
 obtain⟨B1,hr⟩:=nmE (adE fl fr)
 obtain⟨B2,hD⟩:=nmE (adE ft fb)
 change PC0 _ _ (.i (adE fl fr))at hh
 change PC0 _ _ (.i (adE ft fb))at hC
 rw [<-hr]at hh
 rw [<-hD]at hC
 obtain⟨M0,hw⟩:=nmE (SM st.1)
 obtain⟨A0,hc⟩:=nmE (SA st.2)
 have hk:aB M0=true:=by rw [hw];exact cu _
 have hQ:aB A0=true:=by rw [hc];exact cV _
 have kn:∀g:Gd,g=G0 prog 3 f97.ntmps->g .q .gtr (g .ln (vw ah p.kids)) 0=decide (p.kids≠[]):=fun g hg=>by
  rw [cj hg,bB hg,aM]
  cases p.kids with
  |nil=>rfl
  |cons a b=>exact decide_eq_decide.2 ⟨fun _=>by simp,fun _=>by simp only [zqx];omega⟩
 obtain⟨K,hK⟩:=nmE (vw ah p.kids)
 rw [<-hK]at ha kn
 simp only [<-hK]at cF
 obtain⟨x0,x1,x2,x3,x4⟩:=x
 dsimp only at hP hj h3 hH hE hf cy⊢
 by_cases hG:x3=true
 case neg=>
  rw [if_neg hG]
  replace hG:x3=false:=by simpa using hG
  subst hG
  by_cases hkn:p.kids=[]
  case neg=>
   rw [if_neg (by rw [<-hb];exact hkn)]
   have cF:=cF hkn
   obtain⟨rr,h8⟩:=nmE (D9 bx p rtl ns st)
   rw [<-h8]at cF⊢
   rw [acE]at cF⊢
   have h4:=cu rr.2.1
   have hB:=cV rr.2.2
   rw [<-hw,<-hc]at cF⊢
   obtain⟨M2,hO⟩:=nmE (SM rr.2.1);(try rw [<-hO]at cF);(try rw [<-hO]at h4);(try rw [<-hO]at⊢)
   obtain⟨A2,hi⟩:=nmE (SA rr.2.2);(try rw [<-hi]at cF);(try rw [<-hi]at hB);(try rw [<-hi]at⊢)
   obtain⟨FR,hS⟩:=nmE (vw aX.c rr.1.frames);(try rw [<-hS]at cF);(try rw [<-hS]at⊢)
   obtain⟨KW,he⟩:=nmE (knS p.wide);(try rw [<-he]at ha);(try rw [<-he]at cF)
   clear he hS hO hi hw hc hK hp hb hP hj hr hD hV hH hE
   refine dJ ([(9,.hand),(11,.hand)]) ([]) (c:=aK f97) ay func97 (by kernel_rfl) (by kernel_rfl) (bl (by rfl)) (by kernel_rfl) (fun g hX hd F hJ hM hg hF=> ?_)
   have kn:=kn g hg
   rw [zqu hkn]at kn
   cbv
   ((repeat'((first|rw [kn]|refine ad hg cy ?_|refine ad hg hf ?_|refine aa hg ha ?_|refine jE rfl hg 0 1 2 cF rfl rfl rfl (by decide) rfl hk hQ ⟨rfl,.inl ⟨rfl,rfl⟩,.inl ⟨rfl,rfl⟩,.inl ⟨rfl,rfl⟩,trivial⟩ rfl ?_);cbv)))
   exact tu 9 10 hF rfl rfl rfl rfl rfl (by decide) rfl h4 hB
  rw [if_pos (by rw [<-hb];exact hkn)]
  dsimp only
  rw [acE]
  unfold Av
  dsimp only
  rw [<-hj]
  dsimp only
  rw [<-hr,<-hD,wm,<-hw,<-hc]
  obtain⟨WT,hA⟩:=nmE (wrap64 (0+B1))
  obtain⟨HT,hv⟩:=nmE (wrap64 (0+B2))
  rw [<-hA,<-hv]
  have hn:=ea w0 w1 WT
  have ho:=ea h0' h1' HT
  obtain⟨R1,hy⟩:=nmE (tak ⟨w0,w1⟩ WT);(try rw [<-hy]at hn);(try rw [<-hy]at⊢)
  obtain⟨R2,hz⟩:=nmE (tak ⟨h0',h1'⟩ HT);(try rw [<-hz]at ho);(try rw [<-hz]at⊢)
  obtain⟨KW,he⟩:=nmE (knS p.wide);(try rw [<-he]at ha)
  refine wD (t:=156) (k:=5) (V:=[]) (R:= .t (.agg [.J R1,.J R2,.J R2,.own 5])) ?_ (fun x hx=>by cases hx) (fun x hx=>by cases hx) rfl rfl rfl
  have t1:∀g:Gd,g=G0 prog 3 f97.ntmps->g .w .add .i64 0 B1=WT:=fun g hg=>by rw [aJ hg,hA]
  have t2:∀g:Gd,g=G0 prog 3 f97.ntmps->g .w .add .i64 0 B2=HT:=fun g hg=>by rw [aJ hg,hv]
  clear he hy hz hA hv hw hc hK hp hb hP hj hr hD hV hH hE cF
  refine dJ ([(9,.hand),(11,.hand)]) ([]) (c:=aK f97) ay func97 (by kernel_rfl) (by kernel_rfl) (bl (by rfl)) (by kernel_rfl) (fun g hX hd F hJ hM hg hF=> ?_)
  have kn:=kn g hg
  have t1:=t1 g hg
  have t2:=t2 g hg
  rw [zqt (Classical.not_not.2 hkn)]at kn
  cbv
  ((repeat'((first|rw [kn]|refine ad hg cy ?_|refine ad hg hf ?_|refine aa hg ha ?_);cbv)))
  refine fh hg hM ay [0,1,2,3,4,5,6,7,8,9,10,11] (.op 12 [13] (.op 14 [] (.op 15 [] .done .none) .none) (.op 14 [] (.op 12 [13] (.op 15 [] .done .none) .none) .none)) (by kernel_rfl) (by kernel_rfl) (S:=Unit) (fun _=>True) (fun _=>[(8,.p 5),(14,.p 6)]) (fun _=>[.bx 74 5 [.view V,.B rtl,.B keeps,.own 1,.own 2],.rw ⟨146,10,M0⟩,.rw ⟨153,6,A0⟩,.bx 34 2 [.J w0,.J w1],.bx 34 2 [.J h0',.J h1'],.bx 43 4 [.J 0,.J 0,.J 0,.N],.bx 43 4 [.J R1,.J R2,.J 0,.own 7],.rw ⟨156,5,[]⟩]) (fun BL hu=> ?_) (fun _ _=> ?_)
  ·cbv
   ((repeat'(first|exact trivial|exact rfl|refine And.intro ?_ ?_|(rw [t1];(try cbv))|(rw [t2];(try cbv))|((first|refine aa hg hn ?_|refine aa hg ho ?_|refine aa hg hh ?_|refine aa hg hC ?_);cbv))))
   all_goals first
    |exact hu () trivial _ _ (Wk.weak (wkM [some 0,some 1,some 2,some 3,some 4,some 5,some 10,some 9] zr2 ⟨.inr ⟨_,_,rfl,rfl,rfl,rfl,.inr ⟨zr5,trivial⟩⟩,.inr (wqE rfl hk),.inr (wqE rfl hQ),.inr (wqE rfl rfl),.inr (wqE rfl rfl),.inr (wqE rfl rfl),.inr ⟨_,_,rfl,rfl,rfl,rfl,.inr ⟨zr4,trivial⟩⟩,.inr (wqE rfl rfl),trivial⟩ (by decide) ⟨.inr rfl,.inr rfl,.inr rfl,trivial⟩ ⟨.inr ⟨_,rfl⟩,.inr ⟨_,rfl⟩,.inr ⟨_,rfl⟩,trivial⟩))
    |exact hu () trivial _ _ (Wk.weak (wkM [some 0,some 1,some 2,some 3,some 4,some 5,some 9,some 10] zr2 ⟨.inr ⟨_,_,rfl,rfl,rfl,rfl,.inr ⟨zr5,trivial⟩⟩,.inr (wqE rfl hk),.inr (wqE rfl hQ),.inr (wqE rfl rfl),.inr (wqE rfl rfl),.inr (wqE rfl rfl),.inr ⟨_,_,rfl,rfl,rfl,rfl,.inr ⟨zr4,trivial⟩⟩,.inr (wqE rfl rfl),trivial⟩ (by decide) ⟨.inr rfl,.inr rfl,.inr rfl,trivial⟩ ⟨.inr ⟨_,rfl⟩,.inr ⟨_,rfl⟩,.inr ⟨_,rfl⟩,trivial⟩))
  cbv
  exact CD 1 2 7 hF rfl (.inr zr4) rfl rfl rfl rfl (by decide) rfl hk hQ rfl
 rw [if_pos hG]
 subst hG
 have hZ:inW x2 ⟨w0,w1⟩=qv ⟨w0,w1⟩ B1:=by unfold inW ud;rw [<-hj,hr];rfl
 have hN:=fj w0 w1 B1
 rw [hZ]
 obtain⟨⟨i0,i1⟩,hI⟩:∃q,q=qv ⟨w0,w1⟩ B1:=⟨_,rfl⟩
 change PC0 _ _ (.t (agP (qv ⟨w0,w1⟩ B1)))at hN
 rw [<-hI]at hN⊢
 have hR:=iu i0 i1
 obtain⟨RO,hT⟩:=nmE (iq ⟨i0,i1⟩);(try rw [<-hT]at hR);(try rw [<-hT]at⊢)
 have cW:=qG x4.rules RO h3
 rw [<-hE]at cW
 obtain⟨⟨q0,q1⟩,h2⟩:∃q,q=wnt x4.rules RO:=⟨_,rfl⟩
 rw [<-h2]at cW⊢
 dsimp only
 rw [acE]
 unfold Av
 dsimp only
 rw [<-hj]
 dsimp only
 rw [<-hr,<-hD,wm,GX,<-hw,<-hc]
 obtain⟨WT,hA⟩:=nmE (wrap64 (q0+B1))
 obtain⟨HT,hv⟩:=nmE (wrap64 (q1+B2))
 rw [<-hA,<-hv]
 have hn:=ea w0 w1 WT
 have ho:=ea h0' h1' HT
 obtain⟨R1,hy⟩:=nmE (tak ⟨w0,w1⟩ WT);(try rw [<-hy]at hn);(try rw [<-hy]at⊢)
 obtain⟨R2,hz⟩:=nmE (tak ⟨h0',h1'⟩ HT);(try rw [<-hz]at ho);(try rw [<-hz]at⊢)
 obtain⟨KW,he⟩:=nmE (knS p.wide);(try rw [<-he]at ha)
 have h5:A0.length<=1073741824:=by rw [hc];unfold SA;rw [ar];omega
 obtain⟨A2,hi⟩:∃A,A=A0++[[.J n,.J w0,.J w1,.J h0',.J h1',.B rtl]]:=⟨_,rfl⟩
 have hB:aB A2=true:=by rw [hi,hc];unfold SA;exact jv _ _ rfl
 change SE _ _ _ _ _ _ _ _ (A0++[[.J n,.J w0,.J w1,.J h0',.J h1',.B rtl]])
 rw [<-hi]
 refine wD (t:=156) (k:=5) (V:=[]) (R:= .t (.agg [.J R1,.J R2,.J R2,.own 5])) ?_ (fun x hx=>by cases hx) (fun x hx=>by cases hx) rfl rfl rfl
 have t1:∀g:Gd,g=G0 prog 3 f97.ntmps->g .w .add .i64 q0 B1=WT:=fun g hg=>by rw [aJ hg,hA]
 have t2:∀g:Gd,g=G0 prog 3 f97.ntmps->g .w .add .i64 q1 B2=HT:=fun g hg=>by rw [aJ hg,hv]
 clear he hy hz hA hv hw hc hK hp hb hP hj hr hD hV hH hE cF h2 hT hI hZ kn
 refine dJ ([(9,.hand),(11,.hand)]) ([]) (c:=aK f97) ay func97 (by kernel_rfl) (by kernel_rfl) (bl (by rfl)) (by kernel_rfl) (fun g hX hd F hJ hM hg hF=> ?_)
 have t1:=t1 g hg
 have t2:=t2 g hg
 cbv
 ((repeat'((first|refine ad hg cy ?_|refine ad hg hf ?_|refine aa hg ha ?_);cbv)))
 refine fh hg hM ay [0,1,2,3,5,6,7,8,9,10,11,12] (.op 4 [] (.op 13 [] (.op 14 [15,16] (.op 17 [] .done .none) .none) .none) (.op 13 [] (.op 4 [] (.op 14 [15,16] (.op 17 [] .done .none) .none) .none) .none)) (by kernel_rfl) (by kernel_rfl) (S:=Unit) (fun _=>True) (fun _=>[(0,.p 0),(6,.p 3),(7,.p 4),(8,.p 5),(9,.p 6),(10,.p 7),(12,.i (0)),(13,.i (0))]) (fun _=>[.bx 74 5 [.view V,.B rtl,.B keeps,.own 1,.own 8],.rw ⟨146,10,M0⟩,.gn,.bx 34 2 [.J w0,.J w1],.bx 34 2 [.J h0',.J h1'],.bx 43 4 [.J 0,.J 0,.J 0,.N],.bx 119 64 (DJ ⟨x0,x1,x2,true,x4⟩ Kx Rx),.bx 62 4 [.J fl,.J ft,.J fr,.J fb],.rw ⟨153,6,A2⟩]) (fun BL hu=> ?_) (fun _ _=> ?_)
 ·cbv
  ((repeat'(first|exact trivial|exact rfl|refine And.intro ?_ ?_|(refine Jl hg rfl (by decide) h5 ?_;cbv))))
  all_goals
   rw [gZ hg,<-hi]
   exact hu () trivial _ _ (Wk.weak (wkM [some 0,some 1,none,some 3,some 4,some 5,some 6,some 7,some 10] zr8 ⟨.inr ⟨_,_,rfl,rfl,rfl,rfl,.inr ⟨zr5,trivial⟩⟩,.inr (wqE rfl hk),.inl rfl,.inr (wqE rfl rfl),.inr (wqE rfl rfl),.inr (wqE rfl rfl),.inr (wqE rfl rfl),.inr (wqE rfl rfl),.inr (wqE rfl hB),trivial⟩ (by decide) ⟨.inl rfl,.inr rfl,.inr rfl,trivial⟩ ⟨.inl rfl,.inr ⟨_,rfl⟩,.inr ⟨_,rfl⟩,trivial⟩))
 cbv
 ((repeat'((first|refine aa hg hh ?_|refine aa hg hN ?_|refine aa hg hR ?_|refine aa hg cW ?_);cbv)))
 refine fh hg hM ay [0,1,2,3,4,5,6,7,8,9,10,11] (.op 12 [13] (.op 14 [] (.op 15 [] .done .none) .none) (.op 14 [] (.op 12 [13] (.op 15 [] .done .none) .none) .none)) (by kernel_rfl) (by kernel_rfl) (S:=Unit) (fun _=>True) (fun _=>[(8,.p 5),(14,.p 6)]) (fun _=>[.bx 74 5 [.view V,.B rtl,.B keeps,.own 1,.own 8],.rw ⟨146,10,M0⟩,.gn,.bx 34 2 [.J w0,.J w1],.bx 34 2 [.J h0',.J h1'],.bx 43 4 [.J 0,.J 0,.J 0,.N],.bx 43 4 [.J R1,.J R2,.J 0,.own 7],.rw ⟨156,5,[]⟩,.rw ⟨153,6,A2⟩]) (fun BL hu=> ?_) (fun _ _=> ?_)
 ·cbv
  ((repeat'(first|exact trivial|exact rfl|refine And.intro ?_ ?_|(rw [t1];(try cbv))|(rw [t2];(try cbv))|((first|refine aa hg hn ?_|refine aa hg ho ?_|refine aa hg hh ?_|refine aa hg hC ?_);cbv))))
  all_goals first
   |exact hu () trivial _ _ (Wk.weak (wkM [some 0,some 1,none,some 3,some 4,some 5,some 10,some 9,some 8] zr2 ⟨.inr ⟨_,_,rfl,rfl,rfl,rfl,.inr ⟨zr5,trivial⟩⟩,.inr (wqE rfl hk),.inl rfl,.inr (wqE rfl rfl),.inr (wqE rfl rfl),.inr (wqE rfl rfl),.inr ⟨_,_,rfl,rfl,rfl,rfl,.inr ⟨zr4,trivial⟩⟩,.inr (wqE rfl rfl),.inr (wqE rfl hB),trivial⟩ (by decide) ⟨.inl rfl,.inr rfl,.inr rfl,trivial⟩ ⟨.inl rfl,.inr ⟨_,rfl⟩,.inr ⟨_,rfl⟩,trivial⟩))
   |exact hu () trivial _ _ (Wk.weak (wkM [some 0,some 1,none,some 3,some 4,some 5,some 9,some 10,some 8] zr2 ⟨.inr ⟨_,_,rfl,rfl,rfl,rfl,.inr ⟨zr5,trivial⟩⟩,.inr (wqE rfl hk),.inl rfl,.inr (wqE rfl rfl),.inr (wqE rfl rfl),.inr (wqE rfl rfl),.inr ⟨_,_,rfl,rfl,rfl,rfl,.inr ⟨zr4,trivial⟩⟩,.inr (wqE rfl rfl),.inr (wqE rfl hB),trivial⟩ (by decide) ⟨.inl rfl,.inr rfl,.inr rfl,trivial⟩ ⟨.inl rfl,.inr ⟨_,rfl⟩,.inr ⟨_,rfl⟩,trivial⟩))
 cbv
 exact CD 1 8 7 hF rfl (.inr zr4) rfl rfl rfl rfl (by decide) rfl hk hB rfl
theorem sr(V:LLA)(rtl:Bool)(kid:Int)(bb:kg)(M A0 M2 A2:LLA)(w0 w1 h0' h1':Int)(pM:aB M=true)(pA:aB A0=true)(pM2:aB M2=true)(pA2:aB A2=true)(hc:SE prog 97 (sR V rtl false) M A0 [.c (.ptr 0 0 0),ai kid,agP ⟨w0,w1⟩,agP ⟨h0',h1'⟩] (.t (.agg (kg.ac bb))) M2 A2):
  SE prog 44 (sR V rtl false) M A0 [.c (.ptr 0 0 0),ai kid,agP ⟨w0,w1⟩,agP ⟨h0',h1'⟩] (.t (.agg (kg.ac bb))) M2 A2:=by
 rw [acE]at hc⊢
 obtain⟨FR,ha⟩:=nmE (vw aX.c bb.frames);(try rw [<-ha]at hc);(try rw [<-ha]at⊢)
 clear ha
 refine dJ ([(7,.hand),(10,.hand)]) ([]) (c:=aK f44) ay func44 (by kernel_rfl) (by kernel_rfl) (bl (by rfl)) (by kernel_rfl) (fun g he hd F hb hf hg hF=> ?_)
 cbv
 (refine jE rfl hg 0 1 2 hc rfl rfl rfl (by decide) rfl pM pA ⟨rfl,rfl,.inl ⟨rfl,rfl⟩,.inl ⟨rfl,rfl⟩,trivial⟩ rfl ?_;cbv)
 exact tu 6 7 hF rfl rfl rfl rfl rfl (by decide) rfl pM2 pA2
def inR(n:Int):Prop:=0<=n/\n<=1048576
theorem vV(n:Int):inR (cl n):=by unfold inR cl bro;split<;>(try split)<;>omega
theorem H4{x:af}(h:s8 x=true):inR (hyp x):=by
 simp only [s8,rng,zqs,zqp]at h
 unfold inR hyp iJ
 split<;>(try split)<;>(try split)<;>omega
theorem Bz:∀(ps:List (Int×Int))(l:List Int),(∀p∈ps,inR p.2)->(∀v∈l,inR v)->∀v∈pQ ps l,inR v
 | [],l,_,h=>h
 |p::ps,l,hp,h=>by
  refine Bz ps (l.set p.1.toNat p.2) (fun q hq=>hp q (List.mem_cons_of_mem _ hq)) fun v hv=> ?_
  rcases List.mem_or_eq_of_mem_set hv with h1|h1
  ·exact h v h1
  ·rw [h1];exact hp p (List.mem_cons_self ..)
variable {xs:List af}
theorem Fe{fr:List Bool}(hx:∀x∈xs,s8 x=true)(hl:fr.length=xs.length){i:Int}(hi:i∈fre 0 fr):s8 (itA xs i)=true:=by
 obtain⟨h1,h2,_⟩:=ij fr 0 (Int.le_refl 0) i hi
 have ha:i.toNat<xs.length:=by omega
 have e:itA xs i=xs[i.toNat]:=by unfold itA;rw [zqc ha];rfl
 rw [e];exact hx _ (List.getElem_mem _)
theorem itR{x:af}(h:s8 x=true):inR x.least/\(0<=x.most->inR (qE x)):=by
 simp only [s8,rng,zqs,zqp]at h
 unfold inR qE
 refine⟨by omega,fun h0=> ?_⟩
 split<;>omega
theorem FY(X:Fx)(fr:List Bool)(rest:Int)(hx:∀x∈X.xs,s8 x=true)(hl:fr.length=X.xs.length):∀p∈X.setI fr rest,inR p.2:=by
 intro p hp
 unfold Fx.setI at hp
 split at hp
 ·unfold Fx.shs at hp
  obtain⟨q,_,rfl⟩:=List.mem_map.1 hp
  exact vV _
 ·rcases List.mem_append.1 hp with h|h
  ·split at h
   ·obtain⟨i,hi,rfl⟩:=List.mem_map.1 h
    unfold Fx.low at hi
    exact(itR (Fe hx hl (List.mem_filter.1 hi).1)).1
   ·cases h
  ·split at h
   ·obtain⟨i,hi,rfl⟩:=List.mem_map.1 h
    unfold Fx.hig at hi
    obtain⟨h1,h2⟩:=List.mem_filter.1 hi
    simp only [zqs,vB,zqp]at h2
    exact(itR (Fe hx hl h1)).2 h2.2.1
   ·cases h
theorem BC(X:Fx)(hx:∀x∈X.xs,s8 x=true):∀(k:Nat)(sz:List Int)(fr:List Bool)(r:List Int),fr.length=X.xs.length->(∀v∈sz,inR v)->X.runI k sz fr=some r->∀v∈r,inR v
 |0,sz,fr,r,_,_,h=>by simp [Fx.runI]at h
 |k+1,sz,fr,r,hl,hs,h=>by
  unfold Fx.runI at h
  split at h
  ·cases h;exact hs
  ·refine BC X hx k _ _ r ?_ (Bz _ _ (FY X fr _ hx hl) hs) h
   have:∀(is:List Int)(l:List Bool),(o7 is l).length=l.length:=by
    intro is
    induction is with
    |nil=>intro l;rfl
    |cons i is ih=>intro l;show(o7 is (l.set i.toNat true)).length=_;rw [ih,List.length_set]
   rw [this];exact hl
theorem Ib(hx:∀x∈xs,s8 x=true)(gap inner:Int):∀v∈flx xs gap inner,inR v:=by
 have hh:∀v∈xs.map hyp,inR v:=fun v hv=>by
  obtain⟨x,ha,rfl⟩:=List.mem_map.1 hv
  exact H4 (hx x ha)
 unfold flx
 split
 ·cases hr:(Fx.of xs gap inner).runI 13 (xs.map hyp) (xs.map (ma (Cv xs gap inner)))with
  |none=>intro v hv;cases hv
  |some r=>exact BC (Fx.of xs gap inner) hx 13 _ _ r (by rw [zql];rfl) hh hr
 ·exact hh
theorem lJ{n:Int}(h:inR n):rng n 0 1048576=true:=by
 unfold inR at h
 simp only [rng,zqs,zqp];exact h
theorem vn(h:ep xs=true):(∀x∈xs,s8 x=true)/\xs.length<=12:=by
 simp only [ep,zqs,zqf,zqp]at h
 exact⟨h.1,by omega⟩
theorem HG(h:ep xs=true)(gap room:Int)(wr:Bool)(inner:Int):∀v∈lsz xs gap room wr inner,inR v:=fun v hv=>by
 unfold lsz at hv
 obtain⟨l,_,hm⟩:=List.mem_flatMap.1 hv
 exact Ib (fun x hx=>(vn h).1 x (Cf hx)) gap inner v hm
theorem GD{zs:List Int}(h:∀v∈zs,inR v)(i:Int):inR (elZ zs i):=by
 unfold elZ
 split
 ·cases hx:zs[i.toNat]? with
  |none=>exact⟨Int.le_refl 0,by decide⟩
  |some v=>exact h v (zqd hx)
 ·exact⟨Int.le_refl 0,by decide⟩
variable {I:List af}
theorem IC{ZZ:List Int}(hI:ep I=true)(hZ:∀v∈ZZ,inR v){l:List Int}(hl:∀i∈l,0<=i/\i<(I.length:Int))(hll:l.length<=12){gap inner:Int}(hg:inR gap)(hin:inR inner):al5 (lit I l) (l.map (elZ ZZ)) gap inner=true:=by
 have e:=xY hl
 simp only [al5,zqs,zqf,zqp]
 refine⟨fun s hs=> ?_,?_,by rw [zql,e],lJ hg,lJ hin⟩
 ·obtain⟨i,_,rfl⟩:=List.mem_map.1 hs
  exact lJ (GD hZ i)
 ·simp only [ep,zqs,zqf,zqp]
  exact⟨fun x hx=>(vn hI).1 x (Cf hx),by rw [e];omega⟩
theorem mw(s:az)(n:Int):inR (tak s n):=by unfold tak;split<;>exact vV _
theorem Cw(s:ak)(w:Bool):inR (gp s w):=by unfold gp;split<;>exact vV _
theorem C3{p:Pl}(hI:ep I=true):∀l∈mZ p I,al5 (lit I l) (l.map (elZ (qm p I))) (Dd p) (Dc p I)=true:=fun l hl=>by
 unfold mZ at hl
 exact IC hI (HG hI _ _ _ _) (fun i hi=>uU hl hi) (Nat.le_trans (jR hl) (vn hI).2) (Cw _ _) (mw _ _)
theorem yO(v:dx)(base:Int):tG v base= -1\/inR (tG v base):=by
 unfold tG;split
 ·exact .inl rfl
 ·exact .inr (vV _)
theorem IE(a b:Int):inR (adE a b):=by unfold adE;exact vV _
theorem H9(s:ak)(w:Bool):inR (ud s w):=by unfold ud;split<;>exact IE _ _
theorem HH(s:ak)(w:Bool)(base:Int):inR (Ca s w base):=by
 have h1:=yO (if w then s.minWidth else s.minHeight) base
 have h2:=H9 s w
 show inR (if ud s w<orl (tG (if w then s.minWidth else s.minHeight) base) 0 then orl (tG (if w then s.minWidth else s.minHeight) base) 0 else ud s w)
 generalize tG (if w then s.minWidth else s.minHeight) base=a at *
 generalize ud s w=b at *
 unfold orl inR at *
 by_cases ha:a= -1
 ·rw [if_pos ha];split<;>omega
 ·rw [if_neg ha];split<;>omega
theorem HD(s:bh)(sd:Int)(rtl:Bool)(base:Int):rng (pd s sd rtl base) (-1048576) 1048576=true:=by
 have:=Hm (Gm (qL s sd rtl) base)
 unfold pd
 split
 ·rfl
 ·simp only [rng,zqs,zqp];exact this
theorem Hw(s:ak)(w:Bool)(o:Int):sL s w o= -1\/inR (sL s w o):=by
 unfold sL;split
 ·exact .inl rfl
 ·split<;>exact .inr (vV _)
def GY(b:kg):Prop:=inR b.wide/\inR b.high/\inR b.base
theorem Ix{bx:Bx}{kid:Int}(hb:∀w h st,GY (bx kid w h st).1)(p:Pl)(rtl:Bool)(ns:List ag)(st:St):inR (xp bx p rtl ns kid st).1:=by
 unfold xp
 split
 ·rename_i hn
  show inR (Ev p (kst ns kid) rtl)
  have h1:=yO (kst ns kid).basis (knS p.al)
  have h2:=yO (if p.row then(kst ns kid).width else(kst ns kid).height) (knS p.al)
  have h3:=Hw (kst ns kid) p.row (kcX p (kst ns kid) rtl).n
  unfold Ev at hn⊢
  split
  ·rename_i h;exact h1.resolve_left h
  ·rename_i h
   rw [if_neg h]at hn
   split
   ·rename_i h';exact h2.resolve_left h'
   ·rename_i h'
    rw [if_neg h']at hn
    split
    ·rename_i h''
     rw [if_pos h'']at hn
     exact h3.resolve_left hn
    ·rename_i h''
     rw [if_neg h'']at hn
     exact absurd rfl hn
 ·show inR (alB p.row (uq bx p.row kid _ _ st).1)
  unfold alB uq
  split
  ·exact(hb _ _ _).1
  ·exact(hb _ _ _).2.1
theorem Fd{bx:Bx}(p:Pl)(rtl:Bool)(ns:List ag):∀(ks:List Int)(st:St),(∀k∈ks,∀w h st,GY (bx k w h st).1)->(∀k∈ks,rng (kst ns k).grow 0 1000=true/\rng (kst ns k).shrink 0 1000=true)->∀x∈(kP bx p rtl ns ks st).1,s8 x=true
 | [],st,_,_,x,hx=>by simp [kP]at hx
 |k::r,st,hb,hg,x,hx=>by
  simp only [kP,List.mem_cons]at hx
  rcases hx with rfl|hx
  ·have h1:=Ix (hb k (List.mem_cons_self ..)) p rtl ns st
   have h2:=hg k (List.mem_cons_self ..)
   have h3:=yO (if p.row then(kst ns k).maxWidth else(kst ns k).maxHeight) (knS p.al)
   have h4:rng (Da (kst ns k) p.row (knS p.al)) (-1) 1048576=true:=by
    unfold Da inR at *
    simp only [rng,zqs,zqp]
    rcases h3 with h3|h3<;>omega
   simp only [s8,HU,yZ,sdB,lJ h1,lJ (HH _ _ _),h4,h2.1,h2.2,HD,Bool.and_self]
  ·exact Fd p rtl ns r _ (fun k hk=>hb k (List.mem_cons_of_mem _ hk)) (fun k hk=>hg k (List.mem_cons_of_mem _ hk)) x hx
theorem Jh(bx:Bx)(ns:List ag)(rtl:Bool)(n:Int)(w h:az)(st:St):GY (xW bx ns rtl n w h st).1:=by
 unfold xW
 split
 ·exact⟨mw _ _,mw _ _,mw _ _⟩
 ·split
  ·exact⟨mw _ _,mw _ _,mw _ _⟩
  ·exact⟨mw _ _,mw _ _,vV _⟩
theorem Jw(ns:List ag)(rtl:Bool):∀(f:Nat)(n:Int)(w h:az)(st:St),GY (xy false ns rtl f n w h st).1
 |0,_,_,_,_=>(⟨⟨Int.le_refl 0,by decide⟩,⟨Int.le_refl 0,by decide⟩,⟨Int.le_refl 0,by decide⟩⟩:GY ⟨0,0,0,[]⟩)
 |f+1,n,w,h,st=>by
  show GY (kpF false rtl (xW (xy false ns rtl f) ns rtl) n w h st).1
  unfold kpF
  rw [if_pos rfl]
  exact Jh ..
theorem CH{a b:Int}(h0:0<b)(h1: -4611686018427387904<=a)(h2:a<=4611686018427387904):b*fdv a b<=a/\a<b*fdv a b+b:=by
 have e:=Int.mul_tdiv_add_tmod a b
 have hq: -4611686018427387904<=a.tdiv b/\a.tdiv b<=4611686018427387904:=by
  have h3:=Int.natAbs_tdiv_le_natAbs a b
  omega
 have m1: -b<a.tmod b:=by have:=Int.lt_tmod_of_pos a h0;omega
 have m2:a.tmod b<b:=Int.tmod_lt_of_pos a h0
 have w1:wrap64 (a.tdiv b)=a.tdiv b:=by unfold wrap64;omega
 have w2:wrap64 (a.tdiv b-1)=a.tdiv b-1:=by unfold wrap64;omega
 unfold fdv
 rw [if_neg (by omega),w1,w2]
 split
 ·rw [Int.mul_sub,Int.mul_one];omega
 ·by_cases hm:0<=a.tmod b
  ·omega
  ·omega
theorem Hk{n L k:Int}(hL:L<=64)(hn:0<=n)(hn2:n<=1048576)(hk:0<=k)(hk2:k<L):0<=wrap64 (fdv (wrap64 (n*wrap64 (k+1))) L-fdv (wrap64 (n*k)) L)/\wrap64 (fdv (wrap64 (n*wrap64 (k+1))) L-fdv (wrap64 (n*k)) L)<=n:=by
 have e1:wrap64 (k+1)=k+1:=aq _ (by omega)
 have m0:0<=n*k:=Int.mul_nonneg hn hk
 have m1:n*k<=1048576*64:=Int.mul_le_mul hn2 (by omega) hk (by decide)
 have ee:n*(k+1)=n*k+n:=by rw [Int.mul_add,Int.mul_one]
 rw [e1,ee]
 generalize n*k=m at *
 rw [aq (m+n) (by omega),aq m (by omega)]
 obtain⟨c1,c2⟩:=CH (a:=m+n) (b:=L) (by omega) (by omega) (by omega)
 obtain⟨d1,d2⟩:=CH (a:=m) (b:=L) (by omega) (by omega) (by omega)
 generalize fdv (m+n) L=q1 at *
 generalize fdv m L=q0 at *
 have hD:L*(q1-q0)=L*q1-L*q0:=Int.mul_sub ..
 have v1: -1<q1-q0:=Int.lt_of_mul_lt_mul_left (a:=L) (by rw [hD,Int.mul_neg,Int.mul_one];omega) (by omega)
 have g1:n<=L*n:=by
  have:=Int.mul_le_mul_of_nonneg_right (show(1:Int)<=L by omega) hn
  omega
 have v2:q1-q0<n+1:=Int.lt_of_mul_lt_mul_left (a:=L) (by rw [hD,Int.mul_add,Int.mul_one];omega) (by omega)
 rw [aq (q1-q0) (by omega)]
 omega
theorem yQ{n L:Int}(hL:L<=64)(hn:0<=n)(hn2:n<=1048576):∀(j:Nat)(s:Int),0<=s->s+(j:Int)<=L->∀v∈shG n L s (List.replicate j 1),0<=v/\v<=n
 |0,s,_,_,v,hv=>by simp [shG]at hv
 |j+1,s,h0,h1,v,hv=>by
  rw [List.replicate_succ]at hv
  simp only [shG,List.mem_cons]at hv
  rcases hv with rfl|hv
  ·exact Hk hL hn hn2 h0 (by omega)
  ·rw [aq (s+1) (by omega)]at hv
   exact yQ hL hn hn2 j (s+1) (by omega) (by omega) v hv
theorem wk:∀(m:Nat)(a:Int),0<=a->a+(m:Int)<=1000->o4 a (List.replicate m 1)=a+(m:Int)
 |0,a,_,_=>by simp [o4]
 |m+1,a,h0,h1=>by
  rw [List.replicate_succ]
  simp only [o4]
  rw [aq (a+1) (by omega),wk m (a+1) (by omega) (by omega)]
  omega
theorem Ie{n many:Int}(hn:0<=n)(hn2:n<=1048576):∀v∈evn n many,0<=v/\v<=n:=by
 have hm:=pk many
 have e:sg n=n:=by unfold sg bro;rw [if_neg (by omega)];split<;>omega
 unfold evn shr
 rw [if_pos (B4 _ hm),e,wk _ 0 (Int.le_refl 0) (by omega)]
 exact yQ (by omega) hn hn2 _ 0 (Int.le_refl 0) (Int.le_refl _)
theorem Hl{c:Int}(h:inR c):sg c=c:=by unfold inR at h;unfold sg bro;rw [if_neg (by omega)];split<;>omega
theorem Bn:∀(cs:List Int),(∀c∈cs,inR c)->0<=cs.sum/\cs.sum<=1048576*(cs.length:Int)/\∀c∈cs,c<=cs.sum
 | [],_=>by simp
 |c::r,h=>by
  obtain⟨h1,h2,h3⟩:=Bn r fun x hx=>h x (List.mem_cons_of_mem _ hx)
  have hc:=h c (List.mem_cons_self ..)
  unfold inR at hc
  simp only [List.sum_cons,zqx]
  refine⟨by omega,by omega,fun x hx=> ?_⟩
  rcases List.mem_cons.1 hx with rfl|hx
  ·omega
  ·have:=h3 x hx;omega
theorem yI:∀(cs:List Int)(a:Int),(∀c∈cs,inR c)->0<=a->a+1048576*(cs.length:Int)<=1099511627776->Ac a cs=a+cs.sum
 | [],a,_,_,_=>by simp [Ac]
 |c::r,a,h,h0,h1=>by
  have hc:=h c (List.mem_cons_self ..)
  have hs:=Hl hc
  unfold inR at hc
  simp only [zqx]at h1
  simp only [Ac,List.sum_cons]
  rw [hs,aq (a+c) (by omega),yI r (a+c) (fun x hx=>h x (List.mem_cons_of_mem _ hx)) (by omega) (by omega)]
  omega
variable {cs:List Int}
theorem Ij{gap:Int}(h:∀c∈cs,inR c)(hl:cs.length<=12)(hg:inR gap):0<=crt cs gap/\crt cs gap<=33554432/\∀c∈cs,c<=crt cs gap:=by
 unfold crt
 split
 ·rename_i e;subst e;exact⟨Int.le_refl 0,by decide,fun c hc=>by cases hc⟩
 ·rename_i e
  have hp:0<cs.length:=List.length_pos_iff.2 e
  obtain⟨s1,s2,s3⟩:=Bn cs h
  have m0:0<=gap*((cs.length:Int)-1):=Int.mul_nonneg hg.1 (by omega)
  have m1:gap*((cs.length:Int)-1)<=1048576*12:=Int.mul_le_mul hg.2 (by omega) (by omega) (by decide)
  rw [yI cs 0 h (Int.le_refl 0) (by omega)]
  generalize gap*((cs.length:Int)-1)=m at *
  rw [aq m (by omega),aq (0+cs.sum+m) (by omega)]
  exact⟨by omega,by omega,fun c hc=>by have:=s3 c hc;omega⟩
theorem Hg{gap inner ct:Int}(h:∀c∈cs,inR c)(hl:cs.length<=12)(hg:inR gap)(hi:inR inner):∀v∈xv cs gap inner ct,inR v:=by
 unfold xv
 split
 ·rename_i hc
  obtain⟨_,_,hf⟩:=hc
  obtain⟨c1,c2,c3⟩:=Ij h hl hg
  unfold inR at hi
  rw [aq (inner-crt cs gap) (by omega)]at hf⊢
  intro v hv
  obtain⟨q,hq,rfl⟩:=List.mem_map.1 hv
  obtain⟨a,b⟩:=q
  have ha:=List.of_mem_zip hq
  have h1:=h a ha.1
  have h2:=c3 a ha.1
  have h3:=Ie (by omega) (by omega) b ha.2
  unfold inR at h1⊢
  dsimp only
  rw [aq (a+b) (by omega)]
  omega
 ·exact h
theorem Im(xs:List av):inR (cro xs):=by
 unfold cro;split
 ·exact⟨Int.le_refl 0,by decide⟩
 ·exact vV _
theorem Ik{p:Pl}(hac:p.ac.mode=3->inR p.ac.n){ls:List (List Int)}(hl:ls.length<=12)(S:List av):∀v∈yo p ls S,inR v:=by
 have h1:∀v∈ls.map (I4 p S),inR v:=fun v hv=>by
  obtain⟨l,_,rfl⟩:=List.mem_map.1 hv
  unfold I4;split
  ·rename_i h;exact hac h.2
  ·exact Im _
 unfold yo
 split
 ·rename_i h;exact Hg h1 (by rw [zql];exact hl) (Cw _ _) (hac h.2)
 ·exact h1
theorem C4{p:Pl}(hI:ep I=true)(hac:p.ac.mode=3->inR p.ac.n)(S:List av):acr (yo p (mZ p I) S) (uc p) (z6 p (yo p (mZ p I) S))=true:=by
 have hl:(mZ p I).length<=12:=Nat.le_trans (mY ..) (vn hI).2
 have ha:=vU p (mZ p I) S (by omega)
 simp only [acr,zqs,zqf,zqp]
 exact⟨fun c hc=>lJ (Ik hac hl S c hc),by rw [ha];omega,lJ (Cw _ _),lJ (mw _ _)⟩
theorem Cu(s:az)(z:Int):(qv s z).mode=3->inR (qv s z).n:=by
 unfold qv
 split
 ·rename_i h;intro h3;rw [h]at h3;cases h3
 ·exact fun _=>vV _
theorem Hy(ns:List ag)(n:Int)(w h:az):(plO ns n w h).ac.mode=3->inR (plO ns n w h).ac.n:=by
 show(if jN (kst ns n)then inH (kst ns n) h else inW (kst ns n) w).mode=3->inR (if jN (kst ns n)then inH (kst ns n) h else inW (kst ns n) w).n
 split
 ·exact Cu _ _
 ·exact Cu _ _
variable {ns:List ag}
theorem HQ(ht:eU ns=true){k:Int}(hk:isN ns k=true):Bp (kst ns k)=true:=by
 obtain⟨k1,k2,y,hy⟩:=bD hk
 rw [jb hy]
 simp only [eU,zqs]at ht
 have:=(jY ns ns 0).1 ht.2 _ y hy
 simp only [fH,zqs]at this
 exact this.1
theorem zt(bx:Bx)(p:Pl)(rtl:Bool)(ns:List ag):∀(ks:List Int)(st:St),(kP bx p rtl ns ks st).1.length=ks.length
 | [],_=>rfl
 |k::r,st=>by simp only [kP,zqx,zt bx p rtl ns r]
theorem HS(ht:eU ns=true){bx:Bx}(hb:∀k w h st,GY (bx k w h st).1)(p:Pl)(rtl:Bool){ks:List Int}(hk:∀k∈ks,isN ns k=true)(hkl:ks.length<=12)(st:St):ep (kP bx p rtl ns ks st).1=true:=by
 simp only [ep,zqs,zqf,zqp]
 refine⟨Fd p rtl ns ks st (fun k _=>hb k) fun k ha=> ?_,by rw [zt];omega⟩
 have:=HQ ht (hk k ha)
 simp only [Bp,stN,zqs]at this
 exact⟨this.1.2.2.2.2.2.2.2.1,this.1.2.2.2.2.2.2.2.2.1⟩
def cN:Nat->Nat
 |0=>0
 |f+1=>40*cN f+1
theorem Gk{V:LLA}{rtl keeps:Bool}{bx:Bx}{c L:Nat}{n:Int}(hk:∀kid∈flK ns n,Aa V rtl keeps bx c L kid)(hkl:(flK ns n).length<20)(w h:az)(st:St):(xW bx ns rtl n w h st).2.1.length<=st.1.length+(40*c+1)/\(xW bx ns rtl n w h st).2.2.length<=st.2.length+(40*c+1):=by
 unfold xW
 split
 ·dsimp only
  rw [zqe,zqm]
  omega
 ·split
  ·dsimp only;omega
  ·unfold D9
   dsimp only
   rw [show(plO ns n w h).kids=flK ns n from rfl]
   have h1:=yc (V:=V) (rtl:=rtl) (keeps:=keeps) (L:=L) (plO ns n w h) ns (flK ns n) st hk
   obtain⟨ra,hc⟩:=nmE (kP bx (plO ns n w h) rtl ns (flK ns n) st)
   rw [<-hc]at h1⊢
   have h2:=xI (V:=V) (rtl:=rtl) (keeps:=keeps) (L:=L) (plO ns n w h) ns ((flK ns n).zip (qm (plO ns n w h) ra.1)) ra.2 fun k ha=>hk k.1 (by obtain⟨a,b⟩:=k;exact(List.of_mem_zip ha).1)
   rw [zqB,ql,h1.1,Nat.min_self]at h2
   have hb:(flK ns n).length*c<=20*c:=Nat.mul_le_mul_right c (by omega)
   have h3:=h1.2
   have h4:=h2.2
   omega
theorem Fy(ns:List ag)(rtl:Bool)(f:Nat)(n:Int)(w h:az)(st:St):xy false ns rtl (f+1) n w h st=xW (xy false ns rtl f) ns rtl n w h st:=by
 show kpF false rtl (xW (xy false ns rtl f) ns rtl) n w h st=_
 unfold kpF
 rw [if_pos rfl]
theorem qV{ns:List ag}(hl:ns.length<=1048576)(hs:∀y∈ns,ag.small y)(ht:eU ns=true)(rtl:Bool):∀(f:Nat)(n:Int),isN ns n=true->5<=vR ns n+(f:Int)->Aa (vwA ag.ac ns) rtl false (xy false ns rtl f) (cN f) 1073741824 n
 |0,n,hn,hd=>by have:=ni ht hn;omega
 |f+1,n,hn,hd=>by
  obtain⟨n1,n2,x,hx⟩:=bD hn
  have hi:=uu ht n1 hx
  have hf:=ju ht n1 hx
  have hb:∀ha∈flK ns n,Aa (vwA ag.ac ns) rtl false (xy false ns rtl f) (cN f) 1073741824 ha:=fun ha hk=>by
   have hm:=rR hx ha hk
   have:=Cm ht n1 hx ha hm
   exact qV hl hs ht rtl f ha (hf ha hm) (by omega)
  have he:(flK ns n).length<=12:=by rw [rS hx,lv];exact Nat.le_trans (List.length_filter_le _ _) hi
  have hh:∀k∈flK ns n,isN ns k=true:=fun k h=>hf k (rR hx k h)
  refine⟨fun w h st=>by rw [Fy];exact Gk hb (by omega) w h st,fun w0 w1 h0 h1 st hm hq=> ?_⟩
  rw [Fy]
  have hI:=HS ht (Jw ns rtl f) (plO ns n ⟨w0,w1⟩ ⟨h0,h1⟩) rtl hh he st
  refine sr _ rtl n _ _ _ _ _ w0 w1 h0 h1 (cu _) (cV _) (cu _) (cV _) (sn ns hl hs ht rtl false (xy false ns rtl f) (cN f) 1073741824 (Nat.le_refl _) n x hn hx w0 w1 h0 h1 hb st hm hq (fun I hc l hj=> ?_) (fun I ho hc cs hg=> ?_))
  ·subst hc;exact C3 hI l hj
  ·have e:I=(kP (xy false ns rtl f) (plO ns n ⟨w0,w1⟩ ⟨h0,h1⟩) rtl ns (flK ns n) st).1:=by rw [<-hc]
   rw [hg]
   exact C4 (by rw [e];exact hI) (Hy ns n _ _) _
theorem Ga(hl:ns.length<=1048576)(hs:∀y∈ns,ag.small y)(ht:eU ns=true)(rtl:Bool){kid:Int}(hk:isN ns kid=true):Aa (vwA ag.ac ns) rtl false (xy false ns rtl 4) 65641 1073741824 kid:=
 qV hl hs ht rtl 4 kid hk (by have:=ni ht hk;omega)
def st0:St:=([],[])
theorem SM0:SM st0.1=[]:=rfl
theorem SA0:SA st0.2=[]:=rfl
theorem Jj(ns:List ag)(rtl:Bool)(p:Pl)(ks:List Int)(st:St):(kP (xy false ns rtl 4) p rtl ns ks st).1=yd (AJ ns rtl 4) p rtl ns ks:=vo (zU ns rtl 4) p rtl ns ks st
theorem qH(ns:List ag)(hl:ns.length<=1048576)(hs:∀y∈ns,ag.small y)(n a b c d:Int)(rtl:Bool):PC0 8 [.agg [.view (vwA ag.ac ns)],ai n,agP ⟨a,b⟩,agP ⟨c,d⟩,abl rtl] (.t (.c (.view (vw ah (kzO ns n ⟨a,b⟩ ⟨c,d⟩ rtl))))):=by
 have cO:=wu ns hl hs n a b c d
 unfold kzO
 cases hO:Db ns n ⟨a,b⟩ ⟨c,d⟩
 case false=>
  rw [hO]at cO
  simp only [if_true]
  rw [show vw ah ([]:List Int)=[]from rfl]
  obtain⟨V,hV⟩:=nmE (vwA ag.ac ns)
  rw [<-hV]at cO⊢
  refine nP (t:=3) (k:=1) (V:=[]) ?_ (fun x hx=>by cases hx) (fun x hx=>by cases hx)
  refine fN ([(4,.hand)]) ([]) (c:=aK Tryz.f8) ay Tryz.func8 (by kernel_rfl) (by kernel_rfl) (by rfl) (by kernel_rfl) fun g ht hd F hk ho hg hF=> ?_
  cbv
  repeat'(refine ad hg cO ?_;cbv)
  exact bS hF rfl rfl
 obtain⟨hT,hI,n1,n2,x,hx,hr,hq⟩:=Cj hO
 rw [hO]at cO
 simp only [Bool.true_eq_false,if_false]
 obtain⟨hz,hn⟩:=CA hx hr hq
 obtain⟨p,hp⟩:=nmE (plO ns n ⟨a,b⟩ ⟨c,d⟩)
 have ha:p.kids=flK ns n:=by rw [hp];rfl
 have cp:=ux ns hl hs hT n x n1 n2 hx hr hq a b c d p hp
 have cB:=k9 ns hl rtl false (xy false ns rtl 4) 65641 1073741824 n p (by rw [ha];omega) (by rw [ha];exact hn) (fun hv h=>Ga hl hs hT rtl (hn hv (by rw [<-ha];exact h))) st0 (by decide) (by decide)
 rw [Jj,SM0,SA0]at cB
 rw [<-hp,<-ha]
 obtain⟨he,hb⟩:=nmE ((kP (xy false ns rtl 4) p rtl ns p.kids st0).2)
 rw [<-hb]at cB
 have hy:=cu he.1
 have hw:=cV he.2
 obtain⟨M2,hj⟩:=nmE (SM he.1);(try rw [<-hj]at cB);(try rw [<-hj]at hy)
 obtain⟨A2,hf⟩:=nmE (SA he.2);(try rw [<-hf]at cB);(try rw [<-hf]at hw)
 have hi:(yd (AJ ns rtl 4) p rtl ns p.kids).length<=1048576:=by rw [qu,ha];omega
 obtain⟨I,hm⟩:=nmE (yd (AJ ns rtl 4) p rtl ns p.kids)
 rw [<-hm]at cB hi⊢
 have cS:=fun K=>k6 n p.s p.row p.al p.ac (knS p.wide) K I hi
 change∀K,PC0 _ _ (.t (.c (.view (vw ah (qm p I)))))at cS
 obtain⟨Z,hZ⟩:=nmE (vw ah (qm p I));(try rw [<-hZ]at cS);(try rw [<-hZ]at⊢)
 obtain⟨IV,hh⟩:=nmE (vw af.c I);(try rw [<-hh]at cB);(try rw [<-hh]at cS)
 obtain⟨K,hK⟩:=nmE (vw ah p.kids);(try rw [<-hK]at cp);(try rw [<-hK]at cB)
 replace cS:=cS K
 obtain⟨KW,hc⟩:=nmE (knS p.wide);(try rw [<-hc]at cp);(try rw [<-hc]at cB);(try rw [<-hc]at cS)
 obtain⟨V,hV⟩:=nmE (vwA ag.ac ns)
 rw [<-hV]at cO cp cB⊢
 clear hK hZ hh hp ha hj hf hb hc hV hi hm
 obtain⟨s,row,pw,ph,iw,ih,al,ac,ks⟩:=p
 refine fN ([(4,.hand)]) ([]) (c:=aK Tryz.f8) ay Tryz.func8 (by kernel_rfl) (by kernel_rfl) (by rfl) (by kernel_rfl) fun g ht hd F hk ho hg hF=> ?_
 cbv
 repeat'(refine ad hg cO ?_;cbv)
 (repeat'(refine ad hg cp ?_;cbv))
 refine fh hg ho ay [0,1,2,3,5] (.op 4 [] (.op 6 [7,8] .done .none) .none) (by kernel_rfl) (by kernel_rfl) (S:=Unit) (fun _=>True) (fun _=>[(10,.v Z)]) (fun _=>[]) (fun BL hu=> ?_) (fun _ _=> ?_)
 ·cbv
  ((repeat'(first|exact trivial|exact rfl|refine And.intro ?_ ?_)))
  refine GL rfl hg 5 rfl [.bx 32 1 [.view V],.bx 34 2 [.J a,.J b],.bx 34 2 [.J c,.J d],.bx 66 68 (nwL n s row al ac KW (.view K)),.bx 74 5 [.view V,.B rtl,.B false,.own 5,.own 6],.rw ⟨146,10,[]⟩,.rw ⟨153,6,[]⟩] [.c (.ptr 4 0 0),.agg (nwL n s row al ac KW (.view K))] [some 0,some 1,some 2,some 3,some 4,none,none] (wkM [some 0,some 1,some 2,some 3,some 4,none,none] ⟨⟨rfl,.inl ⟨rfl,rfl⟩,trivial⟩,trivial⟩ ⟨.inr (wqE rfl rfl),.inr (wqE rfl rfl),.inr (wqE rfl rfl),.inr (wqE rfl rfl),.inr ⟨_,_,rfl,rfl,rfl,rfl,.inr ⟨zr5,trivial⟩⟩,.inr ⟨_,rfl,rfl⟩,.inr ⟨_,rfl,rfl⟩,trivial⟩ (by decide) ⟨.inr rfl,.inr rfl,.inr rfl,.inr rfl,.inr rfl,trivial⟩ ⟨.inr ⟨_,rfl⟩,.inr ⟨_,rfl⟩,.inr ⟨_,rfl⟩,.inr ⟨_,rfl⟩,.inr ⟨_,rfl⟩,trivial⟩) ?_
  (repeat'((first|refine jE rfl hg 4 5 6 cB rfl rfl rfl (by decide) rfl rfl rfl ⟨rfl,.inl ⟨rfl,rfl⟩,trivial⟩ rfl ?_|refine aa hg cS ?_);cbv))
  (repeat'(first|exact trivial|exact rfl|(refine aa hg cS ?_;cbv)|exact hu () trivial _ _ (Wk.weak (wkG [] zr1 trivial (by decide) aD))|refine And.intro ?_ ?_))
 cbv
 exact gP hF rfl ⟨rfl,rfl⟩
end Go.Proofs.YtkicjdeddpihaaaGreat
